/- The proof's parts ahead of the row: of no condition of their own. -/
import Derived.ArgAppend
import Derived.Below
import Derived.BigQuiet
import Derived.ChangeSlices
import Derived.Deep.AppendLies
import Derived.Deep.CutBlock
import Derived.Deep.DeepCutAuto
import Derived.Deep.Draws
import Derived.Deep.LoopGhost
import Derived.Deep.OwnRows
import Derived.Deep.QuietTactic
import Derived.Deep.RegionHeld3
import Derived.KernelRfl
import Derived.Laws.BitsLemmas
import Derived.Laws.BytesArg
import Derived.Laws.IdiomCopy
import Derived.Laws.MakeOwn
import Derived.Laws.OwnMore
import Derived.Laws.Rows
import Derived.Laws.Slices
import Derived.Laws.StructEq
import Derived.Lib.AppendStr
import Derived.Lib.ConvBytes
import Derived.Maps.AppendAt
import Derived.OrdersHeld
import Derived.OwnWalk
import Derived.RowKit
import Derived.RowKit3
import Derived.SizedLaws
import Derived.Tactics
import Derived.WalkKit
import Derived.WalkLawsBesides
import Derived.WalkSpells
import Derived.WideLaws
import Derived.Test.YtgeonpciodepgaaProg
set_option linter.unusedVariables false
set_option linter.unusedSimpArgs false
namespace Go.Proofs.YtgeonpciodepgaaW.PrintWords
open Go.RowKit
structure jP (p:Prop):Prop where mk::(out:p)
structure kG (w w':World):Prop where mk::(out:∃n,w'=w.drewN n)
theorem kG.refl (w:World):kG w w:=⟨⟨0,rfl⟩⟩
theorem kG.step {w w':World}(h:kG w w') (n:Nat):kG w (w'.drewN n):=by
  obtain⟨m,rfl⟩:=h
  exact⟨⟨m+n,World.drewN_drewN ..⟩⟩
theorem kG.grown {w w':World}(h:kG w w'):Grown w w':=by
  obtain⟨n,rfl⟩:=h
  induction n with
  |zero=>exact Grown.refl _
  |succ n ih=>rw[←World.drew_drewN];exact Grown.drew ih
theorem kG.below {w w':World}(h:kG w w'):Below w.heap.size w w':=by
  obtain⟨n,rfl⟩:=h
  induction n with
  |zero=>exact Below.refl _ _
  |succ n ih=>rw[←World.drew_drewN];exact ih.drew
def rd (xs:List Int) (i:Int):Int:=xs.getD i.toNat 0
def bt (s:ByteArray) (i:Int):Int:=if h:i.toNat<s.size then((s[i.toNat]'h).toNat:Int) else 0
def bools (xs:List Bool):List Value:=xs.map fun x=> .bool x
theorem qx {w W:World}(h:Below w.heap.size w W) (o:Obj):Below w.heap.size w (W.alloc o):=h.alloc h.size o
theorem vw {B:Nat}{w W:World}(h:Below B w W):Below B w W.drew:=⟨h.os,h.tape,h.output,h.size,h.block⟩
theorem qO {B:Nat}{w W:World}(h:Below B w W) (n:Nat):Below B w (W.drewN n):=⟨h.os,h.tape,h.output,h.size,h.block⟩
theorem Ff {B:Nat}{w w1 w2:World}(h:Below B w w1) (hB:B<=w1.heap.size) (k:Below w1.heap.size w1 w2):Below B w w2:=
  h.trans ⟨k.os,k.tape,k.output,k.size,fun i hi=>k.block i (Nat.lt_of_lt_of_le hi hB)⟩
theorem tu {w w1:World}(h:Below w.heap.size w w1) (row:Option Nat):w.grownBy w1 row:=⟨h.os,h.tape,h.output,h.size,fun i hi _=>h.block i hi⟩
theorem zw {w w1:World}(h:Below w.heap.size w w1) {a:Addr}{v:Value}(hc:w.cell? a=some v):w1.cell? a=some v:=(h.cell (World.block_lt_of_cell? w a hc)).trans hc
theorem add_plain (g j:Nat):(⟨g,0,none⟩:Addr).add j=⟨g,j,none⟩:=by unfold Addr.add;split<;>simp_all
def pq (w:World) (k:IntKind) (A:Option Addr) (n:Nat) (xs:List Int):Prop:=
  xs.length=n/\n<=9223372036854775807/\(0<n->∃ad,A=some ad/\∀j,j<n->w.cell? (ad.add j)=some (.int k (xs.getD j 0)))
theorem pq.at_ {w:World}{k:IntKind}{A:Option Addr}{n:Nat}{xs:List Int}(h:pq w k A n xs) (i:Int) (h0:0<=i) (h1:i<n):∃ad,A=some ad/\w.cell? (ad.add i.toNat)=some (.int k (rd xs i)):=by
  obtain⟨ad,e,hc⟩:=h.2.2 (by omega)
  exact⟨ad,e,hc _ (by omega)⟩
theorem pq.below {w w1:World}{k:IntKind}{A:Option Addr}{n:Nat}{xs:List Int}(h:pq w k A n xs) (hb:Below w.heap.size w w1):pq w1 k A n xs:=
  ⟨h.1,h.2.1,fun hn=>by
    obtain⟨ad,e,hc⟩:=h.2.2 hn
    exact⟨ad,e,fun j hj=>zw hb (hc j hj)⟩⟩
theorem IA (W:World) (base:Nat) (e:TypeId) (size:Nat):W.ownsRow base e size (.slice none 0 0) 0 []:=⟨by simp,.inl ⟨rfl,rfl⟩⟩
theorem uy {w:World}{base:Nat}{e:TypeId}{size n:Nat}{v:Value}{xs:List Value}(h:w.ownsRow base e size v n xs) (k:Nat) (hk:v.ownBlock=some k):base<=k:=by
  rcases h.2 with⟨rfl,_⟩|⟨g,cap,cur,rfl,hb,_⟩
  · simp[Value.ownBlock]at hk
  have:g=k:=by simpa [Value.ownBlock] using hk
  omega
theorem Dx {w:World}{base:Nat}{e:TypeId}{size n:Nat}{v:Value}{xs:List Value}(h:w.ownsRow base e size v n xs) (k:Nat) (hk:v.ownBlock=some k):k<w.heap.size:=by
  rcases h.2 with⟨rfl,_⟩|⟨g,cap,cur,rfl,hb,hh,_⟩
  · simp[Value.ownBlock]at hk
  have:g=k:=by simpa [Value.ownBlock] using hk
  subst this
  exact(Array.getElem?_eq_some_iff.1 hh).1
theorem IP {w w1:World}{base:Nat}{e:TypeId}{size n:Nat}{v:Value}{xs:List Value}(h:w.ownsRow base e size v n xs) (hb:Below w.heap.size w w1):w1.ownsRow base e size v n xs:=
  h.kept (tu hb none) (by cases v.ownBlock<;>simp)
theorem IB {w w1:World}{base:Nat}{e:TypeId}{size n:Nat}{v:Value}{xs:List Value}(h:w.ownsRow base e size v n xs) {row:Option Nat}(hg:w.grownBy w1 row) (hne:v.ownBlock=none\/v.ownBlock≠row):w1.ownsRow base e size v n xs:=h.kept hg hne
theorem pq.o9 {w:World}{k:IntKind}{A:Option Addr}{n:Nat}{xs:List Int}(h:pq w k A n xs) (i:Nat) (hi:i<=n):pq w k A i (xs.take i):=by
  refine⟨by rw[List.length_take,h.1];omega,by have:=h.2.1;omega,fun hp=>?_⟩
  obtain⟨ad,e,hc⟩:=h.2.2 (by omega)
  refine⟨ad,e,fun j hj=>?_⟩
  rw[hc j (by omega)]
  simp[List.getD_eq_getElem?_getD,hj]
theorem pq.y7 {w:World}{k:IntKind}{A:Option Addr}{n c:Nat}{xs:List Int}(h:pq w k A n xs) (i:Nat) (hi:i<=n) (hc:n<=c):pq w k (if c=i then A else A.map (·.add i)) (n - i) (xs.drop i):=by
  refine⟨by rw[List.length_drop,h.1],by have:=h.2.1;omega,fun hp=>?_⟩
  obtain⟨ad,rfl,hcell⟩:=h.2.2 (by omega)
  rw[if_neg (by omega)]
  refine⟨ad.add i,rfl,fun j hj=>?_⟩
  have ha:(ad.add i).add j=ad.add (i+j):=by
    unfold Addr.add
    by_cases h1:i=0<;>by_cases h2:j=0<;>simp[h1,h2,Nat.add_assoc]
  rw[ha,hcell (i+j) (by omega)]
  simp[List.getD_eq_getElem?_getD,List.getElem?_drop]
def LeO {α:Type}(a b:Option α):Prop:=∀r,a=some r->b=some r
theorem LeO.refl {α:Type}(a:Option α):LeO a a:=fun _ h=>h
theorem LeO.none {α:Type}(b:Option α):LeO Option.none b:=fun _ h=>by cases h
theorem LeO.trans {α:Type}{a b c:Option α}(h:LeO a b) (k:LeO b c):LeO a c:=fun r hr=>k r (h r hr)
theorem LeO.ite {α:Type}{c:Prop} [Decidable c] {a a' b b':Option α}(h:LeO a a') (k:LeO b b'):LeO (if c then a else b) (if c then a' else b'):=by
  split
  · exact h
  exact k
theorem LeO.bind {α β:Type}{a a':Option α}{f f':α->Option β}(h:LeO a a') (k:∀x,LeO (f x) (f' x)):LeO (a.bind f) (a'.bind f'):=by
  intro r hr
  obtain⟨x,hx,hf⟩:=Option.bind_eq_some_iff.1 hr
  exact Option.bind_eq_some_iff.2 ⟨x,h x hx,k x r hf⟩
theorem LeO.map {α β:Type}{a a':Option α}(f:α->β) (h:LeO a a'):LeO (a.map f) (a'.map f):=by
  intro r hr
  obtain⟨x,hx,hf⟩:=Option.map_eq_some_iff.1 hr
  exact Option.map_eq_some_iff.2 ⟨x,h x hx,hf⟩
theorem Dq {α:Type}{g:Nat->Option α}(h:∀k,LeO (g k) (g (k+1))) (k:Nat):∀j,LeO (g k) (g (k+j))
  |0=>LeO.refl _
  |j+1=>(Dq h k j).trans (h (k+j))
theorem yu {α:Type}{g:Nat->Option α}(h:∀k,LeO (g k) (g (k+1))) {k k':Nat}(hk:k<=k') {r:α}(hr:g k=some r):g k'=some r:=by
  have:=Dq h k (k' - k) r hr
  rwa [Nat.add_sub_cancel' hk]at this
theorem together {α β:Type}{g:Nat->Option α}{f:Nat->Option β}(hg:∀k,LeO (g k) (g (k+1))) (hf:∀k,LeO (f k) (f (k+1))) {r:α}{q:β}(h:∃k,g k=some r) (h':∃k,f k=some q):∃k,g k=some r/\f k=some q:=by
  obtain⟨k,hk⟩:=h
  obtain⟨k',hk'⟩:=h'
  exact⟨max k k',yu hg (Nat.le_max_left _ _) hk,yu hf (Nat.le_max_right _ _) hk'⟩
def kF {α:Type}(R:α->List Value->Prop) (size:Nat) (ps:List α) (cs:List Value):Prop:=
  cs.length=ps.length*size/\∀j p,ps[j]? =some p->R p ((cs.drop (j*size)).take size)
theorem kF.none {α:Type}(R:α->List Value->Prop) (size:Nat):kF R size [] []:=⟨by simp,fun j p h=>by simp at h⟩
theorem kF.snoc {α:Type}{R:α->List Value->Prop}{size:Nat}{ps:List α}{cs c:List Value}{p:α}(h:kF R size ps cs) (hp:R p c) (hc:c.length=size):kF R size (ps++[p]) (cs++c):=by
  refine⟨by rw[List.length_append,h.1,hc,List.length_append,List.length_singleton,Nat.add_mul,Nat.one_mul],fun j q hq=>?_⟩
  rcases Nat.lt_or_ge j ps.length with hj|hj
  · rw[List.getElem?_append_left hj]at hq
    have h1:j*size+size<=cs.length:=by rw[h.1,←Nat.succ_mul];exact Nat.mul_le_mul_right _ hj
    have h2:=h.2 j q hq
    rw[List.drop_append_of_le_length (by omega),List.take_append_of_le_length (by rw[List.length_drop];omega)]
    exact h2
  have hj':j=ps.length:=by
    have:=(List.getElem?_eq_some_iff.1 hq).1
    rw[List.length_append,List.length_singleton]at this
    omega
  subst hj'
  have hq':p=q:=by simpa using hq
  subst hq'
  rw[←h.1,List.drop_left,←hc,List.take_length]
  exact hp
theorem kF.oC {α:Type}{R R':α->List Value->Prop}{size:Nat}{ps:List α}{cs:List Value}(h:kF R size ps cs) (hR:∀p c,R p c->R' p c):kF R' size ps cs:=⟨h.1,fun j p hj=>hR _ _ (h.2 j p hj)⟩
def qa {α:Type}(R:α->List Value->Prop) (size:Nat) (w:World) (A:Option Addr) (n:Nat) (ps:List α):Prop:=
  ps.length=n/\n<=9223372036854775807/\(0<n->∃ad,A=some ad/\∀j p,ps[j]? =some p->∃c,c.length=size/\R p c/\∀i u,c[i]? =some u->w.cell? (ad.add (j*size+i))=some u)
theorem qa.GX {α:Type}{R:α->List Value->Prop}{size:Nat}{w:World}{A:Option Addr}{n:Nat}{ps:List α}(h:qa R size w A n ps) (d:α) (i:Int) (h0:0<=i) (h1:i<n):
    ∃ad c,A=some ad/\c.length=size/\R (ps.getD i.toNat d) c/\∀j u,c[j]? =some u->w.cell? (ad.add (i.toNat*size+j))=some u:=by
  obtain⟨ad,e,hc⟩:=h.2.2 (by omega)
  have hl:i.toNat<ps.length:=by have:=h.1;omega
  obtain⟨c,hs,hr,hcell⟩:=hc i.toNat _ (List.getElem?_eq_getElem hl)
  refine⟨ad,c,e,hs,?_,hcell⟩
  rw[List.getD_eq_getElem?_getD,List.getElem?_eq_getElem hl]
  exact hr
theorem qa.oC {α:Type}{R R':α->List Value->Prop}{size:Nat}{w w1:World}{A:Option Addr}{n:Nat}{ps:List α}(h:qa R size w A n ps) (hb:Below w.heap.size w w1) (hR:∀p c,R p c->R' p c):qa R' size w1 A n ps:=
  ⟨h.1,h.2.1,fun hn=>by
    obtain⟨ad,e,hc⟩:=h.2.2 hn
    refine⟨ad,e,fun j p hj=>?_⟩
    obtain⟨c,hs,hr,hcell⟩:=hc j p hj
    exact⟨c,hs,hR _ _ hr,fun i u hu=>zw hb (hcell i u hu)⟩⟩
theorem IC {α:Type}{R:α->List Value->Prop}{w:World}{base n size:Nat}{e:TypeId}{v:Value}{ps:List α}{cs:List Value}(h:w.ownsRow base e size v n cs) (hR:kF R size ps cs) (hn:ps.length=n):
    ∃A c,v=.slice A n c/\qa R size w A n ps:=by
  rcases Nat.eq_zero_or_pos n with h0|h0
  · rcases h.2 with⟨rfl,rfl⟩|⟨g,cap,cur,rfl,_⟩
    · exact⟨none,0,rfl,hn,by omega,fun hp=>absurd hp (by omega)⟩
    exact⟨_,cap,rfl,hn,by omega,fun hp=>absurd hp (by omega)⟩
  obtain⟨g,cap,rfl,_,_⟩:=h.form h0
  have hm:n<=9223372036854775807:=by
    rcases h.2 with⟨_,h1⟩|⟨g',cap',cur,he,_,_,h1,h2,_⟩
    · omega
    simp only [maxLen]at h2
    omega
  refine⟨_,cap,rfl,hn,hm,fun _=>⟨_,rfl,fun j p hj=>⟨(cs.drop (j*size)).take size,?_,hR.2 j p hj,fun i u hu=>?_⟩⟩⟩
  · have hjl:=(List.getElem?_eq_some_iff.1 hj).1
    have h1:j*size+size<=cs.length:=by rw[hR.1,←Nat.succ_mul];exact Nat.mul_le_mul_right _ hjl
    rw[List.length_take,List.length_drop]
    omega
  refine h.cells (g:=g) rfl _ u ?_
  rw[List.getElem?_take]at hu
  split at hu
  · rw[List.getElem?_drop]at hu
    exact hu
  cases hu
theorem Av (ad:Addr) (m j:Nat) (hj:0<j):ad.add (m+j)=⟨(ad.add m).block,(ad.add m).off+j,none⟩:=by
  unfold Addr.add
  by_cases hm:m=0
  · subst hm
    simp[Nat.ne_of_gt hj]
  simp[hm,Nat.add_assoc]
section
variable {P:Program}{ops:Array Oper}{rest:List Oper}{o:Oper}{a:Act}{Q:Exit->Act->World->Prop}
theorem DF {w0 W:World}(base:Nat) (hgd:o.guard=none) (s x:Operand) (t e:TypeId) (z:Value) (size bytes:Nat)
    (ho:o.op=.call {callee:=.builtin .append,args:= #[s,x],argTypes:= #[t,t]})
    (ht:P.underlying t=some (.slice e)) (hinfo:(P.info? e).map (fun i=>(i.zero,i.size,i.bytes))=some (some z,size,bytes)) (hz:z.cells.size=size) (hs0:0<size) (hb0:0<bytes)
    (v:Value) (n:Nat) (xs ys:List Value) (hs:a.eval s=v) (hx:a.eval x=.slice (some ⟨W.heap.size,0,none⟩) 1 1) (hys:ys.length=size) (h1:∀u∈ys,u.oneCell'=true)
    (HO:W.ownsRow base e size v n xs) (HB:Below base w0 W) (hbase:base<=W.heap.size) (hl:(n+1)*bytes<=140737488355328)
    (h:∀v1 w1,w1.ownsRow base e size v1 (n+1) (xs++ys)->Below base w0 w1->W.grownBy w1 v.ownBlock->(v1.ownBlock=v.ownBlock\/∃b,v1.ownBlock=some b/\W.heap.size<=b)->wpList P ops Q rest (a.put o.dst v1) w1):
    wpList P ops Q (o::rest) a (W.alloc (.cells ys.toArray e)):=by
  obtain⟨i0,hi,hzz⟩:=Option.map_eq_some_iff.1 hinfo
  simp only [Prod.mk.injEq]at hzz
  obtain⟨hz0,hz1,hz2⟩:=hzz
  have hlen:n+1<=140737488355328:=Nat.le_trans (Nat.le_mul_of_pos_right _ hb0) hl
  refine wpList_append_own_at (W.alloc (.cells ys.toArray e)) hgd s x t ho base e i0 z size bytes ht hi hz0 hz1 hz2 hz hs0 v n xs hs (HO.alloc _) ⟨W.heap.size,0,none⟩ 1 1 ys hx (by rw[hys];simp)
    (by simpa using World.news_of_block (cs:=ys.toArray) (t:=e) (fr:=(0,0)) (heap_alloc_new W (.cells ys.toArray e))) h1 (by simp only [maxLen];omega) hl (by simp;omega) ?_
  intro v1 w1 hown hg _ hat
  refine h v1 w1 hown ((HB.alloc hbase _).grown hg (by simp;omega) (uy HO)) (World.grownBy.trans (World.grownBy_alloc W _ _) hg) ?_
  rcases hat with hat|hat
  · exact .inl hat
  exact .inr ⟨_,hat,by simp⟩
end
theorem own_ne {w:World}{base:Nat}{e t:TypeId}{size n g:Nat}{v:Value}{xs:List Value}{cs:Array Value}(h:w.ownsRow base e size v n xs) (hg:w.heap[g]? =some (.cells cs t (0,0))) (hne:e≠t):some g≠v.ownBlock:=by
  rcases h.2 with⟨rfl,_⟩|⟨g',cap,cur,rfl,_,hh,_⟩
  · simp[Value.ownBlock]
  intro he
  have:g=g':=by simpa [Value.ownBlock] using he
  subst this
  rw[hg]at hh
  injection hh with hh
  injection hh with _ ht
  exact hne ht.symm
theorem IE {w:World}{base:Nat}{e:TypeId}{size n:Nat}{v:Value}{xs:List Value}(h:w.ownsRow base e size v n xs) {p:Addr}(hne:some p.block≠v.ownBlock) (u:Value):(w.setCell p u).ownsRow base e size v n xs:=by
  obtain⟨h1,h2⟩:=h
  refine⟨h1,?_⟩
  rcases h2 with h2|⟨g,cap,cur,rfl,hg,hh,r⟩
  · exact .inl h2
  exact .inr ⟨g,cap,cur,rfl,hg,by rw[Below.heap_setCell _ _ _ _ (fun e=>hne (by rw[e];rfl))];exact hh,r⟩
theorem yD {w:World}{g:Nat}{t:TypeId}{cs:Array Value}(h:w.heap[g]? =some (.cells cs t (0,0))) (i:Nat) (u:Value):(w.setCell ⟨g,i,none⟩ u).heap[g]? =some (.cells (cs.setIfInBounds i u) t (0,0)):=by
  simp[World.setCell,Array.getElem?_modify,h]
theorem pV {w:World}{g:Nat}{t:TypeId}{cs:Array Value}(h:w.heap[g]? =some (.cells cs t (0,0))) {p:Addr}(hp:g≠p.block) (u:Value):(w.setCell p u).heap[g]? =some (.cells cs t (0,0)):=(Below.heap_setCell w p u g hp).trans h
theorem lq {w:World}{g:Nat}{o:Obj}(h:w.heap[g]? =some o):g<w.heap.size:=(Array.getElem?_eq_some_iff.1 h).1
theorem mq {w:World}{g:Nat}{t:TypeId}{cs:Array Value}(h:w.heap[g]? =some (.cells cs t (0,0))) (i:Nat):w.cell? ⟨g,i,none⟩=cs[i]? :=cell_of_row w g i cs t (0,0) h
theorem l8 {w:World}{g:Nat}{t:TypeId}{cs:Array Value}(h:w.heap[g]? =some (.cells cs t (0,0))) (i:Nat):w.frozen? ⟨g,i,none⟩=false:=by simp[World.frozen?,h]
theorem AR {w w1:World}{g:Nat}{o:Obj}{row:Option Nat}(h:w.heap[g]? =some o) (hg:w.grownBy w1 row) (hne:some g≠row):w1.heap[g]? =some o:=(hg.block g (lq h) hne).trans h
def lQ (w w':World) (g:Nat) (row:Option Nat):Prop:=w.heap.size<=w'.heap.size/\∀i,i<w.heap.size->i≠g->some i≠row->w'.heap[i]? =w.heap[i]?
theorem lQ.refl (w:World) (g:Nat) (row:Option Nat):lQ w w g row:=⟨Nat.le_refl _,fun _ _ _ _=>rfl⟩
theorem lQ.vY {w w1:World}{row:Option Nat}(h:w.grownBy w1 row) (g:Nat):lQ w w1 g row:=⟨h.size,fun i hi _ hr=>h.block i hi hr⟩
theorem lQ.of_below {w w1:World}(h:Below w.heap.size w w1) (g:Nat) (row:Option Nat):lQ w w1 g row:=⟨h.size,fun i hi _ _=>h.block i hi⟩
theorem lQ.xK {w w1:World}{g:Nat}{row:Option Nat}(h:lQ w w1 g row) (j:Nat) (u:Value):lQ w (w1.setCell ⟨g,j,none⟩ u) g row:=
  ⟨by simpa [World.setCell] using h.1,fun i hi hg hr=>(Below.heap_setCell w1 ⟨g,j,none⟩ u i hg).trans (h.2 i hi hg hr)⟩
theorem lQ.trans {w w1 w2:World}{g:Nat}{row row1:Option Nat}(h:lQ w w1 g row) (k:lQ w1 w2 g row1) (hr:row1=row\/∃b,row1=some b/\w.heap.size<=b):lQ w w2 g row:=
  ⟨Nat.le_trans h.1 k.1,fun i hi hg hn=>by
    refine(k.2 i (Nat.lt_of_lt_of_le hi h.1) hg ?_).trans (h.2 i hi hg hn)
    rcases hr with rfl|⟨b,rfl,hb⟩
    · exact hn
    intro e
    injection e with e
    omega⟩
theorem lQ.blk {w w1:World}{g g':Nat}{row:Option Nat}{o:Obj}(h:lQ w w1 g row) (hb:w.heap[g']? =some o) (hg:g'≠g) (hr:some g'≠row):w1.heap[g']? =some o:=(h.2 g' (lq hb) hg hr).trans hb
theorem lQ.own {w w1:World}{g:Nat}{row:Option Nat}{base:Nat}{e:TypeId}{size n:Nat}{v:Value}{xs:List Value}(h:lQ w w1 g row) (ho:w.ownsRow base e size v n xs) (hg:v.ownBlock≠some g) (hr:v.ownBlock=none\/v.ownBlock≠row):w1.ownsRow base e size v n xs:=by
  obtain⟨h1,h2⟩:=ho
  refine⟨h1,?_⟩
  rcases h2 with h2|⟨b,cap,cur,rfl,hb,hh,r⟩
  · exact .inl h2
  refine .inr ⟨b,cap,cur,rfl,hb,h.blk hh ?_ ?_,r⟩
  · intro e
    exact hg (by rw[←e];rfl)
  rcases hr with hr|hr
  · simp[Value.ownBlock]at hr
  exact hr
def Ev {α:Type}(g:Nat->Option α) (r:α):Prop:=∃K,∀k,K<=k->g k=some r
theorem Ev.of {α:Type}{g:Nat->Option α}{r:α}(hg:∀k,LeO (g k) (g (k+1))) {k:Nat}(h:g k=some r):Ev g r:=⟨k,fun _ hk=>yu hg hk h⟩
theorem Ev.now {α:Type}(r:α):Ev (fun _=>some r) r:=⟨0,fun _ _=>rfl⟩
theorem Ev.rounds {α:Type}{g:Nat->Option α}{r:α}(h:Ev g r):∃k,g k=some r:=by
  obtain⟨K,h⟩:=h
  exact⟨K,h K (Nat.le_refl _)⟩
theorem Ev.bind {α β:Type}{g:Nat->Option α}{f:Nat->α->Option β}{a:α}{r:β}(h:Ev g a) (k:Ev (fun n=>f n a) r):Ev (fun n=>(g n).bind (f n)) r:=by
  obtain⟨K,h⟩:=h
  obtain⟨K',k⟩:=k
  refine⟨max K K',fun n hn=>?_⟩
  have h1:=h n (by omega)
  have h2:=k n (by omega)
  simp only [h1,Option.bind_some]
  exact h2
theorem Ev.step {α:Type}{g f:Nat->Option α}{r:α}(h:∀k,g (k+1)=f k) (k:Ev f r):Ev g r:=by
  obtain⟨K,k⟩:=k
  refine⟨K+1,fun n hn=>?_⟩
  obtain⟨m,rfl⟩:∃m,n=m+1:=⟨n - 1,by omega⟩
  rw[h]
  exact k m (by omega)
theorem Ev.congr {α:Type}{g f:Nat->Option α}{r:α}(h:∀k,g k=f k) (k:Ev f r):Ev g r:=by
  obtain⟨K,k⟩:=k
  exact⟨K,fun n hn=>(h n).trans (k n hn)⟩
section
variable {P:Program}{ops:Array Oper}{o:Oper}{a:Act}{Q:Exit->Act->World->Prop}{K:Act->World->Prop}
theorem Jt {w0 W:World}(base:Nat) (hw:Region.wanted o (yielded ops a.tmps)=true) (s x:Operand) (t e:TypeId) (z:Value) (size bytes:Nat)
    (ho:o.op=.call {callee:=.builtin .append,args:= #[s,x],argTypes:= #[t,t]})
    (ht:P.underlying t=some (.slice e)) (hinfo:(P.info? e).map (fun i=>(i.zero,i.size,i.bytes))=some (some z,size,bytes)) (hz:z.cells.size=size) (hs0:0<size) (hb0:0<bytes)
    (v:Value) (n:Nat) (xs ys:List Value) (hs:a.eval s=v) (hx:a.eval x=.slice (some ⟨W.heap.size,0,none⟩) 1 1) (hys:ys.length=size) (h1:∀u∈ys,u.oneCell'=true)
    (HO:W.ownsRow base e size v n xs) (HB:Below base w0 W) (hbase:base<=W.heap.size) (hl:(n+1)*bytes<=140737488355328)
    (h:∀v1 w1,w1.ownsRow base e size v1 (n+1) (xs++ys)->Below base w0 w1->W.grownBy w1 v.ownBlock->(v1.ownBlock=v.ownBlock\/∃b,v1.ownBlock=some b/\W.heap.size<=b)->K (a.put o.dst v1) w1):
    if Region.wanted o (yielded ops a.tmps)=true then Oper.wp P o a (W.alloc (.cells ys.toArray e)) K Q else K (a.put o.dst undef) (W.alloc (.cells ys.toArray e)):=by
  obtain⟨i0,hi,hzz⟩:=Option.map_eq_some_iff.1 hinfo
  simp only [Prod.mk.injEq]at hzz
  obtain⟨hz0,hz1,hz2⟩:=hzz
  have hlen:n+1<=140737488355328:=Nat.le_trans (Nat.le_mul_of_pos_right _ hb0) hl
  rw[if_pos hw]
  obtain⟨v1,w1,hr,hown,hg,_,hat⟩:=run_append_own_at (P:=P) (W.alloc (.cells ys.toArray e)) base t o.type e i0 z size bytes ht hi hz0 hz1 hz2 hz hs0 v n xs (HO.alloc _) ⟨W.heap.size,0,none⟩ 1 1 ys (by rw[hys];simp)
    (by simpa using World.news_of_block (cs:=ys.toArray) (t:=e) (fr:=(0,0)) (heap_alloc_new W (.cells ys.toArray e))) h1 (by simp only [maxLen];omega) hl (by simp;omega)
  unfold Oper.wp execOp
  simp only [ho,resolve,invoke,builtin,Sem.run_bind,Sem.run_pure,Result.andThen_ok,List.map_toArray,List.map_cons,List.map_nil,hs,hx,hr]
  refine h v1 w1 hown ((HB.alloc hbase _).grown hg (by simp;omega) (uy HO)) (World.grownBy.trans (World.grownBy_alloc W _ _) hg) ?_
  rcases hat with hat|hat
  · exact .inl hat
  exact .inr ⟨_,hat,by simp⟩
end
theorem II {w:World}{base base':Nat}{e:TypeId}{size n:Nat}{v:Value}{xs:List Value}(h:w.ownsRow base e size v n xs) (hb:base'<=base):w.ownsRow base' e size v n xs:=by
  obtain⟨h1,h2⟩:=h
  refine⟨h1,?_⟩
  rcases h2 with h2|⟨g,cap,cur,rfl,hg,r⟩
  · exact .inl h2
  exact .inr ⟨g,cap,cur,rfl,Nat.le_trans hb hg,r⟩
section
variable {α:Type}{enc:α->Value}{d:α}
def encs (enc:α->Value) (xs:List α):List Value:=xs.map enc
def lW (d:α) (xs:List α) (i:Int):α:=xs.getD i.toNat d
theorem CP (xs:List α):(encs enc xs).length=xs.length:=by simp[encs]
theorem Gm (xs:List α) (j:Nat) (h:j<xs.length):(encs enc xs)[j]? =some (enc (xs.getD j d)):=by
  simp[encs,List.getElem?_eq_getElem h,List.getD_eq_getElem?_getD]
def mX (enc:α->Value) (d:α) (w:World) (A:Option Addr) (n:Nat) (xs:List α):Prop:=
  xs.length=n/\n<=9223372036854775807/\(0<n->∃ad,A=some ad/\∀j,j<n->w.cell? (ad.add j)=some (enc (xs.getD j d)))
theorem mX.at_ {w:World}{A:Option Addr}{n:Nat}{xs:List α}(h:mX enc d w A n xs) (i:Int) (h0:0<=i) (h1:i<n):∃ad,A=some ad/\w.cell? (ad.add i.toNat)=some (enc (lW d xs i)):=by
  obtain⟨ad,e,hc⟩:=h.2.2 (by omega)
  exact⟨ad,e,hc _ (by omega)⟩
theorem mX.below {w w1:World}{A:Option Addr}{n:Nat}{xs:List α}(h:mX enc d w A n xs) (hb:Below w.heap.size w w1):mX enc d w1 A n xs:=
  ⟨h.1,h.2.1,fun hn=>by
    obtain⟨ad,e,hc⟩:=h.2.2 hn
    exact⟨ad,e,fun j hj=>zw hb (hc j hj)⟩⟩
theorem mX.o9 {w:World}{A:Option Addr}{n:Nat}{xs:List α}(h:mX enc d w A n xs) (i:Nat) (hi:i<=n):mX enc d w A i (xs.take i):=by
  refine⟨by rw[List.length_take,h.1];omega,by have:=h.2.1;omega,fun hp=>?_⟩
  obtain⟨ad,e,hc⟩:=h.2.2 (by omega)
  refine⟨ad,e,fun j hj=>?_⟩
  rw[hc j (by omega)]
  simp[List.getD_eq_getElem?_getD,hj]
theorem mX.y7 {w:World}{A:Option Addr}{n c:Nat}{xs:List α}(h:mX enc d w A n xs) (i:Nat) (hi:i<=n) (hc:n<=c):mX enc d w (if c=i then A else A.map (·.add i)) (n - i) (xs.drop i):=by
  refine⟨by rw[List.length_drop,h.1],by have:=h.2.1;omega,fun hp=>?_⟩
  obtain⟨ad,rfl,hcell⟩:=h.2.2 (by omega)
  rw[if_neg (by omega)]
  refine⟨ad.add i,rfl,fun j hj=>?_⟩
  have ha:(ad.add i).add j=ad.add (i+j):=by
    unfold Addr.add
    by_cases h1:i=0<;>by_cases h2:j=0<;>simp[h1,h2,Nat.add_assoc]
  rw[ha,hcell (i+j) (by omega)]
  simp[List.getD_eq_getElem?_getD,List.getElem?_drop]
theorem IM {P:Program}(enc:α->Value) (d:α) (t e:TypeId) (kl:IntKind) {i:TypeInfo}(ht:P.underlying t=some (.slice e)) (hi:P.info? e=some i) (hsz:i.size=1) (A:Option Addr) (n c m:Nat) (hm:m<=n):
    ∃A':Option Addr,(∀W:World,(Instr.slice t (.slice A n c) (some (.int kl (m:Int))) none none).run P W=.ok (.slice A' (n - m) (c - m)) W)/\
      ∀ (w:World) (xs:List α),n<=c->mX enc d w A n xs->mX enc d w A' (n - m) (xs.drop m):=by
  refine⟨if c=m then A else A.map (·.add m),fun W=>?_,fun w xs hc h=>h.y7 m hm hc⟩
  have hel:P.elem t=e:=by simp[Program.elem,ht]
  have hu:P.underlying t=some (.slice (P.elem t)):=by rw[hel];exact ht
  rw[run_slice_l W t A n c hu kl (m:Int) (Int.natCast_nonneg _) (by omega),hel]
  simp[sizeOf,typeInfo,hi,hsz,sliced,Result.andThen]
theorem Iw {W:World}{base g n cap:Nat}{e:TypeId}{xs:List α}(h:W.ownsRow base e 1 (.slice (some ⟨g,0,none⟩) n cap) n (encs enc xs)) (i:Int) (h0:0<=i) (h1:i<n):
    W.cell? ⟨g,i.toNat,none⟩=some (enc (lW d xs i))/\W.frozen? ⟨g,i.toNat,none⟩=false:=by
  have hl:xs.length=n:=by have:=h.1;simp[encs]at this;exact this
  constructor
  · have hc:=h.cells (g:=g) rfl i.toNat _ (Gm (d:=d) xs i.toNat (by omega))
    rwa [add_plain]at hc
  rcases h.2 with⟨h',_⟩|⟨g',cap',cur,h',_,hh,_⟩
  · cases h'
  have:g=g':=by injection h' with h';injection h' with h';injection h' with h'
  subst this
  simp[World.frozen?,hh]
theorem IG {W:World}{base g n cap:Nat}{e:TypeId}{xs:List α}(h:W.ownsRow base e 1 (.slice (some ⟨g,0,none⟩) n cap) n (encs enc xs)) (i:Int) (x:α):
    (W.setCell ⟨g,i.toNat,none⟩ (enc x)).ownsRow base e 1 (.slice (some ⟨g,0,none⟩) n cap) n (encs enc (xs.set i.toNat x))/\W.grownBy (W.setCell ⟨g,i.toNat,none⟩ (enc x)) (some g):=by
  have hs:=h.stored i.toNat (enc x)
  have he:(encs enc xs).set i.toNat (enc x)=encs enc (xs.set i.toNat x):=by simp[encs,List.map_set]
  rwa [he]at hs
end
theorem nQ {w:World}{g:Nat}{o:Obj}(h:w.heap[g]? =some o) (o':Obj):(w.alloc o').heap[g]? =some o:=(Below.heap_alloc w o' g (lq h)).trans h
theorem kU {w:World}{g:Nat}{o:Obj}(h:w.heap[g]? =some o):w.drew.heap[g]? =some o:=h
theorem o8 {w:World}{g:Nat}{o:Obj}(h:w.heap[g]? =some o) (n:Nat):(w.drewN n).heap[g]? =some o:=h
theorem nD {w w1:World}{g:Nat}{o:Obj}(h:w.heap[g]? =some o) (hb:Below w.heap.size w w1):w1.heap[g]? =some o:=(hb.block g (lq h)).trans h
theorem yC (w:World) (o:Obj):(w.alloc o).heap[w.heap.size]? =some o:=heap_alloc_new w o
section
variable {P:Program}
theorem DZ {fn:Func}{p u:Tmp}{ty:TypeId}(h:fn.results= #[.cell p ty,.tmp u]) (tmps:Array Value) (w:World) (g:Nat) (t:TypeId) (cs:Array Value) (fr:Nat×Nat) (d:TypeDesc)
    (hp:tmps.getD p undef=.pointer (some ⟨g,0,none⟩)) (hg:w.heap[g]? =some (.cells cs t fr))
    (hu:P.underlying ty=some d) (hd:(match d with| .struct _| .array _ _=>true|_=>false)=true) (hi:(P.info? ty).map (·.size)=some cs.size):
    (results fn tmps).run P w=.ok (.tuple #[.agg cs,tmps.getD u undef]) w:=by
  have hp':tmps[p]?.getD undef=.pointer (some ⟨g,0,none⟩):=by simpa using hp
  simp[results,h,hp',asAddr,run_loadVar_row w g t ty cs fr d hg hu hd hi]
end
theorem Iy {w:World}{base n m c size:Nat}{e:TypeId}{A:Option Addr}{xs:List Value}(h:w.ownsRow base e size (.slice A m c) n xs):m<=c:=by
  rcases h.2 with⟨he,_⟩|⟨g,cap,cur,he,_,_,hnc,_⟩
  · injection he with _ h2 h3
    omega
  injection he with _ h2 h3
  omega
def nO {α:Type}(R:α->List Value->Prop) (e:TypeId) (size:Nat) (w:World) (base:Nat) (v:Value) (ps:List α):Prop:=
  ∃inner,w.ownsRow base e size v ps.length inner/\kF R size ps inner
section
variable {α:Type}{R R':α->List Value->Prop}{e:TypeId}{size:Nat}{w w1:World}{base:Nat}{v:Value}{ps:List α}
theorem nO.none_ (R:α->List Value->Prop) (e:TypeId) (size:Nat) (w:World) (base:Nat):nO R e size w base (.slice none 0 0) []:=⟨[],IA _ _ _ _,kF.none _ _⟩
theorem nO.oC (h:nO R e size w base v ps) (hR:∀p c,R p c->R' p c):nO R' e size w base v ps:=by
  obtain⟨inner,ho,hr⟩:=h
  exact⟨inner,ho,hr.oC hR⟩
theorem nO.below (h:nO R e size w base v ps) (hb:Below w.heap.size w w1):nO R e size w1 base v ps:=by
  obtain⟨inner,ho,hr⟩:=h
  exact⟨inner,IP ho hb,hr⟩
theorem nO.other (h:nO R e size w base v ps) {row:Option Nat}(hg:w.grownBy w1 row) (hne:v.ownBlock=none\/v.ownBlock≠row):nO R e size w1 base v ps:=by
  obtain⟨inner,ho,hr⟩:=h
  exact⟨inner,IB ho hg hne,hr⟩
theorem nO.xK (h:nO R e size w base v ps) {g:Nat}{t:TypeId}{cells:Array Value}(hb:w.heap[g]? =some (.cells cells t (0,0))) (ht:e≠t) (j:Nat) (u:Value):nO R e size (w.setCell ⟨g,j,none⟩ u) base v ps:=by
  obtain⟨inner,ho,hr⟩:=h
  exact⟨inner,IE ho (own_ne ho hb ht) u,hr⟩
theorem nO.keep (h:nO R e size w base v ps) {g:Nat}{t:TypeId}{cells:Array Value}(hb:w.heap[g]? =some (.cells cells t (0,0))) (ht:e≠t) (hk:lQ w w1 g none):nO R e size w1 base v ps:=by
  obtain⟨inner,ho,hr⟩:=h
  exact⟨inner,hk.own ho (Ne.symm (own_ne ho hb ht)) (by cases v.ownBlock<;>simp),hr⟩
theorem nO.reads (h:nO R e size w base v ps):∃A c,v=.slice A ps.length c/\ps.length<=c/\qa R size w A ps.length ps:=by
  obtain⟨inner,ho,hr⟩:=h
  obtain⟨A,c,rfl,hrow⟩:=IC ho hr rfl
  exact⟨A,c,rfl,Iy ho,hrow⟩
theorem nO.Il (h:nO R e size w base v ps) {g:Nat}{t:TypeId}{cells:Array Value}(hb:w.heap[g]? =some (.cells cells t (0,0))) (ht:e≠t):some g≠v.ownBlock:=by
  obtain⟨inner,ho,hr⟩:=h
  exact own_ne ho hb ht
end
section
variable {P:Program}{ops:Array Oper}{rest:List Oper}{o:Oper}{a:Act}{Q:Exit->Act->World->Prop}{α:Type}{R:α->List Value->Prop}
theorem nO.append {w0 W:World}(base:Nat) (hgd:o.guard=none) (s x:Operand) (t e:TypeId) (z:Value) (size bytes:Nat)
    (ho:o.op=.call {callee:=.builtin .append,args:= #[s,x],argTypes:= #[t,t]})
    (ht:P.underlying t=some (.slice e)) (hinfo:(P.info? e).map (fun i=>(i.zero,i.size,i.bytes))=some (some z,size,bytes)) (hz:z.cells.size=size) (hs0:0<size) (hb0:0<bytes)
    (v:Value) (ps:List α) (p:α) (cs:List Value) (hs:a.eval s=v) (hx:a.eval x=.slice (some ⟨W.heap.size,0,none⟩) 1 1) (hp:R p cs) (hcs:cs.length=size) (h1:∀u∈cs,u.oneCell'=true)
    (HO:nO R e size W base v ps) (HB:Below base w0 W) (hbase:base<=W.heap.size) (hl:(ps.length+1)*bytes<=140737488355328)
    (h:∀v1 w1,nO R e size w1 base v1 (ps++[p])->Below base w0 w1->W.grownBy w1 v.ownBlock->(v1.ownBlock=v.ownBlock\/∃b,v1.ownBlock=some b/\W.heap.size<=b)->wpList P ops Q rest (a.put o.dst v1) w1):
    wpList P ops Q (o::rest) a (W.alloc (.cells cs.toArray e)):=by
  obtain⟨inner,hown,hr⟩:=HO
  refine DF base hgd s x t e z size bytes ho ht hinfo hz hs0 hb0 v ps.length inner cs hs hx hcs h1 hown HB hbase hl ?_
  intro v1 w1 hown1 hb1 hg1 hat1
  exact h v1 w1 ⟨inner++cs,by rw[List.length_append,List.length_singleton];exact hown1,hr.snoc hp hcs⟩ hb1 hg1 hat1
end
theorem qa.Db {α:Type}{R:α->List Value->Prop}{size:Nat}{w:World}{ad:Addr}{n:Nat}{ps:List α}(h:qa R size w (some ad) n ps):
    ∃inner,kF R size ps inner/\∀j u,inner[j]? =some u->w.cell? (ad.add j)=some u:=by
  have key:∀m,m<=ps.length->∃inner,kF R size (ps.take m) inner/\∀j u,inner[j]? =some u->w.cell? (ad.add j)=some u:=by
    intro m
    induction m with
    |zero=>exact fun _=>⟨[],kF.none _ _,fun j u hu=>by simp at hu⟩
    |succ m ih=>
      intro hm
      obtain⟨inner,hr,hc⟩:=ih (by omega)
      obtain⟨ad',he,hcell⟩:=h.2.2 (by have:=h.1;omega)
      injection he with he
      subst he
      obtain⟨c,hcl,hp,hcc⟩:=hcell m _ (List.getElem?_eq_getElem (show m<ps.length by omega))
      refine⟨inner++c,?_,fun j u hu=>?_⟩
      · rw[List.take_succ_eq_append_getElem (show m<ps.length by omega)]
        exact hr.snoc hp hcl
      have hil:inner.length=m*size:=by rw[hr.1,List.length_take,Nat.min_eq_left (by omega)]
      rcases Nat.lt_or_ge j inner.length with hj|hj
      · rw[List.getElem?_append_left hj]at hu
        exact hc j u hu
      rw[List.getElem?_append_right hj]at hu
      have:=hcc (j - inner.length) u hu
      rwa [hil,Nat.add_sub_cancel' (by omega)]at this
  obtain⟨inner,hr,hc⟩:=key ps.length (Nat.le_refl _)
  rw[List.take_length]at hr
  exact⟨inner,hr,hc⟩
section
variable {α:Type}{P:Program}
theorem mX.len_ {enc:α->Value}{d:α}{w:World}{A:Option Addr}{n:Nat}{xs:List α}(h:mX enc d w A n xs):mX enc d w A xs.length xs:=by rw[h.1];exact h
theorem Kr (enc:α->Value) (d:α) (t e:TypeId) (kl:IntKind) {i:TypeInfo}(ht:P.underlying t=some (.slice e)) (hi:P.info? e=some i) (hsz:i.size=1) (A:Option Addr) (c:Nat) (xs:List α) (j:Int) (h0:0<=j) (hm:j<=xs.length) (hc:xs.length<=c):
    (∀W:World,(Instr.slice t (.slice A xs.length c) none (some (.int kl j)) none).run P W=.ok (.slice A (xs.take j.toNat).length c) W)/\
      (∀w:World,mX enc d w A xs.length xs->mX enc d w A (xs.take j.toNat).length (xs.take j.toNat))/\(xs.take j.toNat).length<=c:=by
  have hl:(xs.take j.toNat).length=j.toNat:=by rw[List.length_take];omega
  refine⟨fun W=>?_,fun w h=>by rw[hl];exact h.o9 j.toNat (by omega),by rw[hl];omega⟩
  have hel:P.elem t=e:=by simp[Program.elem,ht]
  have hu:P.underlying t=some (.slice (P.elem t)):=by rw[hel];exact ht
  have ha:(A.map fun x=>x.add 0)=A:=by cases A<;>simp[Addr.add]
  rw[run_slice_h W t A xs.length c hu kl j h0 (by omega),hel,hl]
  simp[sizeOf,typeInfo,hi,hsz,sliced,Result.andThen,ha]
theorem Ko (enc:α->Value) (d:α) (t e:TypeId) (kl:IntKind) {i:TypeInfo}(ht:P.underlying t=some (.slice e)) (hi:P.info? e=some i) (hsz:i.size=1) (A:Option Addr) (c:Nat) (xs:List α) (j:Int) (h0:0<=j) (hm:j<=xs.length) (hc:xs.length<=c):
    ∃A':Option Addr,(∀W:World,(Instr.slice t (.slice A xs.length c) (some (.int kl j)) none none).run P W=.ok (.slice A' (xs.drop j.toNat).length (c - j.toNat)) W)/\
      (∀w:World,mX enc d w A xs.length xs->mX enc d w A' (xs.drop j.toNat).length (xs.drop j.toNat))/\(xs.drop j.toNat).length<=c - j.toNat:=by
  obtain⟨m,rfl⟩:=Int.eq_ofNat_of_zero_le h0
  simp only [Int.toNat_natCast]
  have hmn:m<=xs.length:=by omega
  obtain⟨A',h1,h2⟩:=IM (P:=P) enc d t e kl ht hi hsz A xs.length c m hmn
  have hl:(xs.drop m).length=xs.length - m:=List.length_drop
  exact⟨A',fun W=>by rw[hl];exact h1 W,fun w h=>by rw[hl];exact h2 w xs hc h,by rw[hl];omega⟩
theorem Kq (enc:α->Value) (d:α) (t e:TypeId) (kl kh:IntKind) {i:TypeInfo}(ht:P.underlying t=some (.slice e)) (hi:P.info? e=some i) (hsz:i.size=1) (A:Option Addr) (c:Nat) (xs:List α) (a b:Int) (h0:0<=a) (h1:a<=b) (hm:b<=xs.length) (hc:xs.length<=c):
    ∃A':Option Addr,(∀W:World,(Instr.slice t (.slice A xs.length c) (some (.int kl a)) (some (.int kh b)) none).run P W=.ok (.slice A' ((xs.take b.toNat).drop a.toNat).length (c - a.toNat)) W)/\
      (∀w:World,mX enc d w A xs.length xs->mX enc d w A' ((xs.take b.toNat).drop a.toNat).length ((xs.take b.toNat).drop a.toNat))/\((xs.take b.toNat).drop a.toNat).length<=c - a.toNat:=by
  have hlt:(xs.take b.toNat).length=b.toNat:=by rw[List.length_take];omega
  have hl:((xs.take b.toNat).drop a.toNat).length=b.toNat - a.toNat:=by rw[List.length_drop,hlt]
  refine⟨if c=a.toNat then A else A.map (·.add a.toNat),fun W=>?_,fun w h=>?_,by rw[hl];omega⟩
  · have hel:P.elem t=e:=by simp[Program.elem,ht]
    have hu:P.underlying t=some (.slice (P.elem t)):=by rw[hel];exact ht
    rw[run_slice_lh W t A xs.length c hu kl kh a b h0 h1 (by omega),hel,hl]
    simp[sizeOf,typeInfo,hi,hsz,sliced,Result.andThen]
  have h2:=(h.o9 b.toNat (by omega)).y7 (c:=c) a.toNat (by omega) (by omega)
  rw[hl]
  exact h2
end
structure Kd (α:Type) where
  sz:Nat
  E:List Nat
  K:World->α->List Value->Prop
  M:World->Nat->(Nat->Prop)->α->List Value->Prop
  K_len:∀ {w x cs},K w x cs->cs.length=sz
  K_one:∀ {w x cs},K w x cs->∀u∈cs,u.oneCell'=true
  K_below:∀ {w w1:World}{x cs},Below w.heap.size w w1->K w x cs->K w1 x cs
  K_of_M:∀ {w base ok x cs},M w base ok x cs->K w x cs
  M_mono:∀ {w base ok ok' x cs},(∀k,ok k->ok' k)->M w base ok x cs->M w base ok' x cs
  M_bound:∀ {w:World}{base ok x cs},M w base ok x cs->M w base (fun k=>ok k/\base<=k/\k<w.heap.size/\∃q,q∈E/\∃cells,w.heap[k]? =some (.cells cells q (0,0))) x cs
  M_move:∀ {w w1:World}{base ok x cs},(∀k,ok k->w1.heap[k]? =w.heap[k]?)->M w base ok x cs->M w1 base ok x cs
  M_lower:∀ {w base base' ok x cs},base'<=base->M w base ok x cs->M w base' ok x cs
theorem Iz {w w1:World}{base:Nat}{e:TypeId}{size n:Nat}{v:Value}{xs:List Value}(h:w.ownsRow base e size v n xs) (hm:∀k,v.ownBlock=some k->w1.heap[k]? =w.heap[k]?):w1.ownsRow base e size v n xs:=by
  obtain⟨h1,h2⟩:=h
  refine⟨h1,?_⟩
  rcases h2 with h2|⟨g,cap,cur,rfl,hg,hh,r⟩
  · exact .inl h2
  exact .inr ⟨g,cap,cur,rfl,hg,(hm g (by simp[Value.ownBlock])).trans hh,r⟩
theorem xD {w:World}{base:Nat}{e:TypeId}{size n:Nat}{v:Value}{xs:List Value}(h:w.ownsRow base e size v n xs) (k:Nat) (hk:v.ownBlock=some k):∃cells,w.heap[k]? =some (.cells cells e (0,0)):=by
  rcases h.2 with⟨rfl,_⟩|⟨g,cap,cur,rfl,hg,hh,r⟩
  · simp[Value.ownBlock]at hk
  have:g=k:=by simpa [Value.ownBlock] using hk
  subst this
  exact⟨cur,hh⟩
namespace Kd
def C {α:Type}(d:Kd α) (w:World) (A:Option Addr) (n:Nat) (xs:List α):Prop:=qa (d.K w) d.sz w A n xs
def R {α:Type}(d:Kd α) (e:Nat) (w:World) (base:Nat) (ok:Nat->Prop) (v:Value) (xs:List α):Prop:=
  (∀k,v.ownBlock=some k->ok k)/\nO (d.M w base (fun k=>ok k/\some k≠v.ownBlock)) e d.sz w base v xs
section
variable {α:Type}{d:Kd α}{e:Nat}{w w1:World}{base:Nat}{ok ok':Nat->Prop}{v:Value}{xs:List α}
theorem kN {A:Option Addr}{n:Nat}(h:d.C w A n xs) (hb:Below w.heap.size w w1):d.C w1 A n xs:=qa.oC h hb (fun _ _ hp=>d.K_below hb hp)
theorem sS (d:Kd α) (e:Nat) (w:World) (base:Nat) (ok:Nat->Prop):d.R e w base ok (.slice none 0 0) []:=⟨fun k hk=>by simp[Value.ownBlock]at hk,nO.none_ _ _ _ _ _⟩
theorem kz (h:d.R e w base ok v xs) (hok:∀k,ok k->ok' k):d.R e w base ok' v xs:=⟨fun k hk=>hok k (h.1 k hk),h.2.oC (fun _ _ hp=>d.M_mono (fun k hk=>⟨hok k hk.1,hk.2⟩) hp)⟩
theorem qw (h:d.R e w base ok v xs):d.R e w base (fun k=>ok k/\base<=k/\k<w.heap.size/\∃q,q∈e::d.E/\∃cells,w.heap[k]? =some (.cells cells q (0,0))) v xs:=by
  obtain⟨h0,inner,ho,hr⟩:=h
  refine⟨fun k hk=>?_,inner,ho,hr.oC (fun _ _ hp=>d.M_mono (fun k hk=>?_) (d.M_bound hp))⟩
  · obtain⟨cells,hc⟩:=xD ho k hk
    exact⟨h0 k hk,uy ho k hk,Dx ho k hk,e,List.mem_cons_self,cells,hc⟩
  obtain⟨⟨h1,h2⟩,h3,h4,q,hq,hc⟩:=hk
  exact⟨⟨h1,h3,h4,q,List.mem_cons_of_mem _ hq,hc⟩,h2⟩
theorem uC (h:d.R e w base ok v xs) (hm:∀k,ok k->w1.heap[k]? =w.heap[k]?):d.R e w1 base ok v xs:=by
  obtain⟨h0,inner,ho,hr⟩:=h
  exact⟨h0,inner,Iz ho (fun k hk=>hm k (h0 k hk)),hr.oC (fun _ _ hp=>d.M_move (fun k hk=>hm k hk.1) hp)⟩
theorem kP {base':Nat}(h:d.R e w base ok v xs) (hb:base'<=base):d.R e w base' ok v xs:=by
  obtain⟨h0,inner,ho,hr⟩:=h
  exact⟨h0,inner,II ho hb,hr.oC (fun _ _ hp=>d.M_lower hb hp)⟩
theorem ug (h:d.R e w base ok v xs) (hm:∀k,ok k->k<w.heap.size->w1.heap[k]? =w.heap[k]?):d.R e w1 base ok v xs:=
  kz (uC (qw h) (fun k hk=>hm k hk.1 hk.2.2.1)) (fun _ hk=>hk.1)
theorem zY {x:α}{cs:List Value}(h:d.M w base ok x cs) (hm:∀k,ok k->k<w.heap.size->w1.heap[k]? =w.heap[k]?):d.M w1 base ok x cs:=
  d.M_mono (fun _ hk=>hk.1) (d.M_move (fun k hk=>hm k hk.1 hk.2.2.1) (d.M_bound h))
theorem o7 (h:d.R e w base ok v xs) (hb:Below w.heap.size w w1):d.R e w1 base ok v xs:=ug h (fun k _ hk=>hb.block k hk)
theorem zW {x:α}{cs:List Value}(h:d.M w base ok x cs) (hb:Below w.heap.size w w1):d.M w1 base ok x cs:=zY h (fun k _ hk=>hb.block k hk)
theorem EI (h:d.R e w base ok v xs) {row:Option Nat}(hg:w.grownBy w1 row) (hok:∀k,ok k->some k≠row):d.R e w1 base ok v xs:=ug h (fun k ho hk=>hg.block k hk (hok k ho))
theorem lh (h:d.R e w base ok v xs) {p:Addr}(hok:∀k,ok k->k≠p.block) (u:Value):d.R e (w.setCell p u) base ok v xs:=ug h (fun k ho _=>Below.heap_setCell w p u k (hok k ho))
theorem Ai (h:d.R e w base ok v xs) {g:Nat}(hk:lQ w w1 g none) (hok:∀k,ok k->k≠g):d.R e w1 base ok v xs:=ug h (fun k ho hlt=>hk.2 k hlt (hok k ho) (by simp))
theorem mr (h:d.R e w base ok v xs) {g t:Nat}{cells:Array Value}(hb:w.heap[g]? =some (.cells cells t (0,0))) (ht:∀q,q∈e::d.E->q≠t):d.R e w base (fun k=>ok k/\k≠g) v xs:=
  kz (qw h) (fun k hk=>⟨hk.1,by
    obtain⟨_,_,_,q,hq,cells',hc⟩:=hk
    rintro rfl
    rw[hc]at hb
    injection hb with hb
    injection hb with _ hb
    exact ht q hq hb⟩)
theorem wN (h:d.R e w base ok v xs) {g t:Nat}{cells:Array Value}(hb:w.heap[g]? =some (.cells cells t (0,0))) (ht:∀q,q∈e::d.E->q≠t) (j:Nat) (u:Value):d.R e (w.setCell ⟨g,j,none⟩ u) base ok v xs:=
  kz (lh (p:=⟨g,j,none⟩) (mr h hb ht) (fun _ hk=>hk.2) u) (fun _ hk=>hk.1)
theorem yc (h:d.R e w base ok v xs):∃A c,v=.slice A xs.length c/\xs.length<=c/\d.C w A xs.length xs:=by
  obtain⟨A,c,he,hl,hr⟩:=nO.reads h.2
  exact⟨A,c,he,hl,hr.oC (Below.refl _ _) (fun _ _ hp=>d.K_of_M hp)⟩
theorem kK (h:d.R e w base ok v xs):∃A c,v=.slice A xs.length c:=by
  obtain⟨A,c,he,_⟩:=yc h
  exact⟨A,c,he⟩
theorem u_ (h:d.R e w base ok v xs):∃inner,w.ownsRow base e d.sz v xs.length inner:=by
  obtain⟨_,inner,ho,_⟩:=h
  exact⟨inner,ho⟩
theorem lS (h:d.R e w base ok v xs) {g t:Nat}{cells:Array Value}(hb:w.heap[g]? =some (.cells cells t (0,0))) (ht:e≠t):some g≠v.ownBlock:=nO.Il h.2 hb ht
end
def scalar {α:Type}(enc:α->Value) (h1:∀x,(enc x).oneCell'=true):Kd α where
  sz:=1
  E:=[]
  K:=fun _ x cs=>cs=[enc x]
  M:=fun _ _ _ x cs=>cs=[enc x]
  K_len:=fun h=>by rw[h];rfl
  K_one:=fun h u hu=>by
    rw[h]at hu
    rw[List.mem_singleton.1 hu]
    exact h1 _
  K_below:=fun _ h=>h
  K_of_M:=fun h=>h
  M_mono:=fun _ h=>h
  M_bound:=fun h=>h
  M_move:=fun _ h=>h
  M_lower:=fun _ h=>h
def int (k:IntKind):Kd Int:=scalar (Value.int k) (fun _=>rfl)
def bool:Kd Bool:=scalar Value.bool (fun _=>rfl)
def string:Kd ByteArray:=scalar Value.string (fun _=>rfl)
def slice {α:Type}(e:Nat) (d:Kd α):Kd (List α) where
  sz:=1
  E:=e::d.E
  K:=fun w xs cs=>∃A c,cs=[.slice A xs.length c]/\xs.length<=c/\d.C w A xs.length xs
  M:=fun w base ok xs cs=>∃v,cs=[v]/\d.R e w base ok v xs
  K_len:=by
    rintro w x cs ⟨A,c,rfl,_⟩
    rfl
  K_one:=by
    rintro w x cs ⟨A,c,rfl,_⟩ u hu
    rw[List.mem_singleton.1 hu]
    rfl
  K_below:=by
    rintro w w1 x cs hb ⟨A,c,rfl,hl,hr⟩
    exact⟨A,c,rfl,hl,kN hr hb⟩
  K_of_M:=by
    rintro w base ok x cs ⟨v,rfl,h⟩
    obtain⟨A,c,rfl,hl,hr⟩:=yc h
    exact⟨A,c,rfl,hl,hr⟩
  M_mono:=by
    rintro w base ok ok' x cs hok ⟨v,rfl,h⟩
    exact⟨v,rfl,kz h hok⟩
  M_bound:=by
    rintro w base ok x cs ⟨v,rfl,h⟩
    exact⟨v,rfl,qw h⟩
  M_move:=by
    rintro w w1 base ok x cs hm ⟨v,rfl,h⟩
    exact⟨v,rfl,uC h hm⟩
  M_lower:=by
    rintro w base base' ok x cs hb ⟨v,rfl,h⟩
    exact⟨v,rfl,kP h hb⟩
def pair {α β:Type}(a:Kd α) (b:Kd β):Kd (α×β) where
  sz:=a.sz+b.sz
  E:=a.E++b.E
  K:=fun w x cs=>∃c0 c1,cs=c0++c1/\a.K w x.1 c0/\b.K w x.2 c1
  M:=fun w base ok x cs=>∃c0 c1,cs=c0++c1/\a.M w base ok x.1 c0/\b.M w base ok x.2 c1
  K_len:=by
    rintro w x cs ⟨c0,c1,rfl,h0,h1⟩
    rw[List.length_append,a.K_len h0,b.K_len h1]
  K_one:=by
    rintro w x cs ⟨c0,c1,rfl,h0,h1⟩ u hu
    rcases List.mem_append.1 hu with hu|hu
    · exact a.K_one h0 u hu
    exact b.K_one h1 u hu
  K_below:=by
    rintro w w1 x cs hb ⟨c0,c1,rfl,h0,h1⟩
    exact⟨c0,c1,rfl,a.K_below hb h0,b.K_below hb h1⟩
  K_of_M:=by
    rintro w base ok x cs ⟨c0,c1,rfl,h0,h1⟩
    exact⟨c0,c1,rfl,a.K_of_M h0,b.K_of_M h1⟩
  M_mono:=by
    rintro w base ok ok' x cs hok ⟨c0,c1,rfl,h0,h1⟩
    exact⟨c0,c1,rfl,a.M_mono hok h0,b.M_mono hok h1⟩
  M_bound:=by
    rintro w base ok x cs ⟨c0,c1,rfl,h0,h1⟩
    refine⟨c0,c1,rfl,a.M_mono ?_ (a.M_bound h0),b.M_mono ?_ (b.M_bound h1)⟩
    · rintro k ⟨h2,h3,h4,q,hq,hc⟩
      exact⟨h2,h3,h4,q,List.mem_append_left _ hq,hc⟩
    rintro k ⟨h2,h3,h4,q,hq,hc⟩
    exact⟨h2,h3,h4,q,List.mem_append_right _ hq,hc⟩
  M_move:=by
    rintro w w1 base ok x cs hm ⟨c0,c1,rfl,h0,h1⟩
    exact⟨c0,c1,rfl,a.M_move hm h0,b.M_move hm h1⟩
  M_lower:=by
    rintro w base base' ok x cs hb ⟨c0,c1,rfl,h0,h1⟩
    exact⟨c0,c1,rfl,a.M_lower hb h0,b.M_lower hb h1⟩
def iso {α β:Type}(d:Kd α) (f:β->α):Kd β where
  sz:=d.sz
  E:=d.E
  K:=fun w x cs=>d.K w (f x) cs
  M:=fun w base ok x cs=>d.M w base ok (f x) cs
  K_len:=d.K_len
  K_one:=d.K_one
  K_below:=d.K_below
  K_of_M:=d.K_of_M
  M_mono:=d.M_mono
  M_bound:=d.M_bound
  M_move:=d.M_move
  M_lower:=d.M_lower
theorem xQ {α:Type}{d:Kd α}{w:World}{A:Option Addr}{n:Nat}{xs:List α}(h:d.C w A n xs) (z:α) (i:Int) (h0:0<=i) (h1:i<n):
    ∃ad c,A=some ad/\c.length=d.sz/\d.K w (xs.getD i.toNat z) c/\∀j u,c[j]? =some u->w.cell? (ad.add (i.toNat*d.sz+j))=some u:=qa.GX h z i h0 h1
theorem Af {α:Type}{d:Kd α}{e base:Nat}{ok okp:Nat->Prop}{W w1:World}{v v1:Value}{xs:List α}{p:α}{inner cs:List Value}(h0:∀k,v.ownBlock=some k->ok k) (hr:kF (d.M W base (fun k=>ok k/\some k≠v.ownBlock)) d.sz xs inner) (hp:d.M W base okp p cs) (oM:∀k,okp k->ok k/\some k≠v.ownBlock) (hfresh:∀k,W.heap.size<=k->ok k)
    (hown:w1.ownsRow base e d.sz v1 (xs.length+1) (inner++cs)) (hg:W.grownBy w1 v.ownBlock) (hat:v1.ownBlock=v.ownBlock\/∃b,v1.ownBlock=some b/\W.heap.size<=b):d.R e w1 base ok v1 (xs++[p]):=by
  have hne:∀k,some k≠v.ownBlock->k<W.heap.size->some k≠v1.ownBlock:=by
    intro k hk hlt
    rcases hat with hat|⟨b,hb,hle⟩
    · rw[hat];exact hk
    rw[hb]
    intro he
    injection he with he
    omega
  have step:∀ {q:α}{c:List Value}{o:Nat->Prop},d.M W base o q c->(∀k,o k->ok k/\some k≠v.ownBlock)->d.M w1 base (fun k=>ok k/\some k≠v1.ownBlock) q c:=by
    intro q c o hq ho
    have h1:=d.M_move (w1:=w1) (fun k hk=>hg.block k hk.2.2.1 (ho k hk.1).2) (d.M_bound hq)
    exact d.M_mono (fun k hk=>⟨(ho k hk.1).1,hne k (ho k hk.1).2 hk.2.2.1⟩) h1
  refine⟨fun k hk=>?_,inner++cs,by rw[List.length_append,List.length_singleton];exact hown,?_⟩
  · rcases hat with hat|⟨b,hb,hle⟩
    · exact h0 k (hat▸hk)
    rw[hb]at hk
    injection hk with hk
    exact hfresh k (by omega)
  exact(hr.oC (fun _ _ hq=>step hq (fun _ hk=>hk))).snoc (step hp oM) (d.K_len (d.K_of_M hp))
section
variable {P:Program}{ops:Array Oper}{rest:List Oper}{o:Oper}{a:Act}{Q:Exit->Act->World->Prop}{α:Type}
theorem pg (d:Kd α) {w0 W:World}(base:Nat) (hgd:o.guard=none) (s x:Operand) (t e:TypeId) (z:Value) (bytes:Nat)
    (ho:o.op=.call {callee:=.builtin .append,args:= #[s,x],argTypes:= #[t,t]})
    (ht:P.underlying t=some (.slice e)) (hinfo:(P.info? e).map (fun i=>(i.zero,i.size,i.bytes))=some (some z,d.sz,bytes)) (hz:z.cells.size=d.sz) (hs0:0<d.sz) (hb0:0<bytes)
    (v:Value) (xs:List α) (p:α) (cs:List Value) (ok okp:Nat->Prop) (hs:a.eval s=v) (hx:a.eval x=.slice (some ⟨W.heap.size,0,none⟩) 1 1) (hp:d.M W base okp p cs) (oM:∀k,okp k->ok k/\some k≠v.ownBlock) (hfresh:∀k,W.heap.size<=k->ok k)
    (HO:d.R e W base ok v xs) (HB:Below base w0 W) (hbase:base<=W.heap.size) (hl:(xs.length+1)*bytes<=140737488355328)
    (h:∀v1 w1,d.R e w1 base ok v1 (xs++[p])->Below base w0 w1->W.grownBy w1 v.ownBlock->(v1.ownBlock=v.ownBlock\/∃b,v1.ownBlock=some b/\W.heap.size<=b)->wpList P ops Q rest (a.put o.dst v1) w1):
    wpList P ops Q (o::rest) a (W.alloc (.cells cs.toArray e)):=by
  obtain⟨h0,inner,hown,hr⟩:=HO
  refine DF base hgd s x t e z d.sz bytes ho ht hinfo hz hs0 hb0 v xs.length inner cs hs hx (d.K_len (d.K_of_M hp)) (d.K_one (d.K_of_M hp)) hown HB hbase hl ?_
  intro v1 w1 hown1 hb1 hg1 hat1
  exact h v1 w1 (Af h0 hr hp oM hfresh hown1 hg1 hat1) hb1 hg1 hat1
end
section
variable {P:Program}{ops:Array Oper}{o:Oper}{a:Act}{Q:Exit->Act->World->Prop}{Kc:Act->World->Prop}{α:Type}
theorem wJ (d:Kd α) {w0 W:World}(base:Nat) (hw:Region.wanted o (yielded ops a.tmps)=true) (s x:Operand) (t e:TypeId) (z:Value) (bytes:Nat)
    (ho:o.op=.call {callee:=.builtin .append,args:= #[s,x],argTypes:= #[t,t]})
    (ht:P.underlying t=some (.slice e)) (hinfo:(P.info? e).map (fun i=>(i.zero,i.size,i.bytes))=some (some z,d.sz,bytes)) (hz:z.cells.size=d.sz) (hs0:0<d.sz) (hb0:0<bytes)
    (v:Value) (xs:List α) (p:α) (cs:List Value) (ok okp:Nat->Prop) (hs:a.eval s=v) (hx:a.eval x=.slice (some ⟨W.heap.size,0,none⟩) 1 1) (hp:d.M W base okp p cs) (oM:∀k,okp k->ok k/\some k≠v.ownBlock) (hfresh:∀k,W.heap.size<=k->ok k)
    (HO:d.R e W base ok v xs) (HB:Below base w0 W) (hbase:base<=W.heap.size) (hl:(xs.length+1)*bytes<=140737488355328)
    (h:∀v1 w1,d.R e w1 base ok v1 (xs++[p])->Below base w0 w1->W.grownBy w1 v.ownBlock->(v1.ownBlock=v.ownBlock\/∃b,v1.ownBlock=some b/\W.heap.size<=b)->Kc (a.put o.dst v1) w1):
    if Region.wanted o (yielded ops a.tmps)=true then Oper.wp P o a (W.alloc (.cells cs.toArray e)) Kc Q else Kc (a.put o.dst undef) (W.alloc (.cells cs.toArray e)):=by
  obtain⟨h0,inner,hown,hr⟩:=HO
  refine Jt base hw s x t e z d.sz bytes ho ht hinfo hz hs0 hb0 v xs.length inner cs hs hx (d.K_len (d.K_of_M hp)) (d.K_one (d.K_of_M hp)) hown HB hbase hl ?_
  intro v1 w1 hown1 hb1 hg1 hat1
  exact h v1 w1 (Af h0 hr hp oM hfresh hown1 hg1 hat1) hb1 hg1 hat1
end
theorem Jc {α:Type}{enc:α->Value}(xs:List α):kF (fun(x:α) (cs:List Value)=>cs=[enc x]) 1 xs (encs enc xs):=by
  refine⟨by simp[encs],fun j p hj=>?_⟩
  obtain⟨hl,hp⟩:=List.getElem?_eq_some_iff.1 hj
  have hl':j<(encs enc xs).length:=by rw[CP];exact hl
  rw[Nat.mul_one,List.drop_eq_getElem_cons hl']
  simp[encs,hp]
theorem EL {α:Type}{enc:α->Value}{h1:∀x,(enc x).oneCell'=true}{e:Nat}{w:World}{base:Nat}{ok:Nat->Prop}{v:Value}{xs:List α}(ho:w.ownsRow base e 1 v xs.length (encs enc xs)) (hok:∀k,v.ownBlock=some k->ok k):(scalar enc h1).R e w base ok v xs:=⟨hok,encs enc xs,ho,Jc xs⟩
theorem Dy {α:Type}{enc:α->Value}{h1:∀x,(enc x).oneCell'=true}{e:Nat}{w:World}{base:Nat}{ok:Nat->Prop}{v:Value}{xs:List α}(h:(scalar enc h1).R e w base ok v xs):w.ownsRow base e 1 v xs.length (encs enc xs):=by
  obtain⟨_,inner,ho,hr⟩:=h
  have:inner=encs enc xs:=by
    apply List.ext_getElem?
    intro j
    rcases Nat.lt_or_ge j xs.length with hj|hj
    · have h2:=hr.2 j _ (List.getElem?_eq_getElem hj)
      have hl:j<inner.length:=by have:=hr.1;simp[scalar]at this;omega
      have h3:(inner.drop (j*1)).take 1=[enc xs[j]]:=h2
      rw[Nat.mul_one,List.drop_eq_getElem_cons hl]at h3
      have h4:inner[j]=enc xs[j]:=by
        have h5:=congrArg List.head? h3
        rw[List.take_succ_cons]at h5
        exact Option.some.inj h5
      rw[List.getElem?_eq_getElem hl,h4]
      simp[encs,List.getElem?_eq_getElem hj]
    have h3:inner.length=xs.length:=by have:=hr.1;simp[scalar]at this;omega
    rw[List.getElem?_eq_none (by omega),List.getElem?_eq_none (by rw[CP];omega)]
  rw[←this]
  exact ho
theorem J4 {α:Type}{enc:α->Value}{d:α}{h1:∀x,(enc x).oneCell'=true}{w:World}{A:Option Addr}{n:Nat}{xs:List α}(h:mX enc d w A n xs):(scalar enc h1).C w A n xs:=by
  refine⟨h.1,h.2.1,fun hn=>?_⟩
  obtain⟨ad,e,hc⟩:=h.2.2 hn
  refine⟨ad,e,fun j p hj=>⟨[enc p],rfl,rfl,fun i u hu=>?_⟩⟩
  obtain⟨hl,hp⟩:=List.getElem?_eq_some_iff.1 hj
  have h2:=hc j (by have:=h.1;omega)
  rw[List.getD_eq_getElem?_getD,hj]at h2
  cases i with
  |zero=>
    have:enc p=u:=by simpa using hu
    subst this
    simpa [scalar] using h2
  |succ i=>simp at hu
theorem DW {α:Type}{enc:α->Value}{d:α}{h1:∀x,(enc x).oneCell'=true}{w:World}{A:Option Addr}{n:Nat}{xs:List α}(h:(scalar enc h1).C w A n xs):mX enc d w A n xs:=by
  refine⟨h.1,h.2.1,fun hn=>?_⟩
  obtain⟨ad,e,hc⟩:=h.2.2 hn
  refine⟨ad,e,fun j hj=>?_⟩
  have hl:j<xs.length:=by have:=h.1;omega
  obtain⟨c,_,hK,hcell⟩:=hc j _ (List.getElem?_eq_getElem hl)
  have hK':c=[enc xs[j]]:=hK
  subst hK'
  have:=hcell 0 _ rfl
  simpa [scalar,List.getD_eq_getElem?_getD,List.getElem?_eq_getElem hl] using this
end Kd
namespace Kd
theorem nP {α:Type}{d:Kd α}{e base:Nat}{ok:Nat->Prop}{W w1:World}{u v v1:Value}{xs:List α}(h:d.R e W base (fun k=>ok k/\some k≠v.ownBlock) u xs) (hg:W.grownBy w1 v.ownBlock) (hat:v1.ownBlock=v.ownBlock\/∃b,v1.ownBlock=some b/\W.heap.size<=b):d.R e w1 base (fun k=>ok k/\some k≠v1.ownBlock) u xs:=by
  refine kz (uC (qw h) (fun k hk=>hg.block k hk.2.2.1 hk.1.2)) (fun k hk=>⟨hk.1.1,?_⟩)
  rcases hat with hat|⟨b,hb,hle⟩
  · rw[hat];exact hk.1.2
  rw[hb]
  intro he
  injection he with he
  have:=hk.2.2.1
  omega
theorem zX {α:Type}{d:Kd α}{e base:Nat}{ok:Nat->Prop}{w:World}{v:Value}{xs:List α}(h:d.R e w base ok v xs):(slice e d).M w base ok xs [v]:=⟨v,rfl,h⟩
section
variable {α β:Type}{d:Kd α}{d':Kd β}{e e':Nat}{w w1 W:World}{base b b':Nat}{ok ok' okv oku:Nat->Prop}{v u:Value}{xs:List α}{ys:List β}
theorem kI (h:d.R e w base ok v xs) (o:Obj):d.R e (w.alloc o) base ok v xs:=o7 h (qx (Below.refl _ _) o)
theorem kw (h:d.R e w base ok v xs):d.R e w.drew base ok v xs:=o7 h (vw (Below.refl _ _))
theorem kJ (h:d.R e w base ok v xs) (m:Nat):d.R e (w.drewN m) base ok v xs:=o7 h (qO (Below.refl _ _) m)
theorem oW {A:Option Addr}{n:Nat}(h:d.C w A n xs) (o:Obj):d.C (w.alloc o) A n xs:=kN h (qx (Below.refl _ _) o)
theorem oZ {A:Option Addr}{n:Nat}(h:d.C w A n xs):d.C w.drew A n xs:=kN h (vw (Below.refl _ _))
theorem o6 {A:Option Addr}{n:Nat}(h:d.C w A n xs) (m:Nat):d.C (w.drewN m) A n xs:=kN h (qO (Below.refl _ _) m)
theorem Ep (d:Kd α) (w:World):d.C w none ([]:List α).length []:=⟨rfl,by simp,fun h=>absurd h (Nat.lt_irrefl 0)⟩
theorem kr {A:Option Addr}{n c:Nat}(h:d.R e w base ok (.slice A n c) xs):n=xs.length/\n<=c/\d.C w A xs.length xs:=by
  obtain⟨A',c',he,hl,hr⟩:=yc h
  injection he with h1 h2 h3
  subst h1
  exact⟨h2,by omega,hr⟩
theorem kT (h:d.R e w base ok v xs):∀k,v.ownBlock=some k->k<w.heap.size:=by
  obtain⟨inner,ho⟩:=u_ h
  exact Dx ho
theorem pR (h:d.R e w base ok v xs):∀k,v.ownBlock=some k->base<=k:=by
  obtain⟨inner,ho⟩:=u_ h
  exact uy ho
theorem Ag (h:d.R e w base ok v xs) {g:Nat}(hok:∀k,ok k->k≠g):some g≠v.ownBlock:=fun e=>hok g (h.1 g e.symm) rfl
theorem sQ (h:d.R e w base ok v xs) (hp:0<xs.length):∃g cap,v=.slice (some ⟨g,0,none⟩) xs.length cap/\base<=g/\g<w.heap.size/\∃cells,w.heap[g]? =some (.cells cells e (0,0)):=by
  obtain⟨inner,ho⟩:=u_ h
  obtain⟨g,cap,he,hb,hl⟩:=ho.form hp
  obtain⟨cells,hc⟩:=xD ho g (by rw[he];simp[Value.ownBlock])
  exact⟨g,cap,he,hb,hl,cells,hc⟩
end
section
variable {w W:World}{A:Option Addr}{n:Nat}
theorem kZ {k:IntKind}{xs:List Int}(h:(Kd.int k).C w A n xs) (i:Int) (h0:0<=i) (h1:i<n):∃ad,A=some ad/\w.cell? (ad.add i.toNat)=some (.int k (rd xs i)):=
  mX.at_ (DW (enc:=Value.int k) (d:=(0:Int)) (h1:=fun _=>rfl) h) i h0 h1
theorem ui {xs:List Bool}(h:Kd.bool.C w A n xs) (i:Int) (h0:0<=i) (h1:i<n):∃ad,A=some ad/\w.cell? (ad.add i.toNat)=some (.bool (lW false xs i)):=
  mX.at_ (DW (enc:=Value.bool) (d:=false) (h1:=fun _=>rfl) h) i h0 h1
variable {α:Type}{enc:α->Value}{h1:∀x,(enc x).oneCell'=true}{e base g cap:Nat}{ok:Nat->Prop}{xs:List α}
theorem EG (d:α) (h:(scalar enc h1).R e W base ok (.slice (some ⟨g,0,none⟩) xs.length cap) xs) (i:Int) (h0:0<=i) (hi:i<xs.length):W.cell? ⟨g,i.toNat,none⟩=some (enc (lW d xs i))/\W.frozen? ⟨g,i.toNat,none⟩=false:=Iw (Dy h) i h0 hi
theorem Aj (h:(scalar enc h1).R e W base ok (.slice (some ⟨g,0,none⟩) xs.length cap) xs) (i:Int) (x:α):(scalar enc h1).R e (W.setCell ⟨g,i.toNat,none⟩ (enc x)) base ok (.slice (some ⟨g,0,none⟩) xs.length cap) (xs.set i.toNat x)/\W.grownBy (W.setCell ⟨g,i.toNat,none⟩ (enc x)) (some g):=by
  obtain⟨ho,hg⟩:=IG (Dy h) i x
  exact⟨EL (by rw[List.length_set];exact ho) h.1,hg⟩
end
section
variable {P:Program}{ops:Array Oper}{rest:List Oper}{o:Oper}{a:Act}{Q:Exit->Act->World->Prop}
theorem za {W w1:World}{v:Value}(hgd:o.guard=none) (hrun:(execOp a.eval o).run P W=.ok (.value v) w1) (h:wpList P ops Q rest (a.put o.dst v) w1):wpList P ops Q (o::rest) a W:=by
  refine wpList_plain hgd fun K hK=>?_
  unfold Oper.wp
  rw[hrun]
  exact hK _ _ h
variable {α:Type}
theorem xY (d:Kd α) {w0 W:World}(base e:Nat) (hgd:o.guard=none) {N:Tmp}(_hd:o.dst=some N) {xs:List α}{inner:List Value}{ok okp:Nat->Prop}
    (hrun:(execOp a.eval o).run P W=.ok (.value (.slice (some ⟨W.heap.size,0,none⟩) xs.length xs.length)) (W.alloc (.cells inner.toArray e)))
    (hrep:kF (d.M W base okp) d.sz xs inner) (hok:∀k,okp k->ok k) (hfresh:ok W.heap.size) (HB:Below base w0 W) (hbase:base<=W.heap.size) (hm:xs.length<=9223372036854775807)
    (h:∀v1 w1,d.R e w1 base ok v1 xs->Below base w0 w1->W.grownBy w1 none->(∃b,v1.ownBlock=some b/\W.heap.size<=b)->wpList P ops Q rest (a.put o.dst v1) w1):wpList P ops Q (o::rest) a W:=by
  refine za hgd hrun (h _ _ ⟨fun k hk=>?_,inner,?_,?_⟩ (HB.alloc hbase _) (World.grownBy_alloc W _ none) ⟨W.heap.size,by simp[Value.ownBlock],Nat.le_refl _⟩)
  · have:W.heap.size=k:=by simpa [Value.ownBlock] using hk
    subst this
    exact hfresh
  · have h2:=World.ownsRow_lit (base:=base) (e:=e) (size:=d.sz) W inner.toArray xs.length hbase (by simpa [maxLen] using hm) (by simpa using hrep.1)
    simpa using h2
  refine hrep.oC (fun p c hp=>d.M_mono (fun k hk=>⟨hok k hk.1,fun he=>?_⟩) (zW (d.M_bound hp) (qx (Below.refl _ _) _)))
  have h3:k=W.heap.size:=by simpa [Value.ownBlock] using he
  have:=hk.2.2.1
  omega
theorem Ja {α:Type}{R:α->List Value->Prop}{z:Value}{size:Nat}{z0:α}(hz:z.cells.size=size) (hs:0<size) (h0:R z0 z.cells.toList) (m:Nat):kF R size (List.replicate m z0) (madeCells z.cells (m*size)).toList:=by
  refine⟨by simp[size_madeCells],fun j p hj=>?_⟩
  obtain⟨hjl,hp⟩:=List.getElem?_eq_some_iff.1 hj
  have hjm:j<m:=by simpa using hjl
  have hp':z0=p:=by simpa using hp
  subst hp'
  have hle:j*size+size<=m*size:=by rw[←Nat.succ_mul];exact Nat.mul_le_mul_right _ hjm
  have:((madeCells z.cells (m*size)).toList.drop (j*size)).take size=z.cells.toList:=by
    apply List.ext_getElem
    · simp[size_madeCells,hz]
      omega
    intro i h1 h2
    have hi:i<size:=by rw[Array.length_toList,hz]at h2;exact h2
    have hmod:(j*size+i)%size=i:=by
      rw[Nat.mul_comm,Nat.mul_add_mod]
      exact Nat.mod_eq_of_lt hi
    simp[madeCells,hz,hmod]
    rw[getElem!_pos z.cells i (by omega)]
  rw[this]
  exact h0
theorem xZ (d:Kd α) {w0 W:World}(base e:Nat) (hgd:o.guard=none) {N:Tmp}(hd:o.dst=some N) (t:TypeId) (x y:Operand) (ho:o.op=.makeSlice t x y) (n:Int) (hx:a.eval x=.int .i64 n) (hy:a.eval y=.int .i64 n)
    (ht:P.underlying t=some (.slice e)) (z:Value) (bytes:Nat) (hinfo:(P.info? e).map (fun i=>(i.zero,i.size,i.bytes))=some (some z,d.sz,bytes)) (hz:z.cells.size=d.sz) (hs0:0<d.sz) (hb0:0<bytes)
    (z0:α) {ok okp:Nat->Prop}(hzero:d.M W base okp z0 z.cells.toList) (hok:∀k,okp k->ok k) (hfresh:ok W.heap.size) (h0:0<=n) (hl:n.toNat*bytes<=281474976710656) (HB:Below base w0 W) (hbase:base<=W.heap.size)
    (h:∀v1 w1,d.R e w1 base ok v1 (List.replicate n.toNat z0)->Below base w0 w1->W.grownBy w1 none->(∃b,v1.ownBlock=some b/\W.heap.size<=b)->wpList P ops Q rest (a.put o.dst v1) w1):wpList P ops Q (o::rest) a W:=by
  obtain⟨m,rfl⟩:=Int.eq_ofNat_of_zero_le h0
  simp only [Int.toNat_natCast]at hl h
  obtain⟨i0,hi,hzz⟩:=Option.map_eq_some_iff.1 hinfo
  simp only [Prod.mk.injEq]at hzz
  obtain⟨hz0,hz1,hz2⟩:=hzz
  have hm:m<=281474976710656:=Nat.le_trans (Nat.le_mul_of_pos_right _ hb0) hl
  have hr:=run_make (P:=P) W t e i0 z ht hi hz0 .i64 .i64 (m:Int) (m:Int) (by omega) (by omega)
    (by
      have h3:((i0.bytes*m:Nat):Int)<=281474976710656:=by rw[hz2,Nat.mul_comm];omega
      rwa [Int.natCast_mul]at h3) (by omega)
  simp only [Int.toNat_natCast]at hr
  rw[hz1]at hr
  refine xY d base e hgd hd (xs:=List.replicate m z0) (inner:=(madeCells z.cells (m*d.sz)).toList) (okp:=okp) (ok:=ok) ?_ (Ja hz hs0 hzero m) hok hfresh HB hbase (by simp;omega) h
  simp[execOp,ho,hx,hy,hr]
end
end Kd
section
variable {P:Program}
theorem Kk (t e:TypeId) (kh:IntKind) {i:TypeInfo}(ht:P.underlying t=some (.slice e)) (hi:P.info? e=some i) (A:Option Addr) (n c:Nat) (j:Int) (h0:0<=j) (hm:j<=n) (hc:n<=c):
    ∀W:World,(Instr.slice t (.slice A n c) none (some (.int kh j)) none).run P W=.ok (.slice A j.toNat c) W:=by
  intro W
  have hel:P.elem t=e:=by simp[Program.elem,ht]
  have hu:P.underlying t=some (.slice (P.elem t)):=by rw[hel];exact ht
  have ha:(A.map fun x=>x.add 0)=A:=by cases A<;>simp[Addr.add]
  rw[run_slice_h W t A n c hu kh j h0 (by omega),hel]
  simp[sizeOf,typeInfo,hi,sliced,Result.andThen,ha]
theorem CG (t e:TypeId) (kl:IntKind) {i:TypeInfo}(ht:P.underlying t=some (.slice e)) (hi:P.info? e=some i) (size:Nat) (hsz:i.size=size) (A:Option Addr) (n c:Nat) (j:Int) (h0:0<=j) (hm:j<=n):
    ∀W:World,(Instr.slice t (.slice A n c) (some (.int kl j)) none none).run P W=.ok (.slice (if c=j.toNat then A else A.map (·.add (j.toNat*size))) (n - j.toNat) (c - j.toNat)) W:=by
  intro W
  have hel:P.elem t=e:=by simp[Program.elem,ht]
  have hu:P.underlying t=some (.slice (P.elem t)):=by rw[hel];exact ht
  rw[run_slice_l W t A n c hu kl j h0 hm,hel]
  simp[sizeOf,typeInfo,hi,hsz,sliced,Result.andThen]
end
def pG (w:World) (base:Nat) (e:TypeId) (size:Nat) (v:Value) (n:Nat) (xs:List Value):Prop:=
  xs.length=n*size/\
  ((n=0/\∃A,v=.slice A 0 0/\∀a,A=some a->base<=a.block/\∃cur,w.heap[a.block]? =some (.cells cur e (0,0)))\/
   ∃g off cap cur,v=.slice (some ⟨g,off*size,none⟩) n cap/\base<=g/\w.heap[g]? =some (.cells cur e (0,0))/\n<=cap/\off+cap<=maxLen/\cur.size=(off+cap)*size/\(cur.toList.drop (off*size)).take (n*size)=xs)
section
variable {w w1:World}{base n size:Nat}{e:TypeId}{v:Value}{xs:List Value}
theorem zy (h:w.ownsRow base e size v n xs):pG w base e size v n xs:=by
  obtain⟨h1,h2⟩:=h
  refine⟨h1,?_⟩
  rcases h2 with⟨rfl,h0⟩|⟨g,cap,cur,rfl,hb,hh,hnc,hcm,hcs,ht⟩
  · exact .inl ⟨h0,none,rfl,fun a ha=>by cases ha⟩
  exact .inr ⟨g,0,cap,cur,by rw[Nat.zero_mul],hb,hh,hnc,by rw[Nat.zero_add];exact hcm,by rw[Nat.zero_add];exact hcs,by rw[Nat.zero_mul,List.drop_zero];exact ht⟩
theorem DI (h:pG w base e size v n xs) (hm:∀k,v.ownBlock=some k->w1.heap[k]? =w.heap[k]?):pG w1 base e size v n xs:=by
  obtain⟨h1,h2⟩:=h
  refine⟨h1,?_⟩
  rcases h2 with⟨h0,A,rfl,hA⟩|⟨g,off,cap,cur,rfl,hg,hh,r⟩
  · refine .inl ⟨h0,A,rfl,fun a ha=>?_⟩
    obtain⟨hb,cur,hc⟩:=hA a ha
    subst ha
    exact⟨hb,cur,(hm a.block (by simp[Value.ownBlock])).trans hc⟩
  exact .inr ⟨g,off,cap,cur,rfl,hg,(hm g (by simp[Value.ownBlock])).trans hh,r⟩
theorem vZ (h:pG w base e size v n xs) (k:Nat) (hk:v.ownBlock=some k):base<=k/\∃cells,w.heap[k]? =some (.cells cells e (0,0)):=by
  rcases h.2 with⟨_,A,rfl,hA⟩|⟨g,off,cap,cur,rfl,hg,hh,r⟩
  · cases A with
    |none=>simp[Value.ownBlock]at hk
    |some a=>
      have:a.block=k:=by simpa [Value.ownBlock] using hk
      subst this
      exact hA a rfl
  have:g=k:=by simpa [Value.ownBlock] using hk
  subst this
  exact⟨hg,cur,hh⟩
theorem zx (h:pG w base e size v n xs) (k:Nat) (hk:v.ownBlock=some k):k<w.heap.size:=by
  obtain⟨_,cells,hc⟩:=vZ h k hk
  exact(Array.getElem?_eq_some_iff.1 hc).1
theorem IV {base':Nat}(h:pG w base e size v n xs) (hb:base'<=base):pG w base' e size v n xs:=by
  obtain⟨h1,h2⟩:=h
  refine⟨h1,?_⟩
  rcases h2 with⟨h0,A,rfl,hA⟩|⟨g,off,cap,cur,rfl,hg,r⟩
  · exact .inl ⟨h0,A,rfl,fun a ha=>⟨Nat.le_trans hb (hA a ha).1,(hA a ha).2⟩⟩
  exact .inr ⟨g,off,cap,cur,rfl,Nat.le_trans hb hg,r⟩
theorem DJ (h:pG w base e size v n xs):∃A c,v=.slice A n c/\n<=c:=by
  rcases h.2 with⟨h0,A,rfl,_⟩|⟨g,off,cap,cur,rfl,hg,hh,hnc,r⟩
  · exact⟨A,0,by rw[h0],by omega⟩
  exact⟨_,cap,rfl,hnc⟩
theorem IW (h:pG w base e size v n xs):n<=9223372036854775807:=by
  rcases h.2 with⟨h0,_⟩|⟨g,off,cap,cur,rfl,hg,hh,hnc,hm,r⟩
  · omega
  simp only [maxLen]at hm
  omega
theorem qU (g o j:Nat):(⟨g,o,none⟩:Addr).add j=⟨g,o+j,none⟩:=by unfold Addr.add;split<;>simp_all
theorem IR {A:Option Addr}{c:Nat}(h:pG w base e size (.slice A n c) n xs) (hn:0<n):∃ad,A=some ad/\∀j u,xs[j]? =some u->w.cell? (ad.add j)=some u:=by
  rcases h.2 with⟨h0,_⟩|⟨g,off,cap,cur,he,hg,hh,hnc,hm,hcs,ht⟩
  · omega
  injection he with ha _ hc
  subst ha
  refine⟨_,rfl,fun j u hu=>?_⟩
  rw[qU,cell_of_row w g _ cur e (0,0) hh]
  rw[←ht,List.getElem?_take]at hu
  split at hu
  · rw[List.getElem?_drop]at hu
    rw[←Array.getElem?_toList]
    exact hu
  cases hu
theorem IU {A:Option Addr}{c k:Nat}(h:pG w base e size (.slice A n c) n xs) (hk:k<=n):pG w base e size (.slice (if c=k then A else A.map (·.add (k*size))) (n - k) (c - k)) (n - k) (xs.drop (k*size)):=by
  obtain⟨h1,h2⟩:=h
  refine⟨by rw[List.length_drop,h1,Nat.sub_mul],?_⟩
  rcases h2 with⟨h0,A',he,hA⟩|⟨g,off,cap,cur,he,hb,hh,hnc,hcm,hcs,ht⟩
  · injection he with ha hb hc
    subst ha;subst hc
    have hk0:k=0:=by omega
    subst hk0
    exact .inl ⟨by omega,A,by rw[if_pos rfl,h0],hA⟩
  injection he with ha _ hc
  subst ha;subst hc
  by_cases hck:c=k
  · rw[if_pos hck]
    refine .inl ⟨by omega,some ⟨g,off*size,none⟩,?_,fun a ha=>?_⟩
    · rw[show n - k=0 by omega,show c - k=0 by omega]
    injection ha with ha
    subst ha
    exact⟨hb,cur,hh⟩
  rw[if_neg hck]
  refine .inr ⟨g,off+k,c - k,cur,?_,hb,hh,by omega,by omega,by rw[hcs];congr 1;omega,?_⟩
  · rw[Option.map_some,qU,Nat.add_mul]
  rw[←ht,List.drop_take,List.drop_drop,Nat.add_mul,Nat.sub_mul]
theorem zA {g:Nat}:∀ (vs:List Value) (o:Nat) {w:World}(k:Nat),k≠g->(w.setCells g o vs).heap[k]? =w.heap[k]?
  |[],_,_,_,_=>rfl
  |v::r,o,w,k,hk=>by
    rw[World.setCells,zA r (o+1) k hk]
    exact Below.heap_setCell w ⟨g,o,none⟩ v k hk
theorem zC (g:Nat):∀ (vs:List Value) (o:Nat) (w:World),(w.setCells g o vs).os=w.os/\(w.setCells g o vs).tape=w.tape/\(w.setCells g o vs).output=w.output/\(w.setCells g o vs).heap.size=w.heap.size
  |[],_,_=>⟨rfl,rfl,rfl,rfl⟩
  |v::r,o,w=>by
    obtain⟨h1,h2,h3,h4⟩:=zC g r (o+1) (w.setCell ⟨g,o,none⟩ v)
    rw[World.setCells]
    exact⟨h1,h2,h3,by rw[h4];simp[World.setCell]⟩
theorem zB {g:Nat}{e:TypeId}:∀ (vs:List Value) (o:Nat) (w:World) (cur:Array Value),w.heap[g]? =some (.cells cur e (0,0))->o+vs.length<=cur.size->
    ∃cur',(w.setCells g o vs).heap[g]? =some (.cells cur' e (0,0))/\cur'.size=cur.size/\cur'.toList=cur.toList.take o++vs++cur.toList.drop (o+vs.length)
  |[],o,w,cur,h,_=>⟨cur,h,rfl,by simp⟩
  |v::r,o,w,cur,h,hl=>by
    have h2:=yD h o v
    simp only [List.length_cons]at hl
    obtain⟨cur',h3,h4,h5⟩:=zB r (o+1) (w.setCell ⟨g,o,none⟩ v) _ h2 (by simp;omega)
    refine⟨cur',h3,by rw[h4];simp,?_⟩
    rw[h5,Array.toList_setIfInBounds]
    have ho:o<cur.toList.length:=by rw[Array.length_toList];omega
    rw[List.take_set,List.drop_set_of_lt (by omega)]
    simp only [List.length_cons]
    rw[show o+1+r.length=o+(r.length+1) by omega]
    congr 1
    rw[List.take_succ_eq_append_getElem ho,List.set_append_right _ _ (by rw[List.length_take];omega)]
    have ho':o<cur.size:=by omega
    simp[Nat.min_eq_left (Nat.le_of_lt ho')]
end
section
variable {P:Program}
theorem IQ (w:World) (base:Nat) (t ty e:TypeId) (i:TypeInfo) (z:Value) (size bytes:Nat) (ht:P.underlying t=some (.slice e)) (hi:P.info? e=some i) (hz:i.zero=some z)
    (hsize:i.size=size) (hby:i.bytes=bytes) (hzs:z.cells.size=size) (hsz:0<size)
    (v:Value) (n:Nat) (xs:List Value) (hown:pG w base e size v n xs)
    (a:Addr) (m c:Nat) (news:List Value) (hl:news.length=m*size) (hnews:∀j u,news[j]? =some u->w.cell? (a.add j)=some u) (h1:∀u∈news,u.oneCell'=true) (hm:0<m)
    (h63:n+m<=maxLen) (hbytes:(n+m)*bytes<=140737488355328) (hbase:base<=w.heap.size):
    ∃v' w',(Builtin.append_ #[t,t] ty #[v,.slice (some a) m c]).run P w=.ok v' w'/\pG w' base e size v' (n+m) (xs++news)/\w.grownBy w' v.ownBlock/\(v'.ownBlock=v.ownBlock\/∃b,v'.ownBlock=some b/\w.heap.size<=b):=by
  have grows:∀ (b:Addr) (cap:Nat),cap<n+m->(∀j u,xs[j]? =some u->w.cell? (b.add j)=some u)->v=.slice (some b) n cap->
      ∃v' w',(Builtin.append_ #[t,t] ty #[v,.slice (some a) m c]).run P w=.ok v' w'/\pG w' base e size v' (n+m) (xs++news)/\w.grownBy w' v.ownBlock/\(v'.ownBlock=v.ownBlock\/∃b,v'.ownBlock=some b/\w.heap.size<=b):=by
    intro b cap hcap hcells hv
    obtain⟨v',w',hr,ho,hg⟩:=run_append_arg_grows (P:=P) (w:=w) t ty e i z size bytes ht hi hz hsize hby hzs hsz b n cap xs hown.1 hcells a m c news hl hnews hcap h63 hbytes
    refine⟨v',w',by rw[hv];exact hr,IV (zy ho) hbase,⟨hg.os,hg.tape,hg.output,hg.size,fun k hk _=>hg.block k hk (by simp)⟩,?_⟩
    obtain⟨g',cap',he,hb,_⟩:=ho.form (by omega)
    exact .inr ⟨g',by rw[he];simp[Value.ownBlock],hb⟩
  rcases hown.2 with⟨h0,A,hv,hA⟩|⟨g,off,cap,cur,hv,hbg,hg,hnc,hcm,hcs,htake⟩
  · cases A with
    |none=>
      subst h0
      have ho:w.ownsRow base e size v 0 xs:=⟨hown.1,.inl ⟨hv,rfl⟩⟩
      obtain⟨v',w',hr,ho',hg,_,hat⟩:=run_append_own_at (P:=P) w base t ty e i z size bytes ht hi hz hsize hby hzs hsz v 0 xs ho a m c news hl hnews h1 h63 hbytes hbase
      refine⟨v',w',hr,zy ho',hg,?_⟩
      rcases hat with hat|hat
      · exact .inl hat
      exact .inr ⟨_,hat,Nat.le_refl _⟩
    |some b=>
      have hx:xs=[]:=List.eq_nil_of_length_eq_zero (by rw[hown.1,h0,Nat.zero_mul])
      exact grows b 0 (by omega) (fun j u hu=>by rw[hx]at hu;simp at hu) (by rw[hv,h0])
  by_cases hroom:n+m<=cap
  · have hfit:off*size+n*size+news.length<=cur.size:=by
      rw[hl,hcs,←Nat.add_mul,←Nat.add_mul]
      exact Nat.mul_le_mul_right _ (by omega)
    subst hsize
    have hr:=run_append_room_cells (P:=P) (w:=w) t ty e i ht hi g (off*i.size) n cap a m c news hl hnews h1 hroom
      (fun j hj=>by rw[cell_of_row w g _ cur e (0,0) hg];simp;omega) (fun j _=>l8 hg _)
    obtain⟨cur',h3,h4,h5⟩:=zB news (off*i.size+n*i.size) w cur hg hfit
    obtain⟨s1,s2,s3,s4⟩:=zC g news (off*i.size+n*i.size) w
    refine⟨_,_,by rw[hv];exact hr,⟨by rw[List.length_append,hown.1,hl,Nat.add_mul],.inr ⟨g,off,cap,cur',rfl,hbg,h3,hroom,hcm,by rw[h4,hcs],?_⟩⟩,
      ⟨s1,s2,s3,by rw[s4];exact Nat.le_refl _,fun k _ hk=>zA news _ k (fun he=>hk (by rw[hv,he];simp[Value.ownBlock]))⟩,.inl (by rw[hv];rfl)⟩
    rw[h5,List.append_assoc,List.drop_append_of_le_length (by rw[List.length_take,Array.length_toList];omega),List.drop_take]
    rw[show off*i.size+n*i.size - off*i.size=n*i.size by omega,htake]
    rw[←List.append_assoc]
    exact List.take_left' (by rw[List.length_append,hown.1,hl,Nat.add_mul])
  refine grows ⟨g,off*size,none⟩ cap (by omega) (fun j u hu=>?_) hv
  rw[qU,cell_of_row w g _ cur e (0,0) hg]
  rw[←htake,List.getElem?_take]at hu
  split at hu
  · rw[List.getElem?_drop]at hu
    rw[←Array.getElem?_toList]
    exact hu
  cases hu
end
namespace Kd
theorem I_ {α:Type}{R:α->List Value->Prop}{size m:Nat}{ps:List α}{cs:List Value}(h:kF R size ps cs):kF R size (ps.drop m) (cs.drop (m*size)):=by
  refine⟨by rw[List.length_drop,List.length_drop,h.1,Nat.sub_mul],fun j p hj=>?_⟩
  rw[List.getElem?_drop]at hj
  have:=h.2 (m+j) p hj
  rw[List.drop_drop,←Nat.add_mul]
  exact this
def Q {α:Type}(d:Kd α) (e:Nat) (w:World) (base:Nat) (ok:Nat->Prop) (v:Value) (xs:List α):Prop:=
  (∀k,v.ownBlock=some k->ok k)/\∃inner,pG w base e d.sz v xs.length inner/\kF (d.M w base (fun k=>ok k/\some k≠v.ownBlock)) d.sz xs inner
section
variable {α:Type}{d:Kd α}{e:Nat}{w w1 W:World}{base:Nat}{ok ok':Nat->Prop}{v:Value}{xs:List α}
theorem xU (h:d.R e w base ok v xs):d.Q e w base ok v xs:=by
  obtain⟨h0,inner,ho,hr⟩:=h
  exact⟨h0,inner,zy ho,hr⟩
theorem wH (d:Kd α) (e:Nat) (w:World) (base:Nat) (ok:Nat->Prop):d.Q e w base ok (.slice none 0 0) []:=xU (sS d e w base ok)
theorem sw (h:d.Q e w base ok v xs) (hok:∀k,ok k->ok' k):d.Q e w base ok' v xs:=by
  obtain⟨h0,inner,ho,hr⟩:=h
  exact⟨fun k hk=>hok k (h0 k hk),inner,ho,hr.oC (fun _ _ hp=>d.M_mono (fun k hk=>⟨hok k hk.1,hk.2⟩) hp)⟩
theorem wG (h:d.Q e w base ok v xs):d.Q e w base (fun k=>ok k/\base<=k/\k<w.heap.size/\∃q,q∈e::d.E/\∃cells,w.heap[k]? =some (.cells cells q (0,0))) v xs:=by
  obtain⟨h0,inner,ho,hr⟩:=h
  refine⟨fun k hk=>?_,inner,ho,hr.oC (fun _ _ hp=>d.M_mono (fun k hk=>?_) (d.M_bound hp))⟩
  · obtain⟨hb,cells,hc⟩:=vZ ho k hk
    exact⟨h0 k hk,hb,zx ho k hk,e,List.mem_cons_self,cells,hc⟩
  obtain⟨⟨h1,h2⟩,h3,h4,q,hq,hc⟩:=hk
  exact⟨⟨h1,h3,h4,q,List.mem_cons_of_mem _ hq,hc⟩,h2⟩
theorem xS (h:d.Q e w base ok v xs) (hm:∀k,ok k->w1.heap[k]? =w.heap[k]?):d.Q e w1 base ok v xs:=by
  obtain⟨h0,inner,ho,hr⟩:=h
  exact⟨h0,inner,DI ho (fun k hk=>hm k (h0 k hk)),hr.oC (fun _ _ hp=>d.M_move (fun k hk=>hm k hk.1) hp)⟩
theorem Ad (h:d.Q e w base ok v xs) (hm:∀k,ok k->k<w.heap.size->w1.heap[k]? =w.heap[k]?):d.Q e w1 base ok v xs:=sw (xS (wG h) (fun k hk=>hm k hk.1 hk.2.2.1)) (fun _ hk=>hk.1)
theorem xR (h:d.Q e w base ok v xs) (hb:Below w.heap.size w w1):d.Q e w1 base ok v xs:=Ad h (fun k _ hk=>hb.block k hk)
theorem qP (h:d.Q e w base ok v xs) (o:Obj):d.Q e (w.alloc o) base ok v xs:=xR h (qx (Below.refl _ _) o)
theorem qB (h:d.Q e w base ok v xs):d.Q e w.drew base ok v xs:=xR h (vw (Below.refl _ _))
theorem qQ (h:d.Q e w base ok v xs) (m:Nat):d.Q e (w.drewN m) base ok v xs:=xR h (qO (Below.refl _ _) m)
theorem EC (h:d.Q e w base ok v xs) {p:Addr}(hok:∀k,ok k->k≠p.block) (u:Value):d.Q e (w.setCell p u) base ok v xs:=Ad h (fun k ho _=>Below.heap_setCell w p u k (hok k ho))
theorem J7 (h:d.Q e w base ok v xs) {g t:Nat}{cells:Array Value}(hb:w.heap[g]? =some (.cells cells t (0,0))) (ht:∀q,q∈e::d.E->q≠t):d.Q e w base (fun k=>ok k/\k≠g) v xs:=
  sw (wG h) (fun k hk=>⟨hk.1,by
    obtain⟨_,_,_,q,hq,cells',hc⟩:=hk
    rintro rfl
    rw[hc]at hb
    injection hb with hb
    injection hb with _ hb
    exact ht q hq hb⟩)
theorem Aa (h:d.Q e w base ok v xs):∀k,v.ownBlock=some k->k<w.heap.size:=by
  obtain⟨_,inner,ho,_⟩:=h
  exact zx ho
theorem Ac (h:d.Q e w base ok v xs) {g t:Nat}{cells:Array Value}(hb:w.heap[g]? =some (.cells cells t (0,0))) (ht:e≠t):some g≠v.ownBlock:=by
  obtain⟨_,inner,ho,_⟩:=h
  intro he
  obtain⟨_,cells',hc⟩:=vZ ho g he.symm
  rw[hc]at hb
  injection hb with hb
  injection hb with _ hb
  exact ht hb
theorem wI (h:d.Q e w base ok v xs):∃A c,v=.slice A xs.length c/\xs.length<=c:=by
  obtain⟨_,inner,ho,_⟩:=h
  exact DJ ho
theorem xV {A:Option Addr}{n c:Nat}(h:d.Q e w base ok (.slice A n c) xs):n=xs.length/\n<=c/\d.C w A xs.length xs:=by
  obtain⟨_,inner,ho,hr⟩:=h
  obtain⟨A',c',he,hl⟩:=DJ ho
  injection he with h1 h2 h3
  subst h1;subst h2;subst h3
  refine⟨rfl,hl,rfl,IW ho,fun hp=>?_⟩
  obtain⟨ad,ha,hc⟩:=IR ho hp
  refine⟨ad,ha,fun j p hj=>⟨(inner.drop (j*d.sz)).take d.sz,?_,d.K_of_M (hr.2 j p hj),fun i u hu=>?_⟩⟩
  · have hjl:=(List.getElem?_eq_some_iff.1 hj).1
    have h1:j*d.sz+d.sz<=inner.length:=by rw[hr.1,←Nat.succ_mul];exact Nat.mul_le_mul_right _ hjl
    rw[List.length_take,List.length_drop]
    omega
  refine hc _ u ?_
  rw[List.getElem?_take]at hu
  split at hu
  · rw[List.getElem?_drop]at hu
    exact hu
  cases hu
theorem z8 {A:Option Addr}{k n c:Nat}(h:d.Q e w base ok (.slice A n c) xs) (hk:k<=xs.length):d.Q e w base ok (.slice (if c=k then A else A.map (·.add (k*d.sz))) (n - k) (c - k)) (xs.drop k):=by
  have hn:n=xs.length:=(xV h).1
  subst hn
  obtain⟨h0,inner,ho,hr⟩:=h
  have hb:(Value.slice (if c=k then A else A.map (·.add (k*d.sz))) (xs.length - k) (c - k)).ownBlock=(Value.slice A xs.length c).ownBlock:=by
    split
    · cases A<;>rfl
    cases A with
    |none=>rfl
    |some a=>simp[Value.ownBlock];unfold Addr.add;split<;>rfl
  refine⟨fun j hj=>h0 j (by rw[←hb];exact hj),inner.drop (k*d.sz),?_,?_⟩
  · rw[List.length_drop]
    exact IU ho hk
  rw[hb]
  exact I_ hr
theorem EB {okp:Nat->Prop}{v1:Value}{p:α}{inner cs:List Value}(h0:∀k,v.ownBlock=some k->ok k) (hr:kF (d.M W base (fun k=>ok k/\some k≠v.ownBlock)) d.sz xs inner) (hp:d.M W base okp p cs) (oM:∀k,okp k->ok k/\some k≠v.ownBlock) (hfresh:∀k,W.heap.size<=k->ok k)
    (hown:pG w1 base e d.sz v1 (xs.length+1) (inner++cs)) (hg:W.grownBy w1 v.ownBlock) (hat:v1.ownBlock=v.ownBlock\/∃b,v1.ownBlock=some b/\W.heap.size<=b):d.Q e w1 base ok v1 (xs++[p]):=by
  have hne:∀k,some k≠v.ownBlock->k<W.heap.size->some k≠v1.ownBlock:=by
    intro k hk hlt
    rcases hat with hat|⟨b,hb,hle⟩
    · rw[hat];exact hk
    rw[hb]
    intro he
    injection he with he
    omega
  have step:∀ {q:α}{c:List Value}{o:Nat->Prop},d.M W base o q c->(∀k,o k->ok k/\some k≠v.ownBlock)->d.M w1 base (fun k=>ok k/\some k≠v1.ownBlock) q c:=by
    intro q c o hq ho
    have h1:=d.M_move (w1:=w1) (fun k hk=>hg.block k hk.2.2.1 (ho k hk.1).2) (d.M_bound hq)
    exact d.M_mono (fun k hk=>⟨(ho k hk.1).1,hne k (ho k hk.1).2 hk.2.2.1⟩) h1
  refine⟨fun k hk=>?_,inner++cs,by rw[List.length_append,List.length_singleton];exact hown,?_⟩
  · rcases hat with hat|⟨b,hb,hle⟩
    · exact h0 k (hat▸hk)
    rw[hb]at hk
    injection hk with hk
    exact hfresh k (by omega)
  exact(hr.oC (fun _ _ hq=>step hq (fun _ hk=>hk))).snoc (step hp oM) (d.K_len (d.K_of_M hp))
end
section
variable {P:Program}{ops:Array Oper}{rest:List Oper}{o:Oper}{a:Act}{Q':Exit->Act->World->Prop}{Kc:Act->World->Prop}{α:Type}
theorem EE (d:Kd α) {w0 W:World}(base:Nat) (t ty e:TypeId) (z:Value) (bytes:Nat)
    (ht:P.underlying t=some (.slice e)) (hinfo:(P.info? e).map (fun i=>(i.zero,i.size,i.bytes))=some (some z,d.sz,bytes)) (hz:z.cells.size=d.sz) (hs0:0<d.sz) (hb0:0<bytes)
    (v:Value) (xs:List α) (p:α) (cs:List Value) (ok okp:Nat->Prop) (hp:d.M W base okp p cs) (oM:∀k,okp k->ok k/\some k≠v.ownBlock) (hfresh:∀k,W.heap.size<=k->ok k)
    (HO:d.Q e W base ok v xs) (HB:Below base w0 W) (hbase:base<=W.heap.size) (hl:(xs.length+1)*bytes<=140737488355328):
    ∃v1 w1,(Builtin.append_ #[t,t] ty #[v,.slice (some ⟨W.heap.size,0,none⟩) 1 1]).run P (W.alloc (.cells cs.toArray e))=.ok v1 w1/\d.Q e w1 base ok v1 (xs++[p])/\Below base w0 w1/\W.grownBy w1 v.ownBlock/\(v1.ownBlock=v.ownBlock\/∃b,v1.ownBlock=some b/\W.heap.size<=b):=by
  obtain⟨h0,inner,hown,hr⟩:=HO
  obtain⟨i0,hi,hzz⟩:=Option.map_eq_some_iff.1 hinfo
  simp only [Prod.mk.injEq]at hzz
  obtain⟨hz0,hz1,hz2⟩:=hzz
  have hlen:xs.length+1<=140737488355328:=Nat.le_trans (Nat.le_mul_of_pos_right _ hb0) hl
  have hcl:=d.K_len (d.K_of_M hp)
  have hq:pG (W.alloc (.cells cs.toArray e)) base e d.sz v xs.length inner:=DI hown (fun k hk=>Below.heap_alloc W _ k (zx hown k hk))
  obtain⟨v1,w1,hrun,hq1,hg1,hat⟩:=IQ (P:=P) (W.alloc (.cells cs.toArray e)) base t ty e i0 z d.sz bytes ht hi hz0 hz1 hz2 hz hs0 v xs.length inner hq ⟨W.heap.size,0,none⟩ 1 1 cs (by rw[hcl,Nat.one_mul])
    (by simpa using World.news_of_block (cs:=cs.toArray) (t:=e) (fr:=(0,0)) (heap_alloc_new W (.cells cs.toArray e))) (d.K_one (d.K_of_M hp)) (by omega) (by simp only [maxLen];omega) hl (by simp;omega)
  have hg:W.grownBy w1 v.ownBlock:=World.grownBy.trans (World.grownBy_alloc W _ _) hg1
  have hat':v1.ownBlock=v.ownBlock\/∃b,v1.ownBlock=some b/\W.heap.size<=b:=by
    rcases hat with hat|⟨b,hb,hle⟩
    · exact .inl hat
    exact .inr ⟨b,hb,by rw[World.size_alloc]at hle;omega⟩
  exact⟨v1,w1,hrun,EB h0 hr hp oM hfresh hq1 hg hat',HB.grown hg hbase (fun k hk=>(vZ hown k hk).1),hg,hat'⟩
theorem zZ (d:Kd α) {w0 W:World}(base:Nat) (hgd:o.guard=none) (s x:Operand) (t e:TypeId) (z:Value) (bytes:Nat)
    (ho:o.op=.call {callee:=.builtin .append,args:= #[s,x],argTypes:= #[t,t]})
    (ht:P.underlying t=some (.slice e)) (hinfo:(P.info? e).map (fun i=>(i.zero,i.size,i.bytes))=some (some z,d.sz,bytes)) (hz:z.cells.size=d.sz) (hs0:0<d.sz) (hb0:0<bytes)
    (v:Value) (xs:List α) (p:α) (cs:List Value) (ok okp:Nat->Prop) (hs:a.eval s=v) (hx:a.eval x=.slice (some ⟨W.heap.size,0,none⟩) 1 1) (hp:d.M W base okp p cs) (oM:∀k,okp k->ok k/\some k≠v.ownBlock) (hfresh:∀k,W.heap.size<=k->ok k)
    (HO:d.Q e W base ok v xs) (HB:Below base w0 W) (hbase:base<=W.heap.size) (hl:(xs.length+1)*bytes<=140737488355328)
    (h:∀v1 w1,d.Q e w1 base ok v1 (xs++[p])->Below base w0 w1->W.grownBy w1 v.ownBlock->(v1.ownBlock=v.ownBlock\/∃b,v1.ownBlock=some b/\W.heap.size<=b)->wpList P ops Q' rest (a.put o.dst v1) w1):
    wpList P ops Q' (o::rest) a (W.alloc (.cells cs.toArray e)):=by
  obtain⟨v1,w1,hr,h1,h2,h3,h4⟩:=EE (P:=P) d base t o.type e z bytes ht hinfo hz hs0 hb0 v xs p cs ok okp hp oM hfresh HO HB hbase hl
  refine wpList_plain hgd fun K hK=>?_
  unfold Oper.wp execOp
  simp only [ho,resolve,invoke,builtin,Sem.run_bind,Sem.run_pure,Result.andThen_ok,List.map_toArray,List.map_cons,List.map_nil,hs,hx,hr]
  exact hK _ _ (h v1 w1 h1 h2 h3 h4)
end
end Kd
namespace Kd
section
variable {α:Type}{d:Kd α}{e e':Nat}{w w1 W:World}{base:Nat}{ok:Nat->Prop}{u v:Value}{xs:List α}
theorem nV (h:d.R e w base ok v xs):∀k,v.ownBlock=some k->∃cells,w.heap[k]? =some (.cells cells e (0,0)):=by
  obtain⟨inner,ho⟩:=u_ h
  exact fun k hk=>xD ho k hk
theorem nU (h:d.R e W base ok u xs) (hty:∀k,v.ownBlock=some k->∃cells,W.heap[k]? =some (.cells cells e' (0,0))) (ht:∀q,q∈e::d.E->q≠e') (hg:W.grownBy w1 v.ownBlock):d.R e w1 base ok u xs:=by
  refine kz (uC (qw h) (fun k hk=>hg.block k hk.2.2.1 (fun he=>?_))) (fun _ hk=>hk.1)
  obtain⟨_,_,_,q,hq,cells,hc⟩:=hk
  obtain⟨cells',hc'⟩:=hty k he.symm
  rw[hc]at hc'
  injection hc' with hc'
  injection hc' with _ hc'
  exact ht q hq hc'
theorem uZ (h:d.R e W base ok u xs) (hty:∀k,v.ownBlock=some k->∃cells,W.heap[k]? =some (.cells cells e' (0,0))) (ht:∀q,q∈e::d.E->q≠e'):d.R e W base (fun k=>ok k/\some k≠v.ownBlock) u xs:=by
  refine kz (qw h) (fun k hk=>⟨hk.1,fun he=>?_⟩)
  obtain⟨_,_,_,q,hq,cells,hc⟩:=hk
  obtain⟨cells',hc'⟩:=hty k he.symm
  rw[hc]at hc'
  injection hc' with hc'
  injection hc' with _ hc'
  exact ht q hq hc'
theorem xX (hu:d.R e W base ok u xs) (hbase:∀k,v.ownBlock=some k->W.heap.size<=k) (hb:Below W.heap.size W w1):d.R e w1 base (fun k=>ok k/\some k≠v.ownBlock) u xs:=
  kz (uC (qw hu) (fun k hk=>hb.block k hk.2.2.1)) (fun k hk=>⟨hk.1,fun he=>by have:=hbase k he.symm;have:=hk.2.2.1;omega⟩)
theorem lF (h:d.R e w1 W.heap.size ok v xs) (hlt:∀k,u.ownBlock=some k->k<W.heap.size):d.R e w1 W.heap.size (fun k=>ok k/\some k≠u.ownBlock) v xs:=
  kz (qw h) (fun k hk=>⟨hk.1,fun he=>by have:=hlt k he.symm;have:=hk.2.1;omega⟩)
theorem EF (h:d.Q e w base ok v xs):∀k,v.ownBlock=some k->∃cells,w.heap[k]? =some (.cells cells e (0,0)):=by
  obtain⟨_,inner,ho,_⟩:=h
  exact fun k hk=>(vZ ho k hk).2
theorem ED (h:d.Q e W base ok u xs) (hty:∀k,v.ownBlock=some k->∃cells,W.heap[k]? =some (.cells cells e' (0,0))) (ht:∀q,q∈e::d.E->q≠e') (hg:W.grownBy w1 v.ownBlock):d.Q e w1 base ok u xs:=by
  refine sw (xS (wG h) (fun k hk=>hg.block k hk.2.2.1 (fun he=>?_))) (fun _ hk=>hk.1)
  obtain⟨_,_,_,q,hq,cells,hc⟩:=hk
  obtain⟨cells',hc'⟩:=hty k he.symm
  rw[hc]at hc'
  injection hc' with hc'
  injection hc' with _ hc'
  exact ht q hq hc'
theorem z_ (hu:d.Q e W base ok u xs) (hbase:∀k,v.ownBlock=some k->W.heap.size<=k) (hb:Below W.heap.size W w1):d.Q e w1 base (fun k=>ok k/\some k≠v.ownBlock) u xs:=
  sw (xS (wG hu) (fun k hk=>hb.block k hk.2.2.1)) (fun k hk=>⟨hk.1,fun he=>by have:=hbase k he.symm;have:=hk.2.2.1;omega⟩)
theorem fresh' (hlt:∀k,u.ownBlock=some k->k<W.heap.size):∀k,W.heap.size<=k->some k≠u.ownBlock:=fun k hk he=>by have:=hlt k he.symm;omega
end
end Kd
theorem wm {α:Type}(a seg:List α) (o:Nat) (h:o+seg.length<=a.length) (q:Nat):
    (a.take o++seg++a.drop (o+seg.length))[q]? =if q<o then a[q]? else if q<o+seg.length then seg[q - o]? else a[q]? :=by
  have hl:(a.take o).length=o:=by rw[List.length_take];omega
  rw[List.append_assoc]
  by_cases h1:q<o
  · rw[if_pos h1,List.getElem?_append_left (by omega),List.getElem?_take,if_pos h1]
  rw[if_neg h1,List.getElem?_append_right (by omega),hl]
  by_cases h2:q<o+seg.length
  · rw[if_pos h2,List.getElem?_append_left (by omega)]
  rw[if_neg h2,List.getElem?_append_right (by omega),List.getElem?_drop]
  congr 1
  omega
namespace Kd
section
variable {α:Type}{d:Kd α}{e base g n cap:Nat}{ok okp:Nat->Prop}{W:World}{xs:List α}
theorem uf (h:d.R e W base ok (.slice (some ⟨g,0,none⟩) n cap) xs) (z:α) (i:Int) (h0:0<=i) (h1:i<n):
    ∃c,c.length=d.sz/\d.M W base (fun k=>ok k/\k≠g) (xs.getD i.toNat z) c/\(∀j u,c[j]? =some u->W.cell? ⟨g,i.toNat*d.sz+j,none⟩=some u)/\∀j,W.frozen? ⟨g,i.toNat*d.sz+j,none⟩=false:=by
  obtain⟨hn,hnc,hC⟩:=kr h
  obtain⟨_,inner,ho,hr⟩:=h
  have hil:i.toNat<xs.length:=by omega
  have hseg:i.toNat*d.sz+d.sz<=inner.length:=by rw[hr.1,←Nat.succ_mul];exact Nat.mul_le_mul_right _ hil
  have hM:=hr.2 i.toNat _ (List.getElem?_eq_getElem hil)
  refine⟨(inner.drop (i.toNat*d.sz)).take d.sz,by rw[List.length_take,List.length_drop];omega,?_,fun j u hu=>?_,fun j=>?_⟩
  · rw[List.getD_eq_getElem?_getD,List.getElem?_eq_getElem hil]
    exact d.M_mono (fun k hk=>⟨hk.1,fun he=>hk.2 (by rw[he];simp[Value.ownBlock])⟩) hM
  · rw[List.getElem?_take]at hu
    split at hu
    · rw[List.getElem?_drop]at hu
      have:=ho.cells (g:=g) (by simp[Value.ownBlock]) _ u hu
      rwa [add_plain]at this
    cases hu
  obtain⟨cells,hc⟩:=xD ho g (by simp[Value.ownBlock])
  exact l8 hc _
theorem yf (h:d.R e W base ok (.slice (some ⟨g,0,none⟩) n cap) xs) (i:Int) (h0:0<=i) (h1:i<n) {c seg:List Value}{j:Nat}(hcl:c.length=d.sz) (hcc:∀j u,c[j]? =some u->W.cell? ⟨g,i.toNat*d.sz+j,none⟩=some u)
    (hj:j+seg.length<=d.sz) {x':α}(hM:d.M W base okp x' (c.take j++seg++c.drop (j+seg.length))) (oM:∀k,okp k->ok k/\k≠g):
    d.R e (W.setCells g (i.toNat*d.sz+j) seg) base ok (.slice (some ⟨g,0,none⟩) n cap) (xs.set i.toNat x')/\W.grownBy (W.setCells g (i.toNat*d.sz+j) seg) (some g):=by
  obtain⟨hn,hnc,_⟩:=kr h
  obtain⟨hok,inner,ho,hr⟩:=h
  have hil:i.toNat<xs.length:=by omega
  have hseg:i.toNat*d.sz+d.sz<=inner.length:=by rw[hr.1,←Nat.succ_mul];exact Nat.mul_le_mul_right _ hil
  have hin:inner.length=n*d.sz:=by rw[hr.1,hn]
  obtain⟨ho1,ho2⟩:=ho
  rcases ho2 with⟨hv,_⟩|⟨g',cap',cur,hv,hb,hh,hnc',hcm,hcs,ht⟩
  · cases hv
  injection hv with ha _ hc
  injection ha with ha
  injection ha with hg
  subst hg;subst hc
  have hfit:i.toNat*d.sz+j+seg.length<=cur.size:=by
    have:n*d.sz<=cap*d.sz:=Nat.mul_le_mul_right _ hnc
    omega
  obtain⟨cur',h3,h4,h5⟩:=zB seg (i.toNat*d.sz+j) W cur hh hfit
  obtain⟨s1,s2,s3,s4⟩:=zC g seg (i.toNat*d.sz+j) W
  have hfar:∀k,k≠g->(W.setCells g (i.toNat*d.sz+j) seg).heap[k]? =W.heap[k]? :=fun k hk=>zA seg _ k hk
  -- the element's cells before are what was read
  have hcin:∀q,q<d.sz->c[q]? =inner[i.toNat*d.sz+q]? :=by
    intro q hq
    have hq':q<c.length:=by omega
    have h6:=hcc q _ (List.getElem?_eq_getElem hq')
    rw[cell_of_row W g _ cur e (0,0) hh]at h6
    rw[List.getElem?_eq_getElem hq',←h6,←ht,List.getElem?_take,if_pos (by rw[←hn];omega),Array.getElem?_toList]
  refine⟨⟨hok,inner.take (i.toNat*d.sz+j)++seg++inner.drop (i.toNat*d.sz+j+seg.length),⟨?_,.inr ⟨g,cap,cur',by rw[List.length_set,hn],hb,h3,by rw[List.length_set,←hn];exact hnc,hcm,by rw[h4,hcs],?_⟩⟩,?_⟩,
    ⟨s1,s2,s3,by rw[s4];exact Nat.le_refl _,fun k _ hk=>hfar k (fun he=>hk (by rw[he]))⟩⟩
  · rw[List.length_set]
    simp only [List.length_append,List.length_take,List.length_drop]
    rw[hr.1]at hseg⊢
    omega
  · rw[List.length_set,←hn]
    apply List.ext_getElem?
    intro q
    rw[List.getElem?_take,h5]
    rw[wm cur.toList seg (i.toNat*d.sz+j) (by rw[Array.length_toList];omega) q,wm inner seg (i.toNat*d.sz+j) (by omega) q]
    have hcur:∀q,q<n*d.sz->cur.toList[q]? =inner[q]? :=by
      intro q hq
      rw[←ht,List.getElem?_take,if_pos (by rw[←hn];exact hq)]
    by_cases hq:q<n*d.sz
    · rw[if_pos hq,hcur q hq]
    rw[if_neg hq,if_neg (by omega),if_neg (by omega),List.getElem?_eq_none (by omega)]
  refine⟨?_,fun m p hm=>?_⟩
  · rw[List.length_set]
    simp only [List.length_append,List.length_take,List.length_drop]
    rw[hr.1]at hseg⊢
    omega
  have hml:m<xs.length:=by
    have:=(List.getElem?_eq_some_iff.1 hm).1
    rwa [List.length_set]at this
  have hmfit:m*d.sz+d.sz<=inner.length:=by rw[hr.1,←Nat.succ_mul];exact Nat.mul_le_mul_right _ hml
  have hgo:some g=(Value.slice (some ⟨g,0,none⟩) n cap).ownBlock:=by simp[Value.ownBlock]
  by_cases hmi:m=i.toNat
  · subst hmi
    rw[List.getElem?_set_self (by omega)]at hm
    injection hm with hm
    subst hm
    have hcells:((inner.take (i.toNat*d.sz+j)++seg++inner.drop (i.toNat*d.sz+j+seg.length)).drop (i.toNat*d.sz)).take d.sz=c.take j++seg++c.drop (j+seg.length):=by
      apply List.ext_getElem?
      intro q
      rw[List.getElem?_take,List.getElem?_drop,wm inner seg _ (by omega),wm c seg j (by omega) q]
      by_cases hq:q<d.sz
      · rw[if_pos hq,hcin q hq]
        by_cases hq1:q<j
        · rw[if_pos (by omega),if_pos hq1]
        rw[if_neg (by omega),if_neg hq1]
        by_cases hq2:q<j+seg.length
        · rw[if_pos (by omega),if_pos hq2]
          congr 1
          omega
        rw[if_neg (by omega),if_neg hq2]
      rw[if_neg hq,if_neg (by omega),if_neg (by omega),List.getElem?_eq_none (by omega)]
    rw[hcells]
    refine d.M_mono (fun k hk=>?_) (d.M_move (w1:=W.setCells g (i.toNat*d.sz+j) seg) (fun k hk=>hfar k (oM k hk).2) hM)
    exact⟨(oM k hk).1,fun he=>(oM k hk).2 (by rw[←hgo]at he;injection he)⟩
  rw[List.getElem?_set_ne (by omega)]at hm
  have hold:=hr.2 m p hm
  have hcells:((inner.take (i.toNat*d.sz+j)++seg++inner.drop (i.toNat*d.sz+j+seg.length)).drop (m*d.sz)).take d.sz=(inner.drop (m*d.sz)).take d.sz:=by
    apply List.ext_getElem?
    intro q
    rw[List.getElem?_take,List.getElem?_take,List.getElem?_drop,List.getElem?_drop,wm inner seg _ (by omega)]
    by_cases hq:q<d.sz
    · rw[if_pos hq,if_pos hq]
      rcases Nat.lt_or_gt_of_ne hmi with hlt|hgt
      · have:m*d.sz+d.sz<=i.toNat*d.sz:=by rw[←Nat.succ_mul];exact Nat.mul_le_mul_right _ hlt
        rw[if_pos (by omega)]
      have:i.toNat*d.sz+d.sz<=m*d.sz:=by rw[←Nat.succ_mul];exact Nat.mul_le_mul_right _ hgt
      rw[if_neg (by omega),if_neg (by omega)]
    rw[if_neg hq,if_neg hq]
  rw[hcells]
  refine d.M_move (fun k hk=>hfar k (fun he=>hk.2 (by rw[he];exact hgo))) hold
end
end Kd
namespace Kd
theorem DY {α:Type}{R:α->List Value->Prop}{size:Nat}{ps qs:List α}{cs ds:List Value}(h:kF R size ps cs) (h':kF R size qs ds):kF R size (ps++qs) (cs++ds):=by
  refine⟨by rw[List.length_append,List.length_append,h.1,h'.1,Nat.add_mul],fun j p hj=>?_⟩
  rcases Nat.lt_or_ge j ps.length with hlt|hge
  · rw[List.getElem?_append_left hlt]at hj
    have hle:j*size+size<=cs.length:=by rw[h.1,←Nat.succ_mul];exact Nat.mul_le_mul_right _ hlt
    rw[List.drop_append_of_le_length (by omega),List.take_append_of_le_length (by rw[List.length_drop];omega)]
    exact h.2 j p hj
  rw[List.getElem?_append_right hge]at hj
  have h2:=h'.2 (j - ps.length) p hj
  have hle:ps.length*size<=j*size:=Nat.mul_le_mul_right _ hge
  rw[List.drop_append,List.drop_eq_nil_of_le (by rw[h.1];exact hle),List.nil_append,h.1,←Nat.sub_mul]
  exact h2
section
variable {P:Program}{ops:Array Oper}{rest:List Oper}{o:Oper}{a:Act}{Q:Exit->Act->World->Prop}{α:Type}
theorem Ae (d:Kd α) {Rr:α->List Value->Prop}{w0 W:World}(base:Nat) (hgd:o.guard=none) (s x:Operand) (t e:TypeId) (z:Value) (bytes:Nat)
    (ho:o.op=.call {callee:=.builtin .append,args:= #[s,x],argTypes:= #[t,t]})
    (ht:P.underlying t=some (.slice e)) (hinfo:(P.info? e).map (fun i=>(i.zero,i.size,i.bytes))=some (some z,d.sz,bytes)) (hz:z.cells.size=d.sz) (hs0:0<d.sz) (hb0:0<bytes)
    (v:Value) (xs ys:List α) (A:Option Addr) (m c:Nat) (ok okp:Nat->Prop) (hs:a.eval s=v) (hx:a.eval x=.slice A m c)
    (HO:d.R e W base ok v xs) (HR:qa Rr d.sz W A m ys) (hKM:∀x cs,Rr x cs->d.M W base okp x cs) (oM:∀k,okp k->ok k/\some k≠v.ownBlock) (hfresh:∀k,W.heap.size<=k->ok k)
    (HB:Below base w0 W) (hbase:base<=W.heap.size) (hl:(xs.length+m)*bytes<=140737488355328)
    (h:∀v1 w1,d.R e w1 base ok v1 (xs++ys)->Below base w0 w1->W.grownBy w1 v.ownBlock->(v1.ownBlock=v.ownBlock\/∃b,v1.ownBlock=some b/\W.heap.size<=b)->wpList P ops Q rest (a.put o.dst v1) w1):
    wpList P ops Q (o::rest) a W:=by
  obtain⟨i0,hi,hzz⟩:=Option.map_eq_some_iff.1 hinfo
  simp only [Prod.mk.injEq]at hzz
  obtain⟨hz0,hz1,hz2⟩:=hzz
  have hm:ys.length=m:=HR.1
  have hlen:xs.length+m<=140737488355328:=Nat.le_trans (Nat.le_mul_of_pos_right _ hb0) hl
  obtain⟨hok,inner,hown,hr⟩:=HO
  have hrun:∃v1 w1,(Builtin.append_ #[t,t] o.type #[v,.slice A m c]).run P W=.ok v1 w1/\d.R e w1 base ok v1 (xs++ys)/\W.grownBy w1 v.ownBlock/\(v1.ownBlock=v.ownBlock\/∃b,v1.ownBlock=some b/\W.heap.size<=b):=by
    rcases A with _|ad
    · have h0:m=0:=by
        rcases Nat.eq_zero_or_pos m with h0|h0
        · exact h0
        obtain⟨ad,h,_⟩:=HR.2.2 h0
        cases h
      subst h0
      obtain rfl:ys=[]:=List.eq_nil_of_length_eq_zero hm
      refine⟨v,W,?_,by rw[List.append_nil];exact⟨hok,inner,hown,hr⟩,World.grownBy.refl W _,.inl rfl⟩
      rcases hown.2 with⟨rfl,hn⟩|⟨g,cap,cur,rfl,_,_,hnc,_⟩
      · simp[Builtin.append_,run_underlying ht,sizeOf,typeInfo,hi,Builtin.lenOf,Builtin.firstCells]
      simp[Builtin.append_,run_underlying ht,sizeOf,typeInfo,hi,Builtin.lenOf,Builtin.firstCells,hnc,storeCells]
    obtain⟨news,hnr,hnc⟩:=qa.Db HR
    have hnM:kF (d.M W base okp) d.sz ys news:=hnr.oC (fun p c hp=>hKM p c hp)
    have hone:∀u∈news,u.oneCell'=true:=by
      intro u hu
      obtain⟨q,hq,rfl⟩:=List.mem_iff_getElem.1 hu
      have hql:q/d.sz<ys.length:=by
        rw[Nat.div_lt_iff_lt_mul hs0]
        rw[←hnM.1]
        exact hq
      have hc:=hnM.2 (q/d.sz) _ (List.getElem?_eq_getElem hql)
      refine d.K_one (d.K_of_M hc) _ ?_
      rw[List.mem_iff_getElem?]
      refine⟨q%d.sz,?_⟩
      rw[List.getElem?_take,if_pos (Nat.mod_lt _ hs0),List.getElem?_drop,Nat.mul_comm,Nat.div_add_mod,List.getElem?_eq_getElem hq]
    obtain⟨v1,w1,hrun,h2,hg,_,hat⟩:=run_append_own_at (P:=P) W base t o.type e i0 z d.sz bytes ht hi hz0 hz1 hz2 hz hs0 v xs.length inner hown ad m c news (by rw[hnM.1,hm]) hnc hone (by simp only [maxLen];omega) hl hbase
    have hat':v1.ownBlock=v.ownBlock\/∃b,v1.ownBlock=some b/\W.heap.size<=b:=by
      rcases hat with hat|hat
      · exact .inl hat
      exact .inr ⟨_,hat,Nat.le_refl _⟩
    have hne:∀k,some k≠v.ownBlock->k<W.heap.size->some k≠v1.ownBlock:=by
      intro k hk hlt
      rcases hat' with hat|⟨b,hb,hle⟩
      · rw[hat];exact hk
      rw[hb]
      intro he
      injection he with he
      omega
    have step:∀ {q:α}{c:List Value}{o:Nat->Prop},d.M W base o q c->(∀k,o k->ok k/\some k≠v.ownBlock)->d.M w1 base (fun k=>ok k/\some k≠v1.ownBlock) q c:=by
      intro q c o hq ho
      have h1:=d.M_move (w1:=w1) (fun k hk=>hg.block k hk.2.2.1 (ho k hk.1).2) (d.M_bound hq)
      exact d.M_mono (fun k hk=>⟨(ho k hk.1).1,hne k (ho k hk.1).2 hk.2.2.1⟩) h1
    refine⟨v1,w1,hrun,⟨fun k hk=>?_,inner++news,by rw[List.length_append,hm];exact h2,DY (hr.oC (fun _ _ hq=>step hq (fun _ hk=>hk))) (hnM.oC (fun _ _ hq=>step hq oM))⟩,hg,hat'⟩
    rcases hat' with hat|⟨b,hb,hle⟩
    · exact hok k (hat▸hk)
    rw[hb]at hk
    injection hk with hk
    exact hfresh k (by omega)
  obtain⟨v1,w1,hr1,h1,hg,hat⟩:=hrun
  refine wpList_plain hgd fun K hK=>?_
  unfold Oper.wp execOp
  simp only [ho,resolve,invoke,builtin,Sem.run_bind,Sem.run_pure,Result.andThen_ok,List.map_toArray,List.map_cons,List.map_nil,hs,hx,hr1]
  exact hK _ _ (h v1 w1 h1 (HB.grown hg hbase (uy hown)) hg hat)
end
end Kd
namespace Kd
section
variable {α:Type}{k:Kd α}{w:World}{A:Option Addr}{xs:List α}{m c:Nat}
theorem J5 (h:k.C w A xs.length xs) (hm:m<=xs.length):k.C w A (xs.take m).length (xs.take m):=by
  have hl:(xs.take m).length=m:=by rw[List.length_take];omega
  refine⟨rfl,by rw[hl];have:=h.2.1;omega,fun hp=>?_⟩
  obtain⟨ad,e,hc⟩:=h.2.2 (by omega)
  refine⟨ad,e,fun j p hj=>hc j p ?_⟩
  rw[List.getElem?_take]at hj
  split at hj
  · exact hj
  cases hj
end
end Kd
theorem kC {w W:World}(h:Below w.heap.size w W):w.heap.size<=W.heap.size:=h.size
theorem uG {w W w2:World}(h:Below w.heap.size w W) (k:Below W.heap.size W w2):Below w.heap.size w w2:=Ff h h.size k
theorem pq.nil (W:World) (k:IntKind):pq W k none ([]:List Int).length []:=⟨rfl,by simp,fun h=>absurd h (Nat.lt_irrefl 0)⟩
theorem pq.drewN {W:World}{k:IntKind}{A:Option Addr}{n:Nat}{xs:List Int}(h:pq W k A n xs) (m:Nat):pq (W.drewN m) k A n xs:=h
theorem ou {w W:World}{g j:Nat}{v:Value}(h:Below w.heap.size w W) (hg:w.heap.size<=g):Below w.heap.size w (W.setCell ⟨g,j,none⟩ v):=h.setCell hg _
theorem zg {w W:World}{g:Nat}{row:Option Nat}(h:lQ w W g row) (m:Nat):lQ w (W.drewN m) g row:=h
theorem ze {w W:World}{g:Nat}(h:lQ w W g none) (o:Obj):lQ w (W.alloc o) g none:=h.trans (lQ.vY (World.grownBy_alloc W o none) g) (.inl rfl)
theorem Dc {w W:World}{g:Nat}(h:lQ w W g none) {a:Addr}{v:Value}(hc:w.cell? a=some v) (hne:a.block≠g):W.cell? a=some v:=by
  have:=h.2 a.block (World.block_lt_of_cell? w a hc) hne (by simp)
  simpa [World.cell?,this] using hc
theorem add_block (a:Addr) (i:Nat):(a.add i).block=a.block:=by unfold Addr.add;split<;>rfl
theorem Kj {w0 w w1:World}{B:Nat}(h:Below w0.heap.size w0 w) (hB:w0.heap.size<=B) (k:Below B w w1):Below w0.heap.size w0 w1:=
  h.trans ⟨k.os,k.tape,k.output,k.size,fun i hi=>k.block i (Nat.lt_of_lt_of_le hi hB)⟩
theorem own_base' {w:World}{base:Nat}{e:TypeId}{size n:Nat}{v:Value}{xs:List Value}(h:w.ownsRow base e size v n xs):v.ownBlock=none\/∃b,v.ownBlock=some b/\base<=b:=by
  cases hv:v.ownBlock with
  |none=>exact .inl rfl
  |some b=>exact .inr ⟨b,rfl,uy h b hv⟩
theorem Kn {w W:World}{g:Nat}{row:Option Nat}(h:lQ w W g row):w.heap.size<=W.heap.size:=h.1
theorem mX.nil {α:Type}(enc:α->Value) (d:α) (W:World):mX enc d W none ([]:List α).length []:=⟨rfl,by simp,fun h=>absurd h (Nat.lt_irrefl 0)⟩
theorem mX.drewN {α:Type}{enc:α->Value}{d:α}{W:World}{A:Option Addr}{n:Nat}{xs:List α}(h:mX enc d W A n xs) (m:Nat):mX enc d (W.drewN m) A n xs:=h
theorem pq.keep {w W:World}{k:IntKind}{A:Option Addr}{n g:Nat}{xs:List Int}(h:pq w k A n xs) (hk:lQ w W g none) (hf:∀ad,A=some ad->0<n->ad.block≠g):pq W k A n xs:=
  ⟨h.1,h.2.1,fun hn=>by
    obtain⟨ad,e,hc⟩:=h.2.2 hn
    exact⟨ad,e,fun j hj=>Dc hk (hc j hj) (by rw[add_block];exact hf ad e hn)⟩⟩
theorem mX.keep {α:Type}{enc:α->Value}{d:α}{w W:World}{A:Option Addr}{n g:Nat}{xs:List α}(h:mX enc d w A n xs) (hk:lQ w W g none) (hf:∀ad,A=some ad->0<n->ad.block≠g):mX enc d W A n xs:=
  ⟨h.1,h.2.1,fun hn=>by
    obtain⟨ad,e,hc⟩:=h.2.2 hn
    exact⟨ad,e,fun j hj=>Dc hk (hc j hj) (by rw[add_block];exact hf ad e hn)⟩⟩
theorem cell_far {W:World}{p a:Addr}(h:a.block≠p.block) (u:Value):(W.setCell p u).cell? a=W.cell? a:=by
  have:=Below.heap_setCell W p u a.block h
  simp[World.cell?,this]
theorem uj {w:World}{g:Nat}{t:TypeId}{cs cs':Array Value}(h:w.heap[g]? =some (.cells cs t (0,0))) (i:Nat) (u:Value) (e:cs.setIfInBounds i u=cs'):(w.setCell ⟨g,i,none⟩ u).heap[g]? =some (.cells cs' t (0,0)):=e▸yD h i u
theorem zh {w W:World}{g:Nat}{row:Option Nat}(h:lQ w W g row) {p:Addr}(hp:w.heap.size<=p.block) (u:Value):lQ w (W.setCell p u) g row:=
  ⟨by simpa [World.setCell] using h.1,fun i hi hg hr=>(Below.heap_setCell W p u i (by omega)).trans (h.2 i hi hg hr)⟩
theorem mg {base:Nat}{w W:World}(h:Below base w W):Below base w W.drew:=h.drew
theorem zf {w W:World}{g:Nat}{row:Option Nat}(h:lQ w W g row):lQ w W.drew g row:=h
namespace Kd
section
variable {α β:Type}{d:Kd α}{d':Kd β}{e e' base base' n:Nat}{ok ok':Nat->Prop}{w W w1 W1:World}{v u:Value}{xs:List α}{ys:List β}{A:Option Addr}{c:Nat}
theorem J8 (h:d.R e w base ok v xs):v.ownBlock=none\/∃k,v.ownBlock=some k/\base<=k:=by
  obtain⟨inner,ho⟩:=u_ h
  exact own_base' ho
end
end Kd
namespace Kd
section
variable {α:Type}{d:Kd α}{e base g:Nat}{ok:Nat->Prop}{w w1:World}{v:Value}{xs:List α}{o:Obj}
theorem wK (h:d.R e w base ok v xs) (a:Nat) (ha:w.heap.size<=a):d.R e w base (fun k=>ok k/\k≠a) v xs:=kz (qw h) (fun k hk=>⟨hk.1,by have:=hk.2.2.1;omega⟩)
theorem wM (h:d.R e w1 w.heap.size ok v xs) (hb:w.heap[g]? =some o):d.R e w1 w.heap.size (fun k=>ok k/\k≠g) v xs:=kz (qw h) (fun k hk=>⟨hk.1,by have:=lq hb;have:=hk.2.1;omega⟩)
theorem CZ (hb:w.heap[g]? =some o):∀k,w.heap.size<=k->k≠g:=fun k hk=>by have:=lq hb;omega
end
end Kd
section
variable {P:Program}{ops:Array Oper}{rest:List Oper}{o:Oper}{a:Act}{Q:Exit->Act->World->Prop}
theorem Fx {W:World}(hgd:o.guard=none) {N:Tmp}(_hd:o.dst=some N) {cs:Array Value}{t:TypeId}
    (hrun:(execOp a.eval o).run P W=.ok (.value (.pointer (some ⟨W.heap.size,0,none⟩))) (W.alloc (.cells cs t (0,0))))
    (h:∀g,g=W.heap.size->∀w1,w1.heap[g]? =some (.cells cs t (0,0))->Below W.heap.size W w1->wpList P ops Q rest (a.put o.dst (.pointer (some ⟨g,0,none⟩))) w1):wpList P ops Q (o::rest) a W:=
  Kd.za hgd hrun (h _ rfl _ (yC W _) (qx (Below.refl _ _) _))
end
namespace Kd
section
variable {α:Type}{enc:α->Value}{h1:∀x,(enc x).oneCell'=true}{e base g n cap:Nat}{ok:Nat->Prop}{W:World}{xs:List α}
theorem qR (d:α) (h:(scalar enc h1).R e W base ok (.slice (some ⟨g,0,none⟩) n cap) xs) (i:Int) (h0:0<=i) (hi:i<n):W.cell? ⟨g,i.toNat,none⟩=some (enc (lW d xs i))/\W.frozen? ⟨g,i.toNat,none⟩=false:=by
  obtain⟨rfl,_⟩:=kr h
  exact EG d h i h0 hi
theorem x_ (h:(scalar enc h1).R e W base ok (.slice (some ⟨g,0,none⟩) n cap) xs) (i:Int) (x:α):(scalar enc h1).R e (W.setCell ⟨g,i.toNat,none⟩ (enc x)) base ok (.slice (some ⟨g,0,none⟩) n cap) (xs.set i.toNat x):=by
  obtain⟨rfl,_⟩:=kr h
  exact(Aj h i x).1
end
end Kd
section
variable {P:Program}{ops:Array Oper}{rest:List Oper}{o:Oper}{a:Act}{Q:Exit->Act->World->Prop}
theorem sj {W w1:World}(hgd:o.guard=none) {t:TypeId}{p:Tmp}{v:Operand}(_ho:o.op=.store t (.tmp p) v) (hN:o.dst=none)
    (hrun:(execOp a.eval o).run P W=.ok .skip w1) (h:∀w',w'=w1->wpList P ops Q rest a w'):wpList P ops Q (o::rest) a W:=by
  refine wpList_plain hgd fun K hK=>?_
  unfold Oper.wp
  rw[hrun]
  show K (a.put o.dst undef) w1
  rw[hN]
  exact hK _ _ (h _ rfl)
end
namespace Kd
section
variable {α:Type}{enc:α->Value}{h1:∀x,(enc x).oneCell'=true}{e base g n cap:Nat}{ok:Nat->Prop}{W:World}{xs:List α}
theorem uD (h:(scalar enc h1).R e W base ok (.slice (some ⟨g,0,none⟩) n cap) xs) (i:Int) (x:α):(scalar enc h1).R e (W.setCell ⟨g,i.toNat,none⟩ (enc x)) base ok (.slice (some ⟨g,0,none⟩) n cap) (xs.set i.toNat x)/\W.grownBy (W.setCell ⟨g,i.toNat,none⟩ (enc x)) (some g):=by
  obtain⟨rfl,_⟩:=kr h
  exact Aj h i x
end
end Kd
section
variable {P:Program}{ops:Array Oper}{rest:List Oper}{o:Oper}{a:Act}{Q:Exit->Act->World->Prop}{W:World}
theorem Km {N:Tmp}(_hN:o.dst=some N) (h:wpList P ops Q (o::rest) a W):wpList P ops Q (o::rest) a W:=h
theorem rT {t:TypeId}{p:Tmp}{v:Operand}(_ho:o.op=.store t (.tmp p) v) (h:wpList P ops Q (o::rest) a W):wpList P ops Q (o::rest) a W:=h
end
section
variable {P:Program}{ops:Array Oper}{o:Oper}{a:Act}{Q:Exit->Act->World->Prop}{Kc:Act->World->Prop}
theorem CR {W w1:World}{v:Value}(hw:Region.wanted o (yielded ops a.tmps)=true) (hrun:(execOp a.eval o).run P W=.ok (.value v) w1) (h:Kc (a.put o.dst v) w1):if Region.wanted o (yielded ops a.tmps)=true then Oper.wp P o a W Kc Q else Kc (a.put o.dst undef) W:=by
  rw[if_pos hw]
  unfold Oper.wp
  rw[hrun]
  exact h
theorem wW {W:World}(hw:Region.wanted o (yielded ops a.tmps)=true) {N:Tmp}(_hd:o.dst=some N) {cs:Array Value}{t:TypeId}
    (hrun:(execOp a.eval o).run P W=.ok (.value (.pointer (some ⟨W.heap.size,0,none⟩))) (W.alloc (.cells cs t (0,0))))
    (h:∀g,g=W.heap.size->∀w1,w1.heap[g]? =some (.cells cs t (0,0))->Below W.heap.size W w1->Kc (a.put o.dst (.pointer (some ⟨g,0,none⟩))) w1):if Region.wanted o (yielded ops a.tmps)=true then Oper.wp P o a W Kc Q else Kc (a.put o.dst undef) W:=
  CR hw hrun (h _ rfl _ (yC W _) (qx (Below.refl _ _) _))
namespace Kd
variable {α:Type}
theorem qC (d:Kd α) {w0 W:World}(base e:Nat) (hw:Region.wanted o (yielded ops a.tmps)=true) {N:Tmp}(_hd:o.dst=some N) {xs:List α}{inner:List Value}{ok okp:Nat->Prop}
    (hrun:(execOp a.eval o).run P W=.ok (.value (.slice (some ⟨W.heap.size,0,none⟩) xs.length xs.length)) (W.alloc (.cells inner.toArray e)))
    (hrep:kF (d.M W base okp) d.sz xs inner) (hok:∀k,okp k->ok k) (hfresh:ok W.heap.size) (HB:Below base w0 W) (hbase:base<=W.heap.size) (hm:xs.length<=9223372036854775807)
    (h:∀v1 w1,d.R e w1 base ok v1 xs->Below base w0 w1->W.grownBy w1 none->(∃b,v1.ownBlock=some b/\W.heap.size<=b)->Kc (a.put o.dst v1) w1):if Region.wanted o (yielded ops a.tmps)=true then Oper.wp P o a W Kc Q else Kc (a.put o.dst undef) W:=by
  refine CR hw hrun (h _ _ ⟨fun k hk=>?_,inner,?_,?_⟩ (HB.alloc hbase _) (World.grownBy_alloc W _ none) ⟨W.heap.size,by simp[Value.ownBlock],Nat.le_refl _⟩)
  · have:W.heap.size=k:=by simpa [Value.ownBlock] using hk
    subst this
    exact hfresh
  · have h2:=World.ownsRow_lit (base:=base) (e:=e) (size:=d.sz) W inner.toArray xs.length hbase (by simpa [maxLen] using hm) (by simpa using hrep.1)
    simpa using h2
  refine hrep.oC (fun p c hp=>d.M_mono (fun k hk=>⟨hok k hk.1,fun he=>?_⟩) (zW (d.M_bound hp) (qx (Below.refl _ _) _)))
  have h3:k=W.heap.size:=by simpa [Value.ownBlock] using he
  have:=hk.2.2.1
  omega
theorem xW (d:Kd α) {Rr:α->List Value->Prop}{w0 W:World}(base:Nat) (hw:Region.wanted o (yielded ops a.tmps)=true) (s x:Operand) (t e:TypeId) (z:Value) (bytes:Nat)
    (ho:o.op=.call {callee:=.builtin .append,args:= #[s,x],argTypes:= #[t,t]})
    (ht:P.underlying t=some (.slice e)) (hinfo:(P.info? e).map (fun i=>(i.zero,i.size,i.bytes))=some (some z,d.sz,bytes)) (hz:z.cells.size=d.sz) (hs0:0<d.sz) (hb0:0<bytes)
    (v:Value) (xs ys:List α) (A:Option Addr) (m c:Nat) (ok okp:Nat->Prop) (hs:a.eval s=v) (hx:a.eval x=.slice A m c)
    (HO:d.R e W base ok v xs) (HR:qa Rr d.sz W A m ys) (hKM:∀x cs,Rr x cs->d.M W base okp x cs) (oM:∀k,okp k->ok k/\some k≠v.ownBlock) (hfresh:∀k,W.heap.size<=k->ok k)
    (HB:Below base w0 W) (hbase:base<=W.heap.size) (hl:(xs.length+m)*bytes<=140737488355328)
    (h:∀v1 w1,d.R e w1 base ok v1 (xs++ys)->Below base w0 w1->W.grownBy w1 v.ownBlock->(v1.ownBlock=v.ownBlock\/∃b,v1.ownBlock=some b/\W.heap.size<=b)->Kc (a.put o.dst v1) w1):
    if Region.wanted o (yielded ops a.tmps)=true then Oper.wp P o a W Kc Q else Kc (a.put o.dst undef) W:=by
  obtain⟨i0,hi,hzz⟩:=Option.map_eq_some_iff.1 hinfo
  simp only [Prod.mk.injEq]at hzz
  obtain⟨hz0,hz1,hz2⟩:=hzz
  have hm:ys.length=m:=HR.1
  have hlen:xs.length+m<=140737488355328:=Nat.le_trans (Nat.le_mul_of_pos_right _ hb0) hl
  obtain⟨hok,inner,hown,hr⟩:=HO
  have hrun:∃v1 w1,(Builtin.append_ #[t,t] o.type #[v,.slice A m c]).run P W=.ok v1 w1/\d.R e w1 base ok v1 (xs++ys)/\W.grownBy w1 v.ownBlock/\(v1.ownBlock=v.ownBlock\/∃b,v1.ownBlock=some b/\W.heap.size<=b):=by
    rcases A with _|ad
    · have h0:m=0:=by
        rcases Nat.eq_zero_or_pos m with h0|h0
        · exact h0
        obtain⟨ad,h,_⟩:=HR.2.2 h0
        cases h
      subst h0
      obtain rfl:ys=[]:=List.eq_nil_of_length_eq_zero hm
      refine⟨v,W,?_,by rw[List.append_nil];exact⟨hok,inner,hown,hr⟩,World.grownBy.refl W _,.inl rfl⟩
      rcases hown.2 with⟨rfl,hn⟩|⟨g,cap,cur,rfl,_,_,hnc,_⟩
      · simp[Builtin.append_,run_underlying ht,sizeOf,typeInfo,hi,Builtin.lenOf,Builtin.firstCells]
      simp[Builtin.append_,run_underlying ht,sizeOf,typeInfo,hi,Builtin.lenOf,Builtin.firstCells,hnc,storeCells]
    obtain⟨news,hnr,hnc⟩:=qa.Db HR
    have hnM:kF (d.M W base okp) d.sz ys news:=hnr.oC (fun p c hp=>hKM p c hp)
    have hone:∀u∈news,u.oneCell'=true:=by
      intro u hu
      obtain⟨q,hq,rfl⟩:=List.mem_iff_getElem.1 hu
      have hql:q/d.sz<ys.length:=by
        rw[Nat.div_lt_iff_lt_mul hs0]
        rw[←hnM.1]
        exact hq
      have hc:=hnM.2 (q/d.sz) _ (List.getElem?_eq_getElem hql)
      refine d.K_one (d.K_of_M hc) _ ?_
      rw[List.mem_iff_getElem?]
      refine⟨q%d.sz,?_⟩
      rw[List.getElem?_take,if_pos (Nat.mod_lt _ hs0),List.getElem?_drop,Nat.mul_comm,Nat.div_add_mod,List.getElem?_eq_getElem hq]
    obtain⟨v1,w1,hrun,h2,hg,_,hat⟩:=run_append_own_at (P:=P) W base t o.type e i0 z d.sz bytes ht hi hz0 hz1 hz2 hz hs0 v xs.length inner hown ad m c news (by rw[hnM.1,hm]) hnc hone (by simp only [maxLen];omega) hl hbase
    have hat':v1.ownBlock=v.ownBlock\/∃b,v1.ownBlock=some b/\W.heap.size<=b:=by
      rcases hat with hat|hat
      · exact .inl hat
      exact .inr ⟨_,hat,Nat.le_refl _⟩
    have hne:∀k,some k≠v.ownBlock->k<W.heap.size->some k≠v1.ownBlock:=by
      intro k hk hlt
      rcases hat' with hat|⟨b,hb,hle⟩
      · rw[hat];exact hk
      rw[hb]
      intro he
      injection he with he
      omega
    have step:∀ {q:α}{c:List Value}{o:Nat->Prop},d.M W base o q c->(∀k,o k->ok k/\some k≠v.ownBlock)->d.M w1 base (fun k=>ok k/\some k≠v1.ownBlock) q c:=by
      intro q c o hq ho
      have h1:=d.M_move (w1:=w1) (fun k hk=>hg.block k hk.2.2.1 (ho k hk.1).2) (d.M_bound hq)
      exact d.M_mono (fun k hk=>⟨(ho k hk.1).1,hne k (ho k hk.1).2 hk.2.2.1⟩) h1
    refine⟨v1,w1,hrun,⟨fun k hk=>?_,inner++news,by rw[List.length_append,hm];exact h2,DY (hr.oC (fun _ _ hq=>step hq (fun _ hk=>hk))) (hnM.oC (fun _ _ hq=>step hq oM))⟩,hg,hat'⟩
    rcases hat' with hat|⟨b,hb,hle⟩
    · exact hok k (hat▸hk)
    rw[hb]at hk
    injection hk with hk
    exact hfresh k (by omega)
  obtain⟨v1,w1,hr1,h1,hg,hat⟩:=hrun
  rw[if_pos hw]
  unfold Oper.wp execOp
  simp only [ho,resolve,invoke,builtin,Sem.run_bind,Sem.run_pure,Result.andThen_ok,List.map_toArray,List.map_cons,List.map_nil,hs,hx,hr1]
  exact h v1 w1 h1 (HB.grown hg hbase (uy hown)) hg hat
end Kd
end
end Go.Proofs.YtgeonpciodepgaaW.PrintWords
namespace Go.Proofs.YtgeonpciodepgaaW.PrintLast
section
variable {P:Program}{ops:Array Oper}{Q:Exit->Act->World->Prop}{md:Region.Mode}{S:World->Prop}{ds:List Nat}
def Region.rq (md:Region.Mode) (ops:Array Oper) (i:Nat):Nat->Nat->Bool
  |0,_=>false
  |fuel+1,d=>match ops[d]? with
    |some o=>o.after.any fun e=>Region.binds md e&&(e.on==i||Region.rq md ops i fuel e.on)
    |none=>false
def Region.vM (md:Region.Mode) (ops:Array Oper) (listed:Array Bool):Bool:=
  (List.range ops.size).all fun j=> !listed.getD j false||match ops[j]? with
    |some o=>o.after.all fun e=> !Region.binds md e||listed.getD e.on false
    |none=>true
def Region.lastB (md:Region.Mode) (ops:Array Oper) (listed:Array Bool) (ds:List Nat) (i:Nat):Bool:=
  ds.all fun d=>listed.getD d true||Region.rq md ops i ops.size d
def t_ (md:Region.Mode) (ops:Array Oper) (listed:Array Bool):Prop:=
  ∀j oj,ops[j]? =some oj->listed.getD j false=true->∀e∈oj.after,Region.binds md e=true->listed.getD e.on false=true
theorem Region.FQ {listed:Array Bool}(h:Region.vM md ops listed=true):t_ md ops listed:=by
  intro j oj hj hl e he hb
  have hlt:j<ops.size:=(Array.getElem?_eq_some_iff.1 hj).1
  have h1:=List.all_eq_true.1 h j (List.mem_range.2 hlt)
  simp only [hl,hj,Bool.not_true,Bool.false_or]at h1
  have h2:=Array.all_eq_true_iff_forall_mem.1 h1 e he
  simpa [hb] using h2
theorem t_.set {listed:Array Bool}{i:Nat}(h:t_ md ops listed) (hi:i∈Region.ready md ops listed):t_ md ops (listed.setIfInBounds i true):=by
  obtain⟨_,oi,hoi,hall⟩:=mem_ready.1 hi
  intro j oj hj hl e he hb
  by_cases hij:i=j
  · subst hij
    have:oj=oi:=Option.some.inj (hj.symm.trans hoi)
    subst this
    exact getD_set_true (hall e he hb)
  rw[getD_set_ne false hij]at hl
  exact getD_set_true (h j oj hj hl e he hb)
theorem Region.DV {listed:Array Bool}{i:Nat}(hc:t_ md ops listed):∀ (fuel d:Nat),Region.rq md ops i fuel d=true->listed.getD d false=true->listed.getD i false=true
  |0,_,h,_=>by simp[Region.rq]at h
  |fuel+1,d,h,hl=>by
    unfold Region.rq at h
    cases ho:ops[d]? with
    |none=>rw[ho]at h;simp at h
    |some o=>
      rw[ho]at h
      obtain⟨e,he,h1⟩:=Array.any_eq_true'.1 h
      simp only [Bool.and_eq_true,Bool.or_eq_true,beq_iff_eq]at h1
      have hle:=hc d o ho hl e he h1.1
      rcases h1.2 with h2|h2
      · rw[←h2];exact hle
      exact Region.DV hc fuel e.on h2 hle
theorem Region.I7 {listed:Array Bool}{i d fuel:Nat}(hc:t_ md ops listed) (hr:Region.rq md ops i fuel d=true) (hun:listed.getD i true=false):d∉Region.ready md ops listed:=by
  intro hd
  obtain⟨_,o,ho,hall⟩:=mem_ready.1 hd
  have hi:listed.getD i false=true:=by
    cases fuel with
    |zero=>simp[Region.rq]at hr
    |succ n=>
      unfold Region.rq at hr
      rw[ho]at hr
      obtain⟨e,he,h1⟩:=Array.any_eq_true'.1 hr
      simp only [Bool.and_eq_true,Bool.or_eq_true,beq_iff_eq]at h1
      have hle:=hall e he h1.1
      rcases h1.2 with h2|h2
      · rw[←h2];exact hle
      exact Region.DV hc n e.on h2 hle
  rcases Nat.lt_or_ge i listed.size with h'|h'
  · simp[h']at hun hi
    rw[hun]at hi
    cases hi
  simp[Array.getElem?_eq_none h']at hun
def kY (P:Program) (md:Region.Mode) (ops:Array Oper) (Q:Exit->Act->World->Prop) (S:World->Prop) (ds:List Nat):Nat->Array Bool->Act->World->Prop
  |0,listed,a,w=>Region.ready md ops listed=[]/\Q .normal a w
  |fuel+1,listed,a,w=>
    (Region.ready md ops listed=[]->Q .normal a w)/\
    ∀i∈Region.ready md ops listed,wpOp P ops Q i (fun a' w'=>(i∉ds->S w->S w')/\kY P md ops Q S ds fuel (listed.setIfInBounds i true) a' w') a w
theorem En:∀ (fuel:Nat) (listed:Array Bool) (a:Act) (w:World),kY P md ops Q S ds fuel listed a w->wpAny P md ops Q fuel listed a w
  |0,_,_,_,h=>h
  |fuel+1,_,_,_,h=>⟨h.1,fun i hi=>wpOp_mono (fun a' w' h'=>En fuel _ a' w' h'.2) (h.2 i hi)⟩
theorem JU {i:Nat}{oi:Oper}{v:Value}(hi:ops[i]? =some oi) (hsel:∀ (j:Nat) (o:Oper) cs b,ops[j]? =some o->o.op≠.select cs b)
    (hQ:∀c a w,Q (.panic c) (a.put oi.dst v) w->Q (.panic c) a w) (n:Nat):
    ∀ (fuel:Nat) (listed:Array Bool) (a:Act) (w:World),
      (∀j oj,ops[j]? =some oj->j≠i->listed.getD j true=false->(∀e∈oj.after,Region.binds md e=true->e.on≠i)->oi.apart ops oj=true)->
      t_ md ops listed->(∀d∈ds,listed.getD d true=false->Region.rq md ops i n d=true)->
      i∈Region.ready md ops listed->YieldsIf P ops S oi v a->S w->
      kY P md ops Q S ds fuel (listed.setIfInBounds i true) (a.put oi.dst v) w->kY P md ops Q S ds (fuel+1) listed a w:=by
  intro fuel
  induction fuel with
  |zero=>
    intro listed a w _ _ _ hr hy hS H
    refine⟨fun h=>(by rw[h]at hr;cases hr),fun j hj=>?_⟩
    by_cases hji:j=i
    · subst hji;exact hy.wpOp hi hS ⟨fun _ h=>h,H⟩
    have:=ready_mono hj hji
    rw[H.1]at this
    cases this
  |succ fuel ih=>
    intro listed a w hfree hc hd hr hy hS H
    refine⟨fun h=>(by rw[h]at hr;cases hr),fun j hj=>?_⟩
    by_cases hji:j=i
    · subst hji;exact hy.wpOp hi hS ⟨fun _ h=>h,H⟩
    have h1:=H.2 j (ready_mono hj hji)
    obtain⟨hjun,oj,hoj,hall⟩:=mem_ready.1 hj
    have hiun:=(mem_ready.1 hr).1
    have hnot:∀e∈oj.after,Region.binds md e=true->e.on≠i:=fun e he hb heq=>by
      have h1:=hall e he hb
      rw[heq]at h1
      rcases Nat.lt_or_ge i listed.size with h'|h'
      · simp[h']at hiun h1;rw[hiun]at h1;cases h1
      simp[Array.getElem?_eq_none h']at h1
    have hjd:j∉ds:=fun hm=>Region.I7 hc (hd j hm hjun) hiun hj
    have h2:=wpOp_putIf hoj (hfree j oj hoj hji hjun hnot) (fun cs b=>hsel i oi cs b hi) (fun cs b=>hsel j oj cs b hoj) hQ hy h1
    have hfree':∀k ok,ops[k]? =some ok->k≠i->(listed.setIfInBounds j true).getD k true=false->
        (∀e∈ok.after,Region.binds md e=true->e.on≠i)->oi.apart ops ok=true:=fun k ok hk hki hun hno=>by
      refine hfree k ok hk hki ?_ hno
      by_cases hjk:j=k
      · subst hjk;exact hjun
      rw[getD_set_ne true hjk]at hun;exact hun
    have hd':∀d∈ds,(listed.setIfInBounds j true).getD d true=false->Region.rq md ops i n d=true:=fun d hm hun=>by
      refine hd d hm ?_
      by_cases hjk:j=d
      · subst hjk;exact hjun
      rw[getD_set_ne true hjk]at hun;exact hun
    refine wpOp_mono (fun a' w' h3=>⟨h3.2.1,ih (listed.setIfInBounds j true) a' w' hfree' (hc.set hj) hd' (ready_mono hr (Ne.symm hji)) h3.1 (h3.2.1 hjd hS) ?_⟩) h2
    rw[Array.setIfInBounds_comm _ _ hji]
    exact h3.2.2
theorem JR {i:Nat}{oi:Oper}{v:Value}(hi:ops[i]? =some oi) (hsel:∀ (j:Nat) (o:Oper) cs b,ops[j]? =some o->o.op≠.select cs b)
    (hQ:∀c a w,Q (.panic c) (a.put oi.dst v) w->Q (.panic c) a w):
    ∀ (fuel:Nat) (listed:Array Bool) (a:Act) (w:World),
      (∀j oj,ops[j]? =some oj->j≠i->listed.getD j true=false->(∀e∈oj.after,Region.binds md e=true->e.on≠i)->oi.apart ops oj=true)->
      i∈Region.ready md ops listed->Yields P ops oi v a->
      kY P md ops Q S ds fuel (listed.setIfInBounds i true) (a.put oi.dst v) w->kY P md ops Q S ds (fuel+1) listed a w:=by
  intro fuel
  induction fuel with
  |zero=>
    intro listed a w _ hr hy H
    refine⟨fun h=>(by rw[h]at hr;cases hr),fun j hj=>?_⟩
    by_cases hji:j=i
    · subst hji;exact(hy.yieldsIf (S:=fun _=>True)).wpOp hi trivial ⟨fun _ h=>h,H⟩
    have:=ready_mono hj hji
    rw[H.1]at this
    cases this
  |succ fuel ih=>
    intro listed a w hfree hr hy H
    refine⟨fun h=>(by rw[h]at hr;cases hr),fun j hj=>?_⟩
    by_cases hji:j=i
    · subst hji;exact(hy.yieldsIf (S:=fun _=>True)).wpOp hi trivial ⟨fun _ h=>h,H⟩
    have h1:=H.2 j (ready_mono hj hji)
    obtain⟨hjun,oj,hoj,hall⟩:=mem_ready.1 hj
    have hiun:=(mem_ready.1 hr).1
    have hnot:∀e∈oj.after,Region.binds md e=true->e.on≠i:=fun e he hb heq=>by
      have h1:=hall e he hb
      rw[heq]at h1
      rcases Nat.lt_or_ge i listed.size with h'|h'
      · simp[h']at hiun h1;rw[hiun]at h1;cases h1
      simp[Array.getElem?_eq_none h']at h1
    have h2:=wpOp_put hoj (hfree j oj hoj hji hjun hnot) (fun cs b=>hsel i oi cs b hi) (fun cs b=>hsel j oj cs b hoj) hQ hy h1
    have hfree':∀k ok,ops[k]? =some ok->k≠i->(listed.setIfInBounds j true).getD k true=false->
        (∀e∈ok.after,Region.binds md e=true->e.on≠i)->oi.apart ops ok=true:=fun k ok hk hki hun hno=>by
      refine hfree k ok hk hki ?_ hno
      by_cases hjk:j=k
      · subst hjk;exact hjun
      rw[getD_set_ne true hjk]at hun;exact hun
    refine wpOp_mono (fun a' w' h3=>⟨h3.2.1,ih (listed.setIfInBounds j true) a' w' hfree' (ready_mono hr (Ne.symm hji)) h3.1 ?_⟩) h2
    rw[Array.setIfInBounds_comm _ _ hji]
    exact h3.2.2
theorem JV {i:Nat}{oi:Oper}{v:Value}{fuel:Nat}{listed:Array Bool}{a:Act}{w:World}(hi:ops[i]? =some oi)
    (hs:Region.noSelect ops=true) (hf:Region.free md ops listed i=true) (hr:(Region.ready md ops listed).contains i=true)
    (hc:Region.vM md ops listed=true) (hl:Region.lastB md ops listed ds i=true)
    (hQ:∀c a w,Q (.panic c) (a.put oi.dst v) w->Q (.panic c) a w) (hy:YieldsIf P ops S oi v a) (hS:S w)
    (h:kY P md ops Q S ds fuel (listed.setIfInBounds i true) (a.put oi.dst v) w):kY P md ops Q S ds (fuel+1) listed a w:=
  JU hi (Region.noSelect_spec hs) hQ ops.size fuel listed a w (Region.free_spec hi hf) (Region.FQ hc)
    (fun d hm hun=>by have:=List.all_eq_true.1 hl d hm;rw[hun]at this;simpa using this) (by simpa using hr) hy hS h
theorem JQ {rs:List Nat}{fuel:Nat}{listed:Array Bool}{a:Act}{w:World}(hr:Region.ready md ops listed=rs) (hne:rs≠[])
    (h:∀i∈rs,wpOp P ops Q i (fun a' w'=>(i∉ds->S w->S w')/\kY P md ops Q S ds fuel (listed.setIfInBounds i true) a' w') a w):kY P md ops Q S ds (fuel+1) listed a w:=
  ⟨fun h0=>absurd (hr▸h0) hne,hr▸h⟩
theorem JS {listed:Array Bool}{a:Act}{w:World}(hr:Region.ready md ops listed=[]) (h:Q .normal a w):
    ∀fuel,kY P md ops Q S ds fuel listed a w
  |0=>⟨hr,h⟩
  |_+1=>⟨fun _=>h,by rw[hr];simp⟩
theorem JW {id:Nat}{a:Act}{w:World}(hm:P.follows .mixedOrders=true)
    (h:kY P .any ops Q S ds ops.size (Array.replicate ops.size false) a {w with drawn:=w.drawn+1}):(Code.region id ops true).wp P Q a w:=
  wp_region_any hm (En _ _ _ _ h)
end
section
variable {P:Program}{ops:Array Oper}{Q:Exit->Act->World->Prop}{md:Region.Mode}{S:World->Prop}{ds:List Nat}
def p_ (P:Program) (md:Region.Mode) (ops:Array Oper) (Q:Exit->Act->World->Prop) (S:World->Prop) (ds:List Nat) (fuel:Nat) (listed:Array Bool) (a:Act) (w:World) (rs:List Nat):Prop:=
  ∀i∈rs,wpOp P ops Q i (fun a' w'=>(i∉ds->S w->S w')/\kY P md ops Q S ds fuel (listed.setIfInBounds i true) a' w') a w
theorem p_.nil {fuel:Nat}{listed:Array Bool}{a:Act}{w:World}:p_ P md ops Q S ds fuel listed a w []:=fun _ h=>by cases h
theorem p_.cons {fuel:Nat}{listed:Array Bool}{a:Act}{w:World}{i:Nat}{o:Oper}{rs:List Nat}(ho:ops[i]? =some o) (hd:i∉ds)
    (h:∀K':Act->World->Prop,Shut (∀a w,S w->(S w->kY P md ops Q S ds fuel (listed.setIfInBounds i true) a w)->K' a w)->if Region.wanted o (yielded ops a.tmps)=true then Oper.wp P o a w K' Q else K' (a.put o.dst undef) w)
    (hs:p_ P md ops Q S ds fuel listed a w rs):p_ P md ops Q S ds fuel listed a w (i::rs):=fun j hj=>by
  rcases List.mem_cons.1 hj with rfl|hj
  · exact wpOp_step ho (fun K' hK=>h K' (fun a w hS hW=>hK a w ⟨fun _ _=>hS,hW hS⟩))
  exact hs j hj
theorem p_.FV {fuel:Nat}{listed:Array Bool}{a:Act}{w:World}{i:Nat}{o:Oper}{rs:List Nat}(ho:ops[i]? =some o) (hd:i∈ds)
    (h:∀K':Act->World->Prop,Shut (∀a w,kY P md ops Q S ds fuel (listed.setIfInBounds i true) a w->K' a w)->if Region.wanted o (yielded ops a.tmps)=true then Oper.wp P o a w K' Q else K' (a.put o.dst undef) w)
    (hs:p_ P md ops Q S ds fuel listed a w rs):p_ P md ops Q S ds fuel listed a w (i::rs):=fun j hj=>by
  rcases List.mem_cons.1 hj with rfl|hj
  · exact wpOp_step ho (fun K' hK=>h K' (fun a w hW=>hK a w ⟨fun hn=>absurd hd hn,hW⟩))
  exact hs j hj
theorem zR {rs:List Nat}{fuel:Nat}{listed:Array Bool}{a:Act}{w:World}(hr:Region.ready md ops listed=rs) (hne:rs≠[])
    (h:p_ P md ops Q S ds fuel listed a w rs):kY P md ops Q S ds (fuel+1) listed a w:=JQ hr hne h
theorem tY {id n:Nat}{a:Act}{w:World}(l:Array Bool) (hm:P.follows .mixedOrders=true) (hn:ops.size=n) (hl:Array.replicate n false=l) (hS:S w.drew)
    (h:S w.drew->kY P .any ops Q S ds n l a w.drew):(Code.region id ops true).wp P Q a w:=by
  subst hn
  subst hl
  exact JW hm (h hS)
def takeB (md:Region.Mode) (ops:Array Oper) (ds:List Nat) (l l':Array Bool) (i:Nat):Bool:=
  Region.noSelect ops&&Region.free md ops l i&&(Region.ready md ops l).contains i&&Region.vM md ops l&&Region.lastB md ops l ds i&&(l.setIfInBounds i true==l')
theorem o9 {i:Nat}{N:Option Tmp}{oi:Oper}{v:Value}{fuel:Nat}{l:Array Bool}{a:Act}{w:World}(l':Array Bool) (hi:ops[i]? =some oi) (hN:oi.dst=N) (hc:takeB md ops ds l l' i=true)
    (hQ:∀c a w,Q (.panic c) (a.put oi.dst v) w->Q (.panic c) a w) (hy:YieldsIf P ops S oi v a) (hS:S w) {a':Act}(ha:a.put N v=a')
    (h:kY P md ops Q S ds fuel l' a' w):kY P md ops Q S ds (fuel+1) l a w:=by
  subst ha
  subst hN
  simp only [takeB,Bool.and_eq_true,beq_iff_eq]at hc
  obtain⟨⟨⟨⟨⟨h1,h2⟩,h3⟩,h4⟩,h5⟩,h6⟩:=hc
  subst h6
  exact JV hi h1 h2 h3 h4 h5 hQ hy hS h
def sV (md:Region.Mode) (ops:Array Oper) (l l':Array Bool) (i:Nat):Bool:=
  Region.noSelect ops&&Region.free md ops l i&&(Region.ready md ops l).contains i&&(l.setIfInBounds i true==l')
theorem xE {i:Nat}{N:Option Tmp}{oi:Oper}{v:Value}{fuel:Nat}{l:Array Bool}{a:Act}{w:World}(l':Array Bool) (hi:ops[i]? =some oi) (hN:oi.dst=N) (hc:sV md ops l l' i=true)
    (hQ:∀c a w,Q (.panic c) (a.put oi.dst v) w->Q (.panic c) a w) (hy:Yields P ops oi v a) {a':Act}(ha:a.put N v=a')
    (h:kY P md ops Q S ds fuel l' a' w):kY P md ops Q S ds (fuel+1) l a w:=by
  subst ha
  subst hN
  simp only [sV,Bool.and_eq_true,beq_iff_eq]at hc
  obtain⟨⟨⟨h1,h2⟩,h3⟩,h6⟩:=hc
  subst h6
  exact JR hi (Region.noSelect_spec h1) hQ fuel l a w (Region.free_spec hi h2) (by simpa using h3) hy h
def sN (md:Region.Mode) (ops:Array Oper) (l l':Array Bool) (i:Nat):Bool:=(Region.ready md ops l==[i])&&(l.setIfInBounds i true==l')
theorem pE {i:Nat}{N:Option Tmp}{oi:Oper}{fuel:Nat}{l:Array Bool}{a:Act}{w:World}(l':Array Bool) (hi:ops[i]? =some oi) (hN:oi.dst=N) (hc:sN md ops l l' i=true) (hd:i∉ds)
    (h:∀K:Act->World->Prop,Shut (∀a' w',S w'->(S w'->kY P md ops Q S ds fuel l' a' w')->K a' w')->if Region.wanted oi (yielded ops a.tmps)=true then Oper.wp P oi a w K Q else K (a.put N undef) w):
    kY P md ops Q S ds (fuel+1) l a w:=by
  subst hN
  simp only [sN,Bool.and_eq_true,beq_iff_eq]at hc
  obtain⟨h1,h2⟩:=hc
  subst h2
  exact zR h1 (by simp) (p_.cons hi hd (fun K hK=>h K hK) p_.nil)
theorem zi {i:Nat}{N:Option Tmp}{oi:Oper}{fuel:Nat}{l:Array Bool}{a:Act}{w:World}(l':Array Bool) (hi:ops[i]? =some oi) (hN:oi.dst=N) (hc:sN md ops l l' i=true) (hd:i∈ds)
    (h:∀K:Act->World->Prop,Shut (∀a' w',kY P md ops Q S ds fuel l' a' w'->K a' w')->if Region.wanted oi (yielded ops a.tmps)=true then Oper.wp P oi a w K Q else K (a.put N undef) w):
    kY P md ops Q S ds (fuel+1) l a w:=by
  subst hN
  simp only [sN,Bool.and_eq_true,beq_iff_eq]at hc
  obtain⟨h1,h2⟩:=hc
  subst h2
  exact zR h1 (by simp) (p_.FV hi hd (fun K hK=>h K hK) p_.nil)
theorem mD {l:Array Bool}{a:Act}{w:World}{n:Nat}(hr:(Region.ready md ops l==[])=true) (h:Q .normal a w):kY P md ops Q S ds n l a w:=JS (by simpa using hr) h n
theorem uA {i j:Nat}{Ni Nj:Option Tmp}{oi oj:Oper}{fuel:Nat}{l:Array Bool}{a:Act}{w:World}(li lj:Array Bool) (hi:ops[i]? =some oi) (hj:ops[j]? =some oj) (hNi:oi.dst=Ni) (hNj:oj.dst=Nj)
    (hc:(Region.ready md ops l==[i,j]&&l.setIfInBounds i true==li&&l.setIfInBounds j true==lj)=true) (hdi:i∉ds) (hdj:j∉ds)
    (h1:∀K:Act->World->Prop,Shut (∀a' w',S w'->(S w'->kY P md ops Q S ds fuel li a' w')->K a' w')->if Region.wanted oi (yielded ops a.tmps)=true then Oper.wp P oi a w K Q else K (a.put Ni undef) w)
    (h2:∀K:Act->World->Prop,Shut (∀a' w',S w'->(S w'->kY P md ops Q S ds fuel lj a' w')->K a' w')->if Region.wanted oj (yielded ops a.tmps)=true then Oper.wp P oj a w K Q else K (a.put Nj undef) w):
    kY P md ops Q S ds (fuel+1) l a w:=by
  subst hNi
  subst hNj
  simp only [Bool.and_eq_true,beq_iff_eq]at hc
  obtain⟨⟨h3,h4⟩,h5⟩:=hc
  subst h4
  subst h5
  exact zR h3 (by simp) (p_.cons hi hdi (fun K hK=>h1 K hK) (p_.cons hj hdj (fun K hK=>h2 K hK) p_.nil))
def oG:Act->List (Tmp×Value)->Act
  |a,[]=>a
  |a,(n,v)::r=>oG (a.put (some n) v) r
theorem qZ {σ:Type}{fuel:Nat}{l:Array Bool}{a:Act}{w:World}(fuel':Nat) (l':Array Bool) (ns:σ->List (Tmp×Value)) (F:σ->World->Prop)
    (hcont:∀s w',F s w'->kY P md ops Q S ds fuel' l' (oG a (ns s)) w')
    (h:(∀s w',F s w'->kY P md ops Q S ds fuel' l' (oG a (ns s)) w')->kY P md ops Q S ds fuel l a w):kY P md ops Q S ds fuel l a w:=h hcont
theorem ng {fuel:Nat}{l:Array Bool}{a a':Act}{w:World}(ha:a=a') (h:kY P md ops Q S ds fuel l a' w):kY P md ops Q S ds fuel l a w:=by
  subst ha
  exact h
theorem call_ {oi:Oper}{N:Option Tmp}{a:Act}{w:World}{K:Act->World->Prop}(f:FuncId) (args:Array Value) (hw:Region.wanted oi (yielded ops a.tmps)=true) (hN:oi.dst=N) (hrun:(execOp a.eval oi).run P w=.ok (.enter f args) w)
    (h:Calls P f args w fun e w'=>∃v,e=.returned v/\K (a.put N v) w'):if Region.wanted oi (yielded ops a.tmps)=true then Oper.wp P oi a w K Q else K (a.put N undef) w:=by
  rw[if_pos hw]
  subst hN
  unfold Oper.wp
  rw[hrun,Oper.upon_enter]
  refine h.mono fun e w'' hh=>?_
  obtain⟨v,rfl,hk⟩:=hh
  exact hk
theorem xk {f : FuncId} {fn : Func} (hf : P.funcs[f]? = some fn) (hname : (fn.name == "runtime.NumGoroutine") = false) (hb : fn.body.isSome = true) (args : Array Value) (w : World) : (callFunc f args).run P w = .ok (.enter f args) w := by
  have h1 : fn.name ≠ "runtime.NumGoroutine" := by simpa using hname
  obtain⟨c,hc⟩:=Option.isSome_iff_exists.1 hb
  simp[callFunc,hf,h1,hc]
theorem qd {oi : Oper} {N : Option Tmp} {a : Act} {w : World} {K : Act → World → Prop} {f : FuncId} {fn : Func} {as_ : Array Operand} {ts : Array TypeId} (hf : P.funcs[f]? = some fn) (hname : (fn.name == "runtime.NumGoroutine") = false) (hb : fn.body.isSome = true) (args : Array Value)
    (hw:Region.wanted oi (yielded ops a.tmps)=true) (hN:oi.dst=N) (hop:oi.op=.call {callee:=.value (.func f),args:=as_,argTypes:=ts}) (hargs:as_.map a.eval=args)
    (h:Calls P f args w fun e w'=>∃v,e=.returned v/\K (a.put N v) w'):if Region.wanted oi (yielded ops a.tmps)=true then Oper.wp P oi a w K Q else K (a.put N undef) w:=by
  refine call_ f args hw hN ?_ h
  have he:=xk hf hname hb args w
  unfold execOp
  simp[hop,resolve,Deferred.ofValue,invoke,Act.eval,hargs,he]
theorem uN {rest : List Oper} {oi : Oper} {a : Act} {w : World} (N : Option Tmp) (hd : oi.dst = N) (hg : oi.guard = none) {f : FuncId} {fn : Func} {as_ : Array Operand} {ts : Array TypeId} (hf : P.funcs[f]? = some fn) (hname : (fn.name == "runtime.NumGoroutine") = false) (hb : fn.body.isSome = true) (args : Array Value)
    (hop:oi.op=.call {callee:=.value (.func f),args:=as_,argTypes:=ts}) (hargs:as_.map a.eval=args)
    (h:Calls P f args w fun e w'=>∃v,e=.returned v/\wpList P ops Q rest (a.put N v) w'):wpList P ops Q (oi::rest) a w:=by
  refine wpList_plain hg fun K hK=>?_
  have he:=xk hf hname hb args w
  have hrun:(execOp a.eval oi).run P w=.ok (.enter f args) w:=by
    unfold execOp
    simp[hop,resolve,Deferred.ofValue,invoke,Act.eval,hargs,he]
  unfold Oper.wp
  rw[hrun,Oper.upon_enter]
  refine h.mono fun e w'' hh=>?_
  obtain⟨v,rfl,hk⟩:=hh
  subst hd
  exact hK _ _ hk
theorem xN {oi:Oper}{N:Option Tmp}{a:Act}{w w1:World}{v:Value}{K:Act->World->Prop}(hw:Region.wanted oi (yielded ops a.tmps)=true) (hN:oi.dst=N) (hrun:(execOp a.eval oi).run P w=.ok (.value v) w1)
    (h:K (a.put N v) w1):if Region.wanted oi (yielded ops a.tmps)=true then Oper.wp P oi a w K Q else K (a.put N undef) w:=by
  rw[if_pos hw]
  subst hN
  unfold Oper.wp
  rw[hrun]
  exact h
theorem r_ {oi:Oper}{a:Act}{w w1:World}{K:Act->World->Prop}(hw:Region.wanted oi (yielded ops a.tmps)=true) (hN:oi.dst=none) (hrun:(execOp a.eval oi).run P w=.ok .skip w1)
    (h:K a w1):if Region.wanted oi (yielded ops a.tmps)=true then Oper.wp P oi a w K Q else K (a.put none undef) w:=by
  rw[if_pos hw]
  unfold Oper.wp
  rw[hrun]
  show K (a.put oi.dst undef) w1
  rw[hN]
  exact h
theorem mh (n:Int):IntKind.i64.wrap n=Go.RowKit.wrap64 n:=by unfold Go.RowKit.wrap64;exact IntKind.wrap_i64 n
theorem mP (n:Int):IntKind.i32.wrap n=Go.RowKit.wrap32 n:=by unfold Go.RowKit.wrap32;exact IntKind.wrap_i32 n
end
end Go.Proofs.YtgeonpciodepgaaW.PrintLast
namespace Go.Proofs.YtgeonpciodepgaaW.PrintWords
open Go.RowKit
namespace Kd
def tag {α:Type}(f:Nat->Nat) (d:Kd α):Kd (α×Nat) where
  sz:=d.sz
  E:=d.E
  K:=fun w x cs=>d.K w x.1 cs
  M:=fun w base ok x cs=>d.M w base (fun k=>ok k/\f k=x.2) x.1 cs
  K_len:=fun h=>d.K_len h
  K_one:=fun h=>d.K_one h
  K_below:=fun hb h=>d.K_below hb h
  K_of_M:=fun h=>d.K_of_M h
  M_mono:=fun hok h=>d.M_mono (fun k hk=>⟨hok k hk.1,hk.2⟩) h
  M_bound:=fun h=>d.M_mono (fun _ hk=>⟨⟨hk.1.1,hk.2⟩,hk.1.2⟩) (d.M_bound h)
  M_move:=fun hm h=>d.M_move (fun k hk=>hm k hk.1) h
  M_lower:=fun hb h=>d.M_lower hb h
def bare {α:Type}(d:Kd α):Kd α where
  sz:=d.sz
  E:=d.E
  K:=d.K
  M:=fun w base _ x cs=>d.M w base (fun _=>False) x cs
  K_len:=fun h=>d.K_len h
  K_one:=fun h=>d.K_one h
  K_below:=fun hb h=>d.K_below hb h
  K_of_M:=fun h=>d.K_of_M h
  M_mono:=fun _ h=>h
  M_bound:=fun h=>h
  M_move:=fun _ h=>d.M_move (fun _ hk=>hk.elim) h
  M_lower:=fun hb h=>d.M_lower hb h
def raw (sz:Nat):Kd (List Value) where
  sz:=sz
  E:=[]
  K:=fun _ x cs=>cs=x/\cs.length=sz/\∀u∈cs,u.oneCell'=true
  M:=fun _ _ _ x cs=>cs=x/\cs.length=sz/\∀u∈cs,u.oneCell'=true
  K_len:=fun h=>h.2.1
  K_one:=fun h=>h.2.2
  K_below:=fun _ h=>h
  K_of_M:=fun h=>h
  M_mono:=fun _ h=>h
  M_bound:=fun h=>h
  M_move:=fun _ h=>h
  M_lower:=fun _ h=>h
def S {α:Type}(d:Kd α) (e:Nat) (w:World) (base:Nat) (ok:Nat->Prop) (v:Value) (xs:List α):Prop:=∃f,(tag f d).R e w base ok v xs.zipIdx
section
variable {α β:Type}{d:Kd α}{d':Kd β}{e e':Nat}{w w1 W:World}{base b:Nat}{ok ok' okv oku:Nat->Prop}{u v:Value}{xs:List α}{ys:List β}
theorem xP {xs:List α}{j:Nat}{p:α}(h:xs[j]? =some p):xs.zipIdx[j]? =some (p,j):=by rw[List.getElem?_zipIdx,h,Nat.zero_add];rfl
theorem S_R (h:S d e w base ok v xs):d.R e w base ok v xs:=by
  obtain⟨f,h0,inner,ho,hr⟩:=h
  rw[List.length_zipIdx]at ho
  exact⟨h0,inner,ho,by have:=hr.1;rw[List.length_zipIdx]at this;exact this,fun j p hj=>d.M_mono (fun _ hk=>hk.1) (hr.2 j (p,j) (xP hj))⟩
theorem Ah {ad:Addr}{n cap:Nat}(h:d.R e w base ok (.slice (some ad) n cap) xs):∃g,ad=⟨g,0,none⟩:=by
  obtain⟨_,inner,ho,hr⟩:=h
  rcases ho.2 with⟨hv,_⟩|⟨g,cap',cur,hv,_⟩
  · cases hv
  injection hv with ha _ _
  injection ha with ha
  exact⟨g,ha⟩
theorem EH {ad:Addr}{n cap:Nat}(h:d.R e W base ok (.slice (some ad) n cap) xs) (z:α) (i:Int) (h0:0<=i) (h1:i<n):
    ∃c,c.length=d.sz/\d.M W base (fun k=>ok k/\some k≠(Value.slice (some ad) n cap).ownBlock) (xs.getD i.toNat z) c/\∀j u,c[j]? =some u->W.cell? (ad.add (i.toNat*d.sz+j))=some u:=by
  obtain⟨g,rfl⟩:=Ah h
  obtain⟨c,hcl,hM,hcc,_⟩:=uf h z i h0 h1
  refine⟨c,hcl,d.M_mono (fun k hk=>⟨hk.1,fun he=>hk.2 (by simpa [Value.ownBlock] using he)⟩) hM,fun j u hu=>?_⟩
  rw[qU,Nat.zero_add]
  exact hcc j u hu
theorem Ka (h:d.R e w base ok v xs):v.cells.toList=[v]/\v.oneCell'=true:=by
  obtain⟨A,c,rfl⟩:=kK h
  exact⟨rfl,rfl⟩
theorem sU (hE:d.E=[]) (h:d.R e w base ok v xs):d.R e w base (fun k=>some k=v.ownBlock) v xs:=by
  obtain⟨h0,inner,ho,hr⟩:=h
  refine⟨fun k hk=>hk.symm,inner,ho,hr.oC (fun p c hp=>d.M_mono (fun k hk=>?_) (d.M_bound hp))⟩
  obtain⟨_,_,_,q,hq,_⟩:=hk
  rw[hE]at hq
  cases hq
theorem wR (d:Kd α) (e:Nat) (w:World) (base:Nat) (ok:Nat->Prop):S d e w base ok (.slice none 0 0) []:=⟨fun _=>0,sS _ _ _ _ _⟩
theorem nW (h:S d e w base ok v xs) (hok:∀k,ok k->ok' k):S d e w base ok' v xs:=by
  obtain⟨f,h⟩:=h
  exact⟨f,kz h hok⟩
theorem wO (h:S d e w base ok v xs):S d e w base (fun k=>ok k/\base<=k/\k<w.heap.size/\∃q,q∈e::d.E/\∃cells,w.heap[k]? =some (.cells cells q (0,0))) v xs:=by
  obtain⟨f,h⟩:=h
  exact⟨f,qw h⟩
theorem ER (h:S d e w base ok v xs) (hm:∀k,ok k->w1.heap[k]? =w.heap[k]?):S d e w1 base ok v xs:=by
  obtain⟨f,h⟩:=h
  exact⟨f,uC h hm⟩
theorem uh {base':Nat}(h:S d e w base ok v xs) (hb:base'<=base):S d e w base' ok v xs:=by
  obtain⟨f,h⟩:=h
  exact⟨f,kP h hb⟩
theorem yl (h:S d e w base ok v xs) (hm:∀k,ok k->k<w.heap.size->w1.heap[k]? =w.heap[k]?):S d e w1 base ok v xs:=
  nW (ER (wO h) (fun k hk=>hm k hk.1 hk.2.2.1)) (fun _ hk=>hk.1)
theorem mo (h:S d e w base ok v xs) (hb:Below w.heap.size w w1):S d e w1 base ok v xs:=yl h (fun k _ hk=>hb.block k hk)
theorem ny (h:S d e w base ok v xs) (o:Obj):S d e (w.alloc o) base ok v xs:=mo h (qx (Below.refl _ _) o)
theorem mE (h:S d e w base ok v xs):S d e w.drew base ok v xs:=mo h (vw (Below.refl _ _))
theorem nz (h:S d e w base ok v xs) (m:Nat):S d e (w.drewN m) base ok v xs:=mo h (qO (Below.refl _ _) m)
theorem rJ (h:S d e w base ok v xs) {p:Addr}(hok:∀k,ok k->k≠p.block) (u:Value):S d e (w.setCell p u) base ok v xs:=yl h (fun k ho _=>Below.heap_setCell w p u k (hok k ho))
theorem vv (h:S d e w base ok v xs) {g t:Nat}{cells:Array Value}(hb:w.heap[g]? =some (.cells cells t (0,0))) (ht:∀q,q∈e::d.E->q≠t):S d e w base (fun k=>ok k/\k≠g) v xs:=by
  obtain⟨f,h⟩:=h
  exact⟨f,mr h hb ht⟩
theorem rM (h:S d e w base ok v xs):∀k,v.ownBlock=some k->∃cells,w.heap[k]? =some (.cells cells e (0,0)):=nV (S_R h)
theorem yj (h:S d e w base ok v xs):∀k,v.ownBlock=some k->k<w.heap.size:=kT (S_R h)
theorem yh (h:S d e w base ok v xs):∀k,v.ownBlock=some k->base<=k:=pR (S_R h)
theorem wS (h:S d e W base ok u xs) (hty:∀k,v.ownBlock=some k->∃cells,W.heap[k]? =some (.cells cells e' (0,0))) (ht:∀q,q∈e::d.E->q≠e') (hg:W.grownBy w1 v.ownBlock):S d e w1 base ok u xs:=by
  obtain⟨f,h⟩:=h
  exact⟨f,nU h hty ht hg⟩
theorem Al (h:S d e W base ok u xs) (hty:∀k,v.ownBlock=some k->∃cells,W.heap[k]? =some (.cells cells e' (0,0))) (ht:∀q,q∈e::d.E->q≠e'):S d e W base (fun k=>ok k/\some k≠v.ownBlock) u xs:=by
  obtain⟨f,h⟩:=h
  exact⟨f,uZ h hty ht⟩
theorem qD (h:S d e W base ok u xs) (hbase:∀k,v.ownBlock=some k->W.heap.size<=k) (hb:Below W.heap.size W w1):S d e w1 base (fun k=>ok k/\some k≠v.ownBlock) u xs:=by
  obtain⟨f,h⟩:=h
  exact⟨f,xX h hbase hb⟩
theorem vo (h:S d e w1 W.heap.size ok v xs) (hlt:∀k,u.ownBlock=some k->k<W.heap.size):S d e w1 W.heap.size (fun k=>ok k/\some k≠u.ownBlock) v xs:=by
  obtain⟨f,h⟩:=h
  exact⟨f,lF h hlt⟩
theorem yg {v1:Value}(h:S d e W base (fun k=>ok k/\some k≠v.ownBlock) u xs) (hg:W.grownBy w1 v.ownBlock) (hat:v1.ownBlock=v.ownBlock\/∃b,v1.ownBlock=some b/\W.heap.size<=b):S d e w1 base (fun k=>ok k/\some k≠v1.ownBlock) u xs:=by
  obtain⟨f,h⟩:=h
  exact⟨f,nP h hg hat⟩
theorem EN (h:(bare d).R e w base ok v xs):S d e w base ok v xs:=by
  obtain⟨h0,inner,ho,hr⟩:=h
  refine⟨fun _=>0,h0,inner,by rw[List.length_zipIdx];exact ho,by rw[List.length_zipIdx];exact hr.1,fun j p hj=>?_⟩
  rw[List.getElem?_zipIdx,Nat.zero_add]at hj
  obtain⟨x,hx,rfl⟩:=Option.map_eq_some_iff.1 hj
  exact d.M_mono (fun _ hk=>hk.elim) (hr.2 j x hx)
theorem EM {f f':Nat->Nat}{zs:List (α×Nat)}(h:(tag f d).R e w base ok v zs) (hf:∀k,ok k->k<w.heap.size->f' k=f k):(tag f' d).R e w base ok v zs:=by
  obtain⟨h0,inner,ho,hr⟩:=qw h
  exact⟨fun k hk=>(h0 k hk).1,inner,ho,hr.1,fun j p hj=>d.M_mono (fun k hk=>⟨⟨hk.1.1.1,hk.1.2⟩,(hf k hk.1.1.1 hk.1.1.2.2.1).trans hk.2⟩) (hr.2 j p hj)⟩
end
section
variable {α β:Type}{d:Kd α}{d':Kd β}{e e' g:Nat}{w w1 W:World}{base b:Nat}{ok ok' okv oku:Nat->Prop}{u v:Value}{xs:List α}{ys:List β}
theorem wQ (h:S d e w base ok v xs) {t:Nat}{cells:Array Value}(hb:w.heap[g]? =some (.cells cells t (0,0))) (ht:e≠t):some g≠v.ownBlock:=lS (S_R h) hb ht
theorem EO (h:S d e w base ok v xs) (hp:0<xs.length):∃g cap,v=.slice (some ⟨g,0,none⟩) xs.length cap/\base<=g/\g<w.heap.size/\∃cells,w.heap[g]? =some (.cells cells e (0,0)):=sQ (S_R h) hp
theorem pU (h:S d e w base ok v xs):∃A c,v=.slice A xs.length c:=kK (S_R h)
theorem mO {A:Option Addr}{n c:Nat}(h:S d e w base ok (.slice A n c) xs):n=xs.length/\n<=c/\d.C w A xs.length xs:=kr (S_R h)
theorem Ke {ad:Addr}{n cap:Nat}(h:S d e W base ok (.slice (some ad) n cap) xs) (z:α) (i:Int) (h0:0<=i) (h1:i<n):
    ∃c,c.length=d.sz/\d.M W base (fun k=>ok k/\some k≠(Value.slice (some ad) n cap).ownBlock) (xs.getD i.toNat z) c/\∀j u,c[j]? =some u->W.cell? (ad.add (i.toNat*d.sz+j))=some u:=EH (S_R h) z i h0 h1
theorem JZ (xs:List α) (p:α):(xs++[p]).zipIdx=xs.zipIdx++[(p,xs.length)]:=by rw[List.zipIdx_append];simp
end
section
open Classical in
theorem ES {α:Type}{d:Kd α}{e base:Nat}{okv:Nat->Prop}{w:World}{v:Value}{xs:List α}(h:S d e w base okv v xs) (m:Nat) (okp:Nat->Prop) (hap:∀k,okp k->¬okv k):∃f,(∀k,okp k->f k=m)/\(tag f d).R e w base okv v xs.zipIdx:=by
  obtain⟨f,h⟩:=h
  exact⟨fun k=>if okp k then m else f k,fun k hk=>if_pos hk,EM h (fun k hk _=>if_neg (fun h2=>hap k h2 hk))⟩
variable {P:Program}{ops:Array Oper}{rest:List Oper}{o:Oper}{a:Act}{Q:Exit->Act->World->Prop}{Kc:Act->World->Prop}{α:Type}
theorem Am (d:Kd α) {w0 W:World}(base:Nat) (hgd:o.guard=none) (s x:Operand) (t e:TypeId) (z:Value) (bytes:Nat)
    (ho:o.op=.call {callee:=.builtin .append,args:= #[s,x],argTypes:= #[t,t]})
    (ht:P.underlying t=some (.slice e)) (hinfo:(P.info? e).map (fun i=>(i.zero,i.size,i.bytes))=some (some z,d.sz,bytes)) (hz:z.cells.size=d.sz) (hs0:0<d.sz) (hb0:0<bytes)
    (v:Value) (xs:List α) (p:α) (cs:List Value) (ok okp:Nat->Prop) (hs:a.eval s=v) (hx:a.eval x=.slice (some ⟨W.heap.size,0,none⟩) 1 1) (hp:d.M W base okp p cs) (oM:∀k,okp k->ok k/\some k≠v.ownBlock) (hfresh:∀k,W.heap.size<=k->ok k)
    (HO:S d e W base (fun k=>ok k/\¬okp k) v xs) (HB:Below base w0 W) (hbase:base<=W.heap.size) (hl:(xs.length+1)*bytes<=140737488355328)
    (h:∀v1 w1,S d e w1 base ok v1 (xs++[p])->Below base w0 w1->W.grownBy w1 v.ownBlock->(v1.ownBlock=v.ownBlock\/∃b,v1.ownBlock=some b/\W.heap.size<=b)->wpList P ops Q rest (a.put o.dst v1) w1):
    wpList P ops Q (o::rest) a (W.alloc (.cells cs.toArray e)):=by
  obtain⟨f,hf,hR⟩:=ES HO xs.length okp (fun _ hk h2=>h2.2 hk)
  refine pg (tag f d) base hgd s x t e z bytes ho ht hinfo hz hs0 hb0 v xs.zipIdx (p,xs.length) cs ok okp hs hx (d.M_mono (fun k hk=>⟨hk,hf k hk⟩) hp) oM hfresh (kz hR (fun _ hk=>hk.1)) HB hbase (by rw[List.length_zipIdx];exact hl) ?_
  intro v1 w1 hr
  rw[←JZ]at hr
  exact h v1 w1 ⟨f,hr⟩
theorem wP (d:Kd α) {w0 W:World}(base e:Nat) (hgd:o.guard=none) {N:Tmp}(_hd:o.dst=some N) {xs:List α}{inner:List Value}{ok okp:Nat->Prop}
    (hrun:(execOp a.eval o).run P W=.ok (.value (.slice (some ⟨W.heap.size,0,none⟩) xs.length xs.length)) (W.alloc (.cells inner.toArray e)))
    (hrep:kF (d.M W base (fun _=>False)) d.sz xs inner) (_hok:∀k,okp k->ok k) (hfresh:ok W.heap.size) (HB:Below base w0 W) (hbase:base<=W.heap.size) (hm:xs.length<=9223372036854775807)
    (h:∀v1 w1,S d e w1 base ok v1 xs->Below base w0 w1->W.grownBy w1 none->(∃b,v1.ownBlock=some b/\W.heap.size<=b)->wpList P ops Q rest (a.put o.dst v1) w1):wpList P ops Q (o::rest) a W:=
  xY (bare d) base e hgd _hd (ok:=ok) (okp:=ok) hrun hrep (fun _ hk=>hk) hfresh HB hbase hm (fun v1 w1 hr=>h v1 w1 (EN hr))
end
def gap {α:Type}(f:Nat->Nat) (d:Kd α) (i:Nat) (c:List Value):Kd (α×Nat) where
  sz:=d.sz
  E:=d.E
  K:=fun w x cs=>(x.2=i->cs=c/\cs.length=d.sz/\∀u∈cs,u.oneCell'=true)/\(x.2≠i->d.K w x.1 cs)
  M:=fun w base ok x cs=>(x.2=i->cs=c/\cs.length=d.sz/\∀u∈cs,u.oneCell'=true)/\(x.2≠i->d.M w base (fun k=>ok k/\f k=x.2) x.1 cs)
  K_len:=fun{w x cs} h=>by
    by_cases hx:x.2=i
    · exact(h.1 hx).2.1
    exact d.K_len (h.2 hx)
  K_one:=fun{w x cs} h=>by
    by_cases hx:x.2=i
    · exact(h.1 hx).2.2
    exact d.K_one (h.2 hx)
  K_below:=fun hb h=>⟨h.1,fun hx=>d.K_below hb (h.2 hx)⟩
  K_of_M:=fun h=>⟨h.1,fun hx=>d.K_of_M (h.2 hx)⟩
  M_mono:=fun hok h=>⟨h.1,fun hx=>d.M_mono (fun k hk=>⟨hok k hk.1,hk.2⟩) (h.2 hx)⟩
  M_bound:=fun h=>⟨h.1,fun hx=>d.M_mono (fun _ hk=>⟨⟨hk.1.1,hk.2⟩,hk.1.2⟩) (d.M_bound (h.2 hx))⟩
  M_move:=fun hm h=>⟨h.1,fun hx=>d.M_move (fun k hk=>hm k hk.1) (h.2 hx)⟩
  M_lower:=fun hb h=>⟨h.1,fun hx=>d.M_lower hb (h.2 hx)⟩
def H {α:Type}(d:Kd α) (e:Nat) (w:World) (base:Nat) (ok:Nat->Prop) (v:Value) (xs:List α) (i:Int) (oki:Nat->Prop) (c:List Value):Prop:=
  (∀k,oki k->ok k)/\∃f,(gap f d i.toNat c).R e w base (fun k=>ok k/\¬oki k) v xs.zipIdx
section
variable {α β:Type}{d:Kd α}{e e' g n cap:Nat}{w w1 W:World}{base:Nat}{ok ok' oki okp:Nat->Prop}{u v:Value}{xs:List α}{i:Int}{c:List Value}
theorem Aq (h:S d e W base ok (.slice (some ⟨g,0,none⟩) n cap) xs) (z:α) (i:Int) (h0:0<=i) (h1:i<n):
    ∃ (oki:Nat->Prop) (c:List Value),c.length=d.sz/\d.M W base oki (xs.getD i.toNat z) c/\(∀j u,c[j]? =some u->W.cell? ⟨g,i.toNat*d.sz+j,none⟩=some u)/\(∀k,oki k->ok k/\k≠g)/\H d e W base ok (.slice (some ⟨g,0,none⟩) n cap) xs i oki c:=by
  obtain⟨f,hR⟩:=h
  have hn:=(kr hR).1
  rw[List.length_zipIdx]at hn
  have hgo:some g=(Value.slice (some ⟨g,0,none⟩) n cap).ownBlock:=by simp[Value.ownBlock]
  obtain⟨hok0,inner,ho,hr⟩:=hR
  have hil:i.toNat<xs.length:=by omega
  have hlen:inner.length=xs.length*d.sz:=by have:=hr.1;rw[List.length_zipIdx]at this;exact this
  have hseg:i.toNat*d.sz+d.sz<=inner.length:=by rw[hlen,←Nat.succ_mul];exact Nat.mul_le_mul_right _ hil
  have hM:=hr.2 i.toNat _ (xP (List.getElem?_eq_getElem hil))
  have hkg:∀k,some k≠(Value.slice (some ⟨g,0,none⟩) n cap).ownBlock->k≠g:=fun k hk he=>hk (by rw[he];exact hgo)
  refine⟨fun k=>(ok k/\k≠g)/\f k=i.toNat,(inner.drop (i.toNat*d.sz)).take d.sz,by rw[List.length_take,List.length_drop];omega,?_,fun j u hu=>?_,fun k hk=>hk.1,fun k hk=>hk.1.1,f,fun k hk=>⟨hok0 k hk,fun h2=>h2.1.2 ?_⟩,inner,ho,hr.1,fun m p hm=>?_⟩
  · rw[List.getD_eq_getElem?_getD,List.getElem?_eq_getElem hil]
    exact d.M_mono (fun k hk=>⟨⟨hk.1.1,hkg k hk.1.2⟩,hk.2⟩) hM
  · rw[List.getElem?_take]at hu
    split at hu
    · rw[List.getElem?_drop]at hu
      have:=ho.cells (g:=g) hgo.symm _ u hu
      rwa [add_plain]at this
    cases hu
  · rw[←hgo]at hk;injection hk with hk;exact hk.symm
  have hold:=hr.2 m p hm
  have hp2:p.2=m:=by
    rw[List.getElem?_zipIdx,Nat.zero_add]at hm
    obtain⟨q,_,rfl⟩:=Option.map_eq_some_iff.1 hm
    rfl
  refine⟨fun hx=>?_,fun hx=>d.M_mono (fun k hk=>⟨⟨⟨hk.1.1,fun h2=>hx ?_⟩,hk.1.2⟩,hk.2⟩) hold⟩
  · have hmi:m=i.toNat:=by omega
    subst hmi
    exact⟨rfl,d.K_len (d.K_of_M hM),d.K_one (d.K_of_M hM)⟩
  rw[←hk.2];exact h2.2
open Classical in
theorem zU (h:H d e w base ok v xs i oki c) {x':α}(hM:d.M w base okp x' c) (hok:∀k,okp k->oki k):S d e w base ok v (xs.set i.toNat x'):=by
  obtain⟨ho,f,h0,inner,hown,hr⟩:=h
  refine⟨fun k=>if oki k then i.toNat else f k,fun k hk=>(h0 k hk).1,inner,by rw[List.length_zipIdx,List.length_set];rw[List.length_zipIdx]at hown;exact hown,by have:=hr.1;rw[List.length_zipIdx]at this;rw[List.length_zipIdx,List.length_set];exact this,fun m p hm=>?_⟩
  rw[List.getElem?_zipIdx,Nat.zero_add]at hm
  obtain⟨q,hq,rfl⟩:=Option.map_eq_some_iff.1 hm
  have hml:m<xs.length:=by
    have:=(List.getElem?_eq_some_iff.1 hq).1
    rwa [List.length_set]at this
  by_cases hmi:m=i.toNat
  · subst hmi
    rw[List.getElem?_set_self hml]at hq
    injection hq with hq
    subst hq
    have hc:=((hr.2 i.toNat _ (xP (List.getElem?_eq_getElem hml))).1 rfl).1
    show d.M w base _ x' ((inner.drop (i.toNat*d.sz)).take d.sz)
    rw[show(inner.drop (i.toNat*d.sz)).take d.sz=c from hc]
    exact d.M_mono (fun k hk=>⟨⟨ho k (hok k hk),fun he=>(h0 k he.symm).2 (hok k hk)⟩,if_pos (hok k hk)⟩) hM
  rw[List.getElem?_set_ne (Ne.symm hmi)]at hq
  exact d.M_mono (fun k hk=>⟨⟨hk.1.1.1,hk.1.2⟩,(if_neg hk.1.1.2).trans hk.2⟩) ((hr.2 m (q,m) (xP hq)).2 hmi)
theorem zV (h:H d e w base ok v xs i oki c) (hm:∀k,ok k->¬oki k->k<w.heap.size->w1.heap[k]? =w.heap[k]?):H d e w1 base ok v xs i oki c:=by
  obtain⟨ho,f,h⟩:=h
  exact⟨ho,f,ug h (fun k hk hlt=>hm k hk.1 hk.2 hlt)⟩
theorem EA (h:H d e w base ok v xs i oki c) {row:Option Nat}(hg:w.grownBy w1 row) (hrow:∀k,row=some k->oki k):H d e w1 base ok v xs i oki c:=
  zV h (fun k _ hn hlt=>hg.block k hlt (fun he=>hn (hrow k he.symm)))
theorem Kb {ad:Addr}(h:S d e W base ok (.slice (some ad) n cap) xs) (z:α) (i:Int) (h0:0<=i) (h1:i<n):
    ∃ (oki:Nat->Prop) (c:List Value),c.length=d.sz/\d.M W base oki (xs.getD i.toNat z) c/\(∀j u,c[j]? =some u->W.cell? (ad.add (i.toNat*d.sz+j))=some u)/\(∀k,oki k->ok k/\some k≠(Value.slice (some ad) n cap).ownBlock)/\
      ∀ {w1:World}{row:Option Nat}{x':α},W.grownBy w1 row->(∀k,row=some k->oki k)->d.M w1 base oki x' c->S d e w1 base ok (.slice (some ad) n cap) (xs.set i.toNat x'):=by
  obtain⟨g,rfl⟩:=Ah (S_R h)
  obtain⟨oki,c,hcl,hM,hcc,hoki,hH⟩:=Aq h z i h0 h1
  refine⟨oki,c,hcl,hM,fun j u hu=>?_,fun k hk=>⟨(hoki k hk).1,fun he=>(hoki k hk).2 ?_⟩,fun hg hrow hM1=>zU (EA hH hg hrow) hM1 (fun _ hk=>hk)⟩
  · rw[qU,Nat.zero_add]
    exact hcc j u hu
  simpa [Value.ownBlock] using he
end
end Kd
end Go.Proofs.YtgeonpciodepgaaW.PrintWords
namespace Go.Proofs.YtgeonpciodepgaaW.PrintWords
open Go.RowKit
namespace Kd
structure Heap {α:Type}(d:Kd α):Prop where
  K:∀ {w w1:World}{x:α}{cs:List Value},(∀k,k<w.heap.size->w1.heap[k]? =w.heap[k]?)->d.K w x cs->d.K w1 x cs
theorem FO {w w1:World}(hb:∀k,k<w.heap.size->w1.heap[k]? =w.heap[k]?) {a:Addr}{v:Value}(h:w.cell? a=some v):w1.cell? a=some v:=by
  have:=hb a.block (World.block_lt_of_cell? w a h)
  simpa [World.cell?,this] using h
theorem Heap.C {α:Type}{d:Kd α}(hd:Heap d) {w w1:World}{A:Option Addr}{n:Nat}{xs:List α}(hb:∀k,k<w.heap.size->w1.heap[k]? =w.heap[k]?) (h:d.C w A n xs):d.C w1 A n xs:=
  ⟨h.1,h.2.1,fun hn=>by
    obtain⟨ad,e,hc⟩:=h.2.2 hn
    refine⟨ad,e,fun j p hj=>?_⟩
    obtain⟨c,hs,hr,hcell⟩:=hc j p hj
    exact⟨c,hs,hd.K hb hr,fun i u hu=>FO hb (hcell i u hu)⟩⟩
section
variable {α:Type}{d:Kd α}{e base g n c:Nat}{ok:Nat->Prop}{w w0 W:World}{A:Option Addr}{xs:List α}
theorem J3 (h:d.R e W base ok (.slice A n c) xs) (hok:∀k,ok k->k≠g):∀W',lQ W W' g none->d.C W' A n xs:=fun W' hk=>by
  have h2:=kr (Ai h hk hok)
  rw[h2.1]
  exact h2.2.2
theorem J2 (h:∀W',lQ w W' g none->d.C W' A n xs) (hk:lQ w W g none):d.C W A n xs:=h W hk
end
end Kd
end Go.Proofs.YtgeonpciodepgaaW.PrintWords
namespace Go.Proofs.YtgeonpciodepgaaW.PrintWords
open Go.RowKit
def Kept (w W:World) (S:Nat->Prop):Prop:=w.heap.size<=W.heap.size/\∀i,i<w.heap.size->¬S i->W.heap[i]? =w.heap[i]?
section
variable {w W W2:World}{S S2 S':Nat->Prop}
theorem Kept.refl (w:World) (S:Nat->Prop):Kept w w S:=⟨Nat.le_refl _,fun _ _ _=>rfl⟩
theorem Kept.of_below (h:Below w.heap.size w W) (S:Nat->Prop):Kept w W S:=⟨h.size,fun i hi _=>h.block i hi⟩
theorem Kept.mono (h:Kept w W S) (hs:∀k,S k->S' k):Kept w W S':=⟨h.1,fun i hi hn=>h.2 i hi (fun hk=>hn (hs i hk))⟩
theorem Kept.wB (h:Kept w W S) (k:Kept W W2 S2) (hs:∀k,S2 k->S k\/w.heap.size<=k):Kept w W2 S:=
  ⟨Nat.le_trans h.1 k.1,fun i hi hn=>(k.2 i (Nat.lt_of_lt_of_le hi h.1) (fun h2=>(hs i h2).elim hn (fun h3=>by omega))).trans (h.2 i hi hn)⟩
theorem Kept.vY {row:Option Nat}(hg:W.grownBy W2 row) (h:Kept w W S) (hr:∀k,row=some k->S k\/w.heap.size<=k):Kept w W2 S:=
  h.wB (S2:=fun k=>row=some k) ⟨hg.size,fun i hi hn=>hg.block i hi (fun he=>hn he.symm)⟩ hr
theorem Kept.below (h:Kept w W S) (hb:Below W.heap.size W W2):Kept w W2 S:=h.wB (Kept.of_below hb (fun _=>False)) (fun _ hk=>hk.elim)
theorem Kept.alloc (h:Kept w W S) (o:Obj):Kept w (W.alloc o) S:=h.below (qx (Below.refl _ _) o)
theorem Kept.drew (h:Kept w W S):Kept w W.drew S:=h
theorem Kept.drewN (h:Kept w W S) (m:Nat):Kept w (W.drewN m) S:=h
theorem Kept.setCell (h:Kept w W S) {p:Addr}(hp:S p.block\/w.heap.size<=p.block) (u:Value):Kept w (W.setCell p u) S:=
  h.wB (S2:=fun k=>k=p.block) ⟨by simp[World.setCell],fun i _ hn=>Below.heap_setCell W p u i hn⟩ (fun k hk=>by rw[hk];exact hp)
theorem Kept.keep {g:Nat}(h:lQ w W g none) (k:Kept W W2 S2) (hs:∀k,S2 k->w.heap.size<=k):lQ w W2 g none:=
  ⟨Nat.le_trans h.1 k.1,fun i hi hg hr=>(k.2 i (Nat.lt_of_lt_of_le hi h.1) (fun h2=>by have:=hs i h2;omega)).trans (h.2 i hi hg hr)⟩
theorem sD {g:Nat}{o:Obj}(hb:W.heap[g]? =some o) (hk:Kept W W2 S) (hne:¬S g):W2.heap[g]? =some o:=(hk.2 g (lq hb) hne).trans hb
end
namespace Kd
section
variable {α:Type}{d:Kd α}{e base n c:Nat}{ok oki S S2:Nat->Prop}{w w0 W W1 W2:World}{v:Value}{A:Option Addr}{xs:List α}{i:Int}{cs:List Value}
theorem EK (h:d.R e W base ok v xs) (hk:Kept W W2 S) (hne:∀k,ok k->¬S k):d.R e W2 base ok v xs:=ug h (fun k ho hlt=>hk.2 k hlt (hne k ho))
theorem EP (h:Kd.S d e W base ok v xs) (hk:Kept W W2 S) (hne:∀k,ok k->¬S k):Kd.S d e W2 base ok v xs:=yl h (fun k ho hlt=>hk.2 k hlt (hne k ho))
end
end Kd
end Go.Proofs.YtgeonpciodepgaaW.PrintWords
namespace Go.Proofs.YtgeonpciodepgaaW.PrintWords
open Go.RowKit
def pF (P:World->Prop) (W:World) (ok:Nat->Prop):Prop:=∀W':World,(∀k,ok k->k<W.heap.size->W'.heap[k]? =W.heap[k]?)->P W'
theorem G5 {W W1:World}{k:Nat}(h:W1.heap[k]? =W.heap[k]?) (hlt:k<W.heap.size):k<W1.heap.size:=by
  rw[Array.getElem?_eq_getElem hlt]at h
  exact(Array.getElem?_eq_some_iff.1 h).1
namespace pF
variable {P Q:World->Prop}{W W1:World}{ok ok':Nat->Prop}
theorem now (h:pF P W ok):P W:=h W (fun _ _ _=>rfl)
theorem mono (h:pF P W ok) (hok:∀k,ok k->ok' k):pF P W ok':=fun W' hW=>h W' (fun k hk hlt=>hW k (hok k hk) hlt)
theorem bound (h:pF P W ok):pF P W (fun k=>ok k/\k<W.heap.size):=fun W' hW=>h W' (fun k hk hlt=>hW k ⟨hk,hlt⟩ hlt)
theorem step (h:pF P W ok) (hm:∀k,ok k->k<W.heap.size->W1.heap[k]? =W.heap[k]?):pF P W1 ok:=fun W' hW=>h W' (fun k hk hlt=>(hW k hk (G5 (hm k hk hlt) hlt)).trans (hm k hk hlt))
theorem imp (h:pF P W ok) (hi:∀W',P W'->Q W'):pF Q W ok:=fun W' hW=>hi W' (h W' hW)
theorem old (h:pF P W ok) (hb:Below W.heap.size W W1):pF P W1 (fun k=>ok k/\k<W.heap.size):=(h.bound).step (fun k _ hlt=>hb.block k hlt)
end pF
namespace Kd
def F {α:Type}(d:Kd α) (W:World) (ok:Nat->Prop) (A:Option Addr) (n:Nat) (xs:List α):Prop:=pF (fun W=>d.C W A n xs) W ok
def FK {α:Type}(d:Kd α) (W:World) (ok:Nat->Prop) (x:α) (c:List Value):Prop:=pF (fun W=>d.K W x c) W ok
section
variable {α β:Type}{d:Kd α}{e base n n' cc g N:Nat}{ok ok' okp S:Nat->Prop}{w w0 w1 W W1:World}{A A':Option Addr}{u v v1:Value}{xs:List α}{xs':List β}{d':Kd β}{x:α}{c:List Value}
theorem zT (h:F d W ok A n xs) (hok:∀k,ok k->ok' k):F d W ok' A n xs:=pF.mono h hok
theorem Ey (h:F d W ok A n xs) (hm:∀k,ok k->k<W.heap.size->W1.heap[k]? =W.heap[k]?):F d W1 ok A n xs:=pF.step h hm
theorem wE (h:F d W ok A n xs) (hb:Below W.heap.size W W1):F d W1 ok A n xs:=Ey h (fun k _ hlt=>hb.block k hlt)
theorem Es (h:F d W ok A n xs) (o:Obj):F d (W.alloc o) ok A n xs:=wE h (qx (Below.refl _ _) o)
theorem Et (h:F d W ok A n xs):F d W.drew ok A n xs:=wE h (vw (Below.refl _ _))
theorem Eu (h:F d W ok A n xs) (m:Nat):F d (W.drewN m) ok A n xs:=wE h (qO (Below.refl _ _) m)
theorem Ex (d:Kd α) (W:World) (ok:Nat->Prop):F d W ok none ([]:List α).length []:=fun W' _=>Ep d W'
theorem Ew (h:F d W ok A n xs) (hbase:∀k,v.ownBlock=some k->W.heap.size<=k) (hb:Below W.heap.size W W1):F d W1 (fun k=>ok k/\some k≠v.ownBlock) A n xs:=
  zT (pF.old h hb) (fun k hk=>⟨hk.1,fun he=>by have:=hbase k he.symm;have:=hk.2;omega⟩)
theorem R_F (h:d.R e W base ok (.slice A n cc) xs):F d W ok A n xs:=fun W' hW=>by
  have h2:=kr (ug h hW)
  rw[h2.1]
  exact h2.2.2
theorem Er (h:d.M W base ok x c):FK d W ok x c:=fun _ hW=>d.K_of_M (zY h hW)
end
end Kd
end Go.Proofs.YtgeonpciodepgaaW.PrintWords
namespace Go.Proofs.YtgeonpciodepgaaW.PrintWords
open Go.RowKit
namespace Kd
def chunks (sz:Nat) (n:Nat) (inner:List Value):List (List Value):=(List.range n).map fun j=>(inner.drop (j*sz)).take sz
theorem vL (sz n:Nat) (inner:List Value):(chunks sz n inner).length=n:=by simp[chunks]
theorem FP {sz n:Nat}{inner:List Value}{j:Nat}(hj:j<n):(chunks sz n inner)[j]? =some ((inner.drop (j*sz)).take sz):=by simp[chunks,hj]
theorem CB {sz n:Nat}{inner:List Value}{j:Nat}{c:List Value}(h:(chunks sz n inner)[j]? =some c):c=(inner.drop (j*sz)).take sz:=by
  have hj:j<n:=by have:=(List.getElem?_eq_some_iff.1 h).1;rwa [vL]at this
  rw[FP hj]at h
  injection h with h
  exact h.symm
theorem Jb {α:Type}{Rr:α->List Value->Prop}{sz:Nat}{xs:List α}{inner:List Value}(h:kF Rr sz xs inner) (hR:∀x c,Rr x c->c.length=sz/\∀u∈c,u.oneCell'=true):kF (fun x cs=>cs=x/\cs.length=sz/\∀u∈cs,u.oneCell'=true) sz (chunks sz xs.length inner) inner:=by
  refine⟨by rw[vL];exact h.1,fun j p hj=>?_⟩
  have hjl:j<xs.length:=by have:=(List.getElem?_eq_some_iff.1 hj).1;rwa [vL]at this
  have hp:=CB hj
  exact⟨hp.symm,hR _ _ (h.2 j _ (List.getElem?_eq_getElem hjl))⟩
section
variable {α:Type}{d:Kd α}{e base n cc g:Nat}{ok ok' okp S:Nat->Prop}{w w1 W W1:World}{A:Option Addr}{u v v1:Value}{xs:List α}{x:α}{c:List Value}
def N {α:Type}(d:Kd α) (e:Nat) (w:World) (base:Nat) (ok:Nat->Prop) (v:Value) (xs:List α):Prop:=
  (∀k,v.ownBlock=some k->ok k)/\∃rows:List (List Value),rows.length=xs.length/\(raw d.sz).R e w base (fun k=>some k=v.ownBlock) v rows/\∀ (j:Nat) (x:α) (c:List Value),xs[j]? =some x->rows[j]? =some c->FK d w (fun k=>ok k/\some k≠v.ownBlock) x c
theorem R_N (h:d.R e w base ok v xs):N d e w base ok v xs:=by
  obtain⟨h0,inner,ho,hr⟩:=h
  refine⟨h0,chunks d.sz xs.length inner,vL _ _ _,⟨fun k hk=>hk.symm,inner,by rw[vL];exact ho,Jb hr (fun x c hp=>⟨d.K_len (d.K_of_M hp),d.K_one (d.K_of_M hp)⟩)⟩,fun j x c hx hc=>?_⟩
  rw[CB hc]
  exact Er (hr.2 j x hx)
theorem wF (d:Kd α) (e:Nat) (w:World) (base:Nat) (ok:Nat->Prop):N d e w base ok (.slice none 0 0) []:=R_N (sS _ _ _ _ _)
theorem J6 (h:N d e w base ok v xs) {t:Nat}{cells:Array Value}(hb:w.heap[g]? =some (.cells cells t (0,0))) (ht:e≠t):some g≠v.ownBlock:=by
  obtain⟨_,rows,_,hR,_⟩:=h
  exact lS hR hb ht
end
end Kd
end Go.Proofs.YtgeonpciodepgaaW.PrintWords
namespace Go.Proofs.YtgeonpciodepgaaW.PrintWords
open Go.RowKit
section
variable {P:Program}{d:Nat}{xs ys:Array Value}{f:Field}{fs:List Field}{a b:Value}{r s:Bool}{w:World}
theorem Gw (hn : (f.name == "_") = false) (ha : (part f.type xs f.offset).run P w = .ok a w) (hb : (part f.type ys f.offset).run P w = .ok b w) (he : (Op.equalIn d f.type a b).run P w = .ok r w) : (Op.eqFields d xs ys [f]).run P w = .ok r w := by
  have hn' : f.name ≠ "_" := by simpa using hn
  simp only [Op.eqFields,if_pos hn',Sem.run_bind,ha,hb,he,Result.andThen_ok]
  cases r<;>simp
theorem Gv (hn : (f.name == "_") = false) (ha : (part f.type xs f.offset).run P w = .ok a w) (hb : (part f.type ys f.offset).run P w = .ok b w) (he : (Op.equalIn d f.type a b).run P w = .ok r w) (hr : (Op.eqFields d xs ys fs).run P w = .ok s w) : (Op.eqFields d xs ys (f :: fs)).run P w = .ok (r && s) w := by
  have hn' : f.name ≠ "_" := by simpa using hn
  rw[Op.eqFields]
  simp only [if_pos hn',Sem.run_bind,ha,hb,he,Result.andThen_ok]
  cases r
  · simp
  simpa using hr
theorem Gn {t:TypeId}{fs:Array Field}(hu:P.underlying t=some (.struct fs)) (hp:P.stoodInHeld t=false) (h:(Op.eqFields d xs ys fs.toList).run P w=.ok r w):(Op.equalIn (d+1) t (.agg xs) (.agg ys)).run P w=.ok r w:=by
  have hf:P.fieldsOf t=fs:=by simp[Program.fieldsOf,hu]
  rw[run_equalIn_struct (P:=P) w d t xs ys (by rw[hf];exact hu) hp,hf]
  exact h
end
end Go.Proofs.YtgeonpciodepgaaW.PrintWords
namespace Go.Proofs.YtgeonpciodepgaaW.PrintLast
open Go.Proofs.YtgeonpciodepgaaW.PrintWords (jP)
def uS (md:Region.Mode) (o:Oper):List Nat:=(o.after.toList.filter (fun e=>Region.binds md e)).map (fun e=>e.on)
def yY (md:Region.Mode) (ops:Array Oper) (i:Nat) (oi:Oper):List Nat:=(List.range ops.size).filter fun j=> !(j==i)&&match ops[j]? with
  |some oj=> !(oj.after.any (fun e=>Region.binds md e&&e.on==i)||oi.apart ops oj)
  |none=>false
def mi (md:Region.Mode) (ops:Array Oper):Bool×List (List Nat×List Nat):=(Region.noSelect ops,(List.range ops.size).map fun i=>match ops[i]? with
  |some o=>(uS md o,yY md ops i o)
  |none=>([],[]))
def tO (T:List (List Nat×List Nat)) (l:List Bool) (i:Nat):Bool:= !l.getD i true&&match T[i]? with
  |some r=>r.1.all (fun j=>l.getD j false)
  |none=>false
def uW (T:List (List Nat×List Nat)) (l:List Bool):List Nat:=(List.range T.length).filter (tO T l)
def vO (T:List (List Nat×List Nat)) (l:List Bool) (i:Nat):Bool:=match T[i]? with
  |some r=>r.2.all (fun j=>l.getD j true)
  |none=>false
def xg (T:List (List Nat×List Nat)) (l:List Bool):Bool:=(List.range T.length).all fun j=> !l.getD j false||match T[j]? with
  |some r=>r.1.all (fun k=>l.getD k false)
  |none=>true
def uV (T:List (List Nat×List Nat)) (i:Nat):Nat->Nat->Bool
  |0,_=>false
  |fuel+1,d=>match T[d]? with
    |some r=>r.1.any fun j=>j==i||uV T i fuel j
    |none=>false
def lastT (T:List (List Nat×List Nat)) (l:List Bool) (ds:List Nat) (i:Nat):Bool:=ds.all fun d=>l.getD d true||uV T i T.length d
section
variable {md:Region.Mode}{ops:Array Oper}{T:Bool×List (List Nat×List Nat)}{l l' li lj lk:Array Bool}{ds:List Nat}{i j k:Nat}
theorem gd (l:Array Bool) (j:Nat) (b:Bool):l.getD j b=l.toList.getD j b:=by simp[Array.getD_eq_getD_getElem?,List.getD_eq_getElem?_getD]
theorem Dr (o:Oper) (p:Nat->Bool):o.after.all (fun e=> !Region.binds md e||p e.on)=(uS md o).all p:=by
  unfold uS
  rw[←Array.all_toList]
  induction o.after.toList with
  |nil=>rfl
  |cons e r ih=>
    rw[List.all_cons,ih,List.filter_cons]
    cases h:Region.binds md e<;>simp
theorem Im (o:Oper) (p:Nat->Bool):o.after.any (fun e=>Region.binds md e&&p e.on)=(uS md o).any p:=by
  unfold uS
  rw[←Array.any_toList]
  induction o.after.toList with
  |nil=>rfl
  |cons e r ih=>
    rw[List.any_cons,ih,List.filter_cons]
    cases h:Region.binds md e<;>simp
theorem xH:(mi md ops).2.length=ops.size:=by simp[mi]
theorem xJ {o:Oper}(h:ops[i]? =some o):(mi md ops).2[i]? =some (uS md o,yY md ops i o):=by
  have hi:=(Array.getElem?_eq_some_iff.1 h).1
  unfold mi
  rw[List.getElem?_map,List.getElem?_range hi,Option.map_some,h]
theorem xI (h:ops[i]? =none):(mi md ops).2[i]? =none:=by
  have hi:ops.size<=i:=Array.getElem?_eq_none_iff.1 h
  exact List.getElem?_eq_none (by rw[xH];exact hi)
theorem I9:tO (mi md ops).2 l.toList i=(!l.getD i true&&((ops[i]?).map (·.after.all fun e=> !Region.binds md e||l.getD e.on false)).getD false):=by
  unfold tO
  rw[gd]
  cases h:ops[i]? with
  |none=>rw[xI h];rfl
  |some o=>
    rw[xJ h]
    simp only [Option.map_some,Option.getD_some]
    rw[←Dr]
    simp only [gd]
theorem ready_eq:Region.ready md ops l=uW (mi md ops).2 l.toList:=by
  unfold Region.ready uW
  rw[xH]
  refine List.filter_congr (fun i _=>?_)
  rw[I9]
theorem free_eq:Region.free md ops l i=vO (mi md ops).2 l.toList i:=by
  unfold Region.free vO
  cases h:ops[i]? with
  |none=>rw[xI h]
  |some oi=>
    rw[xJ h]
    simp only [yY]
    rw[List.all_filter]
    congr 1
    funext j
    rw[gd]
    cases hj:ops[j]? with
    |none=>cases(j==i)<;>cases(l.toList.getD j true)<;>simp
    |some oj=>
      cases(j==i)<;>cases(l.toList.getD j true)<;>cases(oj.after.any (fun e=>Region.binds md e&&e.on==i)||oi.apart ops oj)<;>simp_all
theorem FR:Region.vM md ops l=xg (mi md ops).2 l.toList:=by
  unfold Region.vM xg
  rw[xH]
  congr 1
  funext j
  rw[gd]
  cases h:ops[j]? with
  |none=>rw[xI h]
  |some o=>
    rw[xJ h]
    simp only
    rw[←Dr]
    simp only [gd]
theorem DU:∀ (fuel d:Nat),Region.rq md ops i fuel d=uV (mi md ops).2 i fuel d
  |0,_=>rfl
  |fuel+1,d=>by
    unfold Region.rq uV
    cases h:ops[d]? with
    |none=>rw[xI h]
    |some o=>
      rw[xJ h]
      simp only
      rw[←Im]
      congr 1
      funext e
      rw[DU fuel]
theorem Hr:Region.lastB md ops l ds i=lastT (mi md ops).2 l.toList ds i:=by
  unfold Region.lastB lastT
  rw[xH]
  congr 1
  funext d
  rw[gd,DU]
theorem DX (h:tO T.2 l.toList i=true) (hT:mi md ops=T):(Region.ready md ops l).contains i=true:=by
  subst hT
  rw[ready_eq]
  unfold uW
  rw[List.contains_iff_mem,List.mem_filter,List.mem_range]
  refine⟨?_,h⟩
  unfold tO at h
  rw[Bool.and_eq_true]at h
  cases hq:(mi md ops).2[i]? with
  |none=>rw[hq]at h;simp at h
  |some r=>exact(List.getElem?_eq_some_iff.1 hq).1
theorem wo (h:(l.toList.set i true==l'.toList)=true):(l.setIfInBounds i true==l')=true:=by
  rw[beq_iff_eq]at h⊢
  apply Array.ext'
  rw[Array.toList_setIfInBounds]
  exact h
def Ay (T:Bool×List (List Nat×List Nat)) (l l':List Bool) (i:Nat):Bool:=T.1&&vO T.2 l i&&tO T.2 l i&&(l.set i true==l')
theorem wU (hT:mi md ops=T) (h:Ay T l.toList l'.toList i=true):sV md ops l l' i=true:=by
  simp only [Ay,Bool.and_eq_true]at h
  obtain⟨⟨⟨h1,h2⟩,h3⟩,h4⟩:=h
  have h5:=DX h3 hT
  have h6:=wo h4
  subst hT
  simp only [sV,Bool.and_eq_true]
  exact⟨⟨⟨h1,by rw[free_eq];exact h2⟩,h5⟩,h6⟩
def zG (T:Bool×List (List Nat×List Nat)) (ds:List Nat) (l l':List Bool) (i:Nat):Bool:=T.1&&vO T.2 l i&&tO T.2 l i&&xg T.2 l&&lastT T.2 l ds i&&(l.set i true==l')
theorem Jy (hT:mi md ops=T) (h:zG T ds l.toList l'.toList i=true):takeB md ops ds l l' i=true:=by
  simp only [zG,Bool.and_eq_true]at h
  obtain⟨⟨⟨⟨⟨h1,h2⟩,h3⟩,h4⟩,h5⟩,h6⟩:=h
  have h7:=DX h3 hT
  have h8:=wo h6
  subst hT
  simp only [takeB,Bool.and_eq_true]
  exact⟨⟨⟨⟨⟨h1,by rw[free_eq];exact h2⟩,h7⟩,by rw[FR];exact h4⟩,by rw[Hr];exact h5⟩,h8⟩
theorem qN (hT:mi md ops=T) (h:(uW T.2 l.toList==[i]&&l.toList.set i true==l'.toList)=true):sN md ops l l' i=true:=by
  simp only [Bool.and_eq_true]at h
  obtain⟨h1,h2⟩:=h
  subst hT
  simp only [sN,Bool.and_eq_true]
  exact⟨by rw[ready_eq];exact h1,wo h2⟩
theorem uB (hT:mi md ops=T) (h:(uW T.2 l.toList==[i,j]&&l.toList.set i true==li.toList&&l.toList.set j true==lj.toList)=true):(Region.ready md ops l==[i,j]&&l.setIfInBounds i true==li&&l.setIfInBounds j true==lj)=true:=by
  simp only [Bool.and_eq_true]at h⊢
  obtain⟨⟨h1,h2⟩,h3⟩:=h
  subst hT
  exact⟨⟨by rw[ready_eq];exact h1,wo h2⟩,wo h3⟩
theorem mV (hT:mi md ops=T) (h:(uW T.2 l.toList==[])=true):(Region.ready md ops l==[])=true:=by
  subst hT
  rw[ready_eq]
  exact h
def upM (B:List Nat) (d:Nat):List Nat->Nat
  |[]=>0
  |n::r=>(2^n|||(if n<d then B.getD n 0 else 0))|||upM B d r
def nY (T:List (List Nat×List Nat)) (B:List Nat):Bool:=(List.range T.length).all fun d=>match T[d]? with
  |some r=>(B.getD d 0|||upM B d r.1)==upM B d r.1
  |none=>false
theorem El {B:List Nat}{d i:Nat}:∀ {ns:List Nat},(upM B d ns).testBit i=true->∃n∈ns,n=i\/(n<d/\(B.getD n 0).testBit i=true)
  |[],h=>by simp[upM]at h
  |n::r,h=>by
    unfold upM at h
    rw[Nat.testBit_or,Nat.testBit_or,Bool.or_eq_true,Bool.or_eq_true]at h
    rcases h with(h|h)|h
    · rw[Nat.testBit_two_pow]at h
      exact⟨n,List.mem_cons_self,.inl (by simpa using h)⟩
    · by_cases hn:n<d
      · rw[if_pos hn]at h
        exact⟨n,List.mem_cons_self,.inr ⟨hn,h⟩⟩
      rw[if_neg hn]at h
      simp at h
    obtain⟨m,hm,h2⟩:=El h
    exact⟨m,List.mem_cons_of_mem _ hm,h2⟩
theorem DR {T:List (List Nat×List Nat)}{B:List Nat}(hB:nY T B=true):∀ (fuel d:Nat),d<fuel->d<T.length->(B.getD d 0).testBit i=true->uV T i fuel d=true
  |0,d,h,_,_=>by omega
  |fuel+1,d,h,hd,hb=>by
    have h1:=List.all_eq_true.1 hB d (List.mem_range.2 hd)
    cases hr:T[d]? with
    |none=>rw[hr]at h1;simp at h1
    |some r=>
      rw[hr]at h1
      simp only [beq_iff_eq]at h1
      have h2:(upM B d r.1).testBit i=true:=by rw[←h1,Nat.testBit_or,hb,Bool.true_or]
      obtain⟨n,hn,h3⟩:=El h2
      unfold uV
      rw[hr]
      simp only
      rw[List.any_eq_true]
      refine⟨n,hn,?_⟩
      rcases h3 with rfl|⟨h4,h5⟩
      · simp
      rw[DR hB fuel n (by omega) (by omega) h5,Bool.or_true]
def Df (T:List (List Nat×List Nat)) (B:List Nat) (l:List Bool) (ds:List Nat) (i:Nat):Bool:=ds.all fun d=>l.getD d true||(decide (d<T.length)&&(B.getD d 0).testBit i)
def Ed (T:Bool×List (List Nat×List Nat)) (B:List Nat) (ds:List Nat) (l l':List Bool) (i:Nat):Bool:=T.1&&vO T.2 l i&&tO T.2 l i&&xg T.2 l&&Df T.2 B l ds i&&(l.set i true==l')
theorem qp {B:List Nat}(hT:mi md ops=T) (hB:nY T.2 B=true) (h:Ed T B ds l.toList l'.toList i=true):takeB md ops ds l l' i=true:=by
  refine Jy hT ?_
  simp only [Ed,zG,Bool.and_eq_true]at h⊢
  obtain⟨⟨⟨⟨⟨h1,h2⟩,h3⟩,h4⟩,h5⟩,h6⟩:=h
  refine⟨⟨⟨⟨⟨h1,h2⟩,h3⟩,h4⟩,?_⟩,h6⟩
  unfold Df at h5
  unfold lastT
  rw[List.all_eq_true]at h5⊢
  intro d hd
  have h7:=h5 d hd
  rw[Bool.or_eq_true,Bool.and_eq_true,decide_eq_true_eq]at h7
  rcases h7 with h7|⟨h8,h9⟩
  · rw[h7,Bool.true_or]
  rw[DR hB _ d h8 h8 h9,Bool.or_true]
theorem zO {P:Program}{Q:Exit->Act->World->Prop}{S:World->Prop}{n:Nat}{a:Act}{w:World}{B:List Nat}(hT:mi md ops=T) (hB:nY T.2 B=true) (h:jP (mi md ops=T)->jP (nY T.2 B=true)->kY P md ops Q S ds n l a w):kY P md ops Q S ds n l a w:=h ⟨hT⟩ ⟨hB⟩
end
def rZ:Code->Nat->Option (Array Oper)
  | .region id ops _,k=>if id==k then some ops else none
  | .seq a b,k=>match rZ a k with
    |some o=>some o
    |none=>rZ b k
  | .cond _ a b,k=>match rZ a k with
    |some o=>some o
    |none=>rZ b k
  | .block _ c,k=>rZ c k
  | .loop c,k=>rZ c k
  | .scope c,k=>rZ c k
  | .rangeFunc _ _ a b,k=>match rZ a k with
    |some o=>some o
    |none=>rZ b k
  |_,_=>none
def opsOf (f:Func) (k:Nat):Array Oper:=((f.body.bind fun c=>rZ c k)).getD #[]
end Go.Proofs.YtgeonpciodepgaaW.PrintLast
namespace Go.Proofs.YtgeonpciodepgaaW.PrintWords
open Go.RowKit
section
variable {P:Program}{ops:Array Oper}{rest:List Oper}{o:Oper}{a:Act}{Q:Exit->Act->World->Prop}{W:World}
theorem mZ (hw:Region.wanted o (yielded ops a.tmps)=true) (h:wpList P ops Q ({o with guard:=none}::rest) a W):wpList P ops Q (o::rest) a W:=by
  have h1:Region.wanted {o with guard:=none} (yielded ops a.tmps)=true:=rfl
  unfold wpList at h⊢
  rw[if_pos h1]at h
  rw[if_pos hw]
  exact h
end
end Go.Proofs.YtgeonpciodepgaaW.PrintWords
namespace Go.Proofs.YtgeonpciodepgaaW.PrintMore
open Go.RowKit Go.Proofs.YtgeonpciodepgaaW.PrintWords
namespace Kd
open Go.Proofs.YtgeonpciodepgaaW.PrintWords.Kd
section
variable {α:Type}{d:Kd α}{e base g N:Nat}{ok:Nat->Prop}{W w1:World}{u v:Value}{xs:List α}
theorem J9 (hu:d.R e W base (fun k=>ok k/\k≠g) u xs) (hk:lQ W w1 g none):d.R e w1 base (fun k=>ok k/\k<W.heap.size) u xs:=
  kz (Ai (qw hu) hk (fun _ h=>h.1.2)) (fun _ h=>⟨h.1.1,h.2.2.1⟩)
theorem J_ (h:d.R e w1 base (fun k=>ok k/\k<N) u xs) (hbase:∀k,v.ownBlock=some k->N<=k):d.R e w1 base (fun k=>(ok k/\some k≠v.ownBlock)/\k<N) u xs:=
  kz h (fun k hk=>⟨⟨hk.1,fun e=>Nat.lt_irrefl _ (Nat.lt_of_lt_of_le hk.2 (hbase k e.symm))⟩,hk.2⟩)
end
end Kd
theorem vQ (k k':IntKind) (x y:Int):Builtin.max2 (.int k x) (.int k' y)=pure (.int k (if x<y then y else x)):=by simp only [Builtin.max2,gt_iff_lt]
theorem vU (k k':IntKind) (x y:Int):Builtin.min2 (.int k x) (.int k' y)=pure (.int k (if y<x then y else x)):=by simp only [Builtin.min2]
theorem vT (ats:Array TypeId) (ty:TypeId) (a b:Value):Builtin.max_ ats ty #[a,b]=(Builtin.max2 a b>>= fun s=>pure s):=by simp only [Builtin.max_,List.foldlM_cons,List.foldlM_nil]
theorem vX (ats:Array TypeId) (ty:TypeId) (a b:Value):Builtin.min_ ats ty #[a,b]=(Builtin.min2 a b>>= fun s=>pure s):=by simp only [Builtin.min_,List.foldlM_cons,List.foldlM_nil]
theorem vS (ats:Array TypeId) (ty:TypeId) (a b c:Value):Builtin.max_ ats ty #[a,b,c]=(Builtin.max2 a b>>= fun s=>Builtin.max2 s c>>= fun s=>pure s):=by simp only [Builtin.max_,List.foldlM_cons,List.foldlM_nil]
theorem vW (ats:Array TypeId) (ty:TypeId) (a b c:Value):Builtin.min_ ats ty #[a,b,c]=(Builtin.min2 a b>>= fun s=>Builtin.min2 s c>>= fun s=>pure s):=by simp only [Builtin.min_,List.foldlM_cons,List.foldlM_nil]
theorem vR (ats:Array TypeId) (ty:TypeId) (a b c d:Value):Builtin.max_ ats ty #[a,b,c,d]=(Builtin.max2 a b>>= fun s=>Builtin.max2 s c>>= fun s=>Builtin.max2 s d>>= fun s=>pure s):=by simp only [Builtin.max_,List.foldlM_cons,List.foldlM_nil]
theorem vV (ats:Array TypeId) (ty:TypeId) (a b c d:Value):Builtin.min_ ats ty #[a,b,c,d]=(Builtin.min2 a b>>= fun s=>Builtin.min2 s c>>= fun s=>Builtin.min2 s d>>= fun s=>pure s):=by simp only [Builtin.min_,List.foldlM_cons,List.foldlM_nil]
end Go.Proofs.YtgeonpciodepgaaW.PrintMore
namespace Go.Proofs.YtgeonpciodepgaaW.PrintWords
open Go.RowKit
section
variable {P:Program}{ops:Array Oper}{rest:List Oper}{o:Oper}{a:Act}{Q:Exit->Act->World->Prop}{W:World}
theorem xq {f:FuncId}{as_:Array Operand}{ts:Array TypeId}(_ho:o.op=.call {callee:=.value (.func f),args:=as_,argTypes:=ts}) (h:wpList P ops Q (o::rest) a W):wpList P ops Q (o::rest) a W:=h
theorem oh {b:Builtin}{xs:Array Operand}{ts:Array TypeId}(_ho:o.op=.call {callee:=.builtin b,args:=xs,argTypes:=ts}) (h:wpList P ops Q (o::rest) a W):wpList P ops Q (o::rest) a W:=h
end
def mx (a b:Int):Int:=if a<b then b else a
def mn (a b:Int):Int:=if b<a then b else a
def shl (k:IntKind) (x y:Int):Int:=k.wrap (x*2^min y.toNat k.bits)
def shr (k:IntKind) (x y:Int):Int:=x/2^min y.toNat k.bits
theorem CK (w:World) (n:Nat):w.drewN n=w.drewN n:=rfl
namespace Kd
section
variable {α:Type}{d:Kd α}{e base:Nat}{ok:Nat->Prop}{W w1:World}{v:Value}{xs:List α}
theorem EJ (h:d.R e W base ok v xs) (hE:d.E=[]) {row:Option Nat}(hg:W.grownBy w1 row) (hne:row≠v.ownBlock):d.R e w1 base ok v xs:=
  kz (EI (sU hE h) hg (fun _ hk e_=>hne (e_.symm.trans hk))) (fun k hk=>h.1 k hk.symm)
end
section
variable {α:Type}{d:Kd α}{e base b b' g N:Nat}{ok ok1:Nat->Prop}{W W2 w1:World}{u v:Value}{xs ys:List α}{S:Nat->Prop}
theorem Ak (hE:d.E=[]) (h:d.R e W base ok1 v xs) (hok:∀k,v.ownBlock=some k->ok k):d.R e W base ok v xs:=kz (sU hE h) (fun k hk=>hok k hk.symm)
theorem wL (h:d.R e W base ok v xs) (hk:Kept W W2 S) (hne:∀k,ok k->¬S k):d.R e W2 base (fun k=>ok k/\(¬S k/\k<W.heap.size)) v xs:=
  EK (kz (qw h) (fun k hk=>⟨hk.1,hne k hk.1,hk.2.2.1⟩)) hk (fun _ hk=>hk.2.1)
theorem vk (h:Kd.S d e W base ok v xs) (hk:Kept W W2 S) (hne:∀k,ok k->¬S k):Kd.S d e W2 base (fun k=>ok k/\(¬S k/\k<W.heap.size)) v xs:=
  EP (nW (wO h) (fun k hk=>⟨hk.1,hne k hk.1,hk.2.2.1⟩)) hk (fun _ hk=>hk.2.1)
end
end Kd
end Go.Proofs.YtgeonpciodepgaaW.PrintWords
namespace Go.Proofs.YtgeonpciodepgaaW.PrintWords
open Go.RowKit
namespace Kd
def V {α:Type}(d:Kd α) (_e:Nat) (W:World) (_base:Nat) (ok:Nat->Prop) (v:Value) (xs:List α):Prop:=∃A c,v=.slice A xs.length c/\xs.length<=c/\F d W ok A xs.length xs
section
variable {α β:Type}{d:Kd α}{e base base' n m c g N' lo hi:Nat}{ok ok' S:Nat->Prop}{w W w1:World}{A:Option Addr}{ad:Addr}{u v v1:Value}{xs:List α}
theorem uE (h:V d e W base ok v xs) (hF:∀A,F d W ok A xs.length xs->F d w1 ok' A xs.length xs):V d e w1 base' ok' v xs:=by
  obtain⟨A,c,hv,hl,hf⟩:=h
  exact⟨A,c,hv,hl,hF A hf⟩
theorem wT (d:Kd α) (e:Nat) (W:World) (base:Nat) (ok:Nat->Prop):V d e W base ok (.slice none 0 0) []:=⟨none,0,rfl,Nat.le_refl _,Ex d W ok⟩
theorem R_V (h:d.R e W base ok v xs):V d e W base' ok v xs:=by
  obtain⟨A,c,rfl⟩:=kK h
  exact⟨A,c,rfl,(kr h).2.1,R_F h⟩
theorem EW (h:V d e W base ok v xs) (hok:∀k,ok k->ok' k):V d e W base ok' v xs:=uE h (fun _ hf=>zT hf hok)
theorem ET (h:V d e W base ok v xs) (hb:Below W.heap.size W w1):V d e w1 base ok v xs:=uE h (fun _ hf=>wE hf hb)
theorem ym (h:V d e W base ok v xs) (o:Obj):V d e (W.alloc o) base ok v xs:=uE h (fun _ hf=>Es hf o)
theorem yn (h:V d e W base ok v xs):V d e W.drew base ok v xs:=uE h (fun _ hf=>Et hf)
theorem yo (h:V d e W base ok v xs) (m:Nat):V d e (W.drewN m) base ok v xs:=uE h (fun _ hf=>Eu hf m)
theorem EU (h:V d e W base ok v xs) (hbase:∀k,u.ownBlock=some k->W.heap.size<=k) (hb:Below W.heap.size W w1):V d e w1 base (fun k=>ok k/\some k≠u.ownBlock) v xs:=uE h (fun _ hf=>Ew hf hbase hb)
end
end Kd
end Go.Proofs.YtgeonpciodepgaaW.PrintWords
namespace Go.Proofs.YtgeonpciodepgaaW.PrintWords
theorem kF.one {α:Type}{R:α->List Value->Prop}{ps:List α}{cs:List Value}{p:α}{v:Value}(hp:R p [v]) (h:kF R 1 ps cs):kF R 1 (p::ps) (v::cs):=by
  refine⟨by simp[h.1],fun j q hq=>?_⟩
  cases j with
  |zero=>
    simp only [List.getElem?_cons_zero,Option.some.injEq]at hq
    subst hq
    simpa using hp
  |succ j=>
    simp only [List.getElem?_cons_succ]at hq
    have h1:=h.2 j q hq
    simpa [Nat.mul_one] using h1
theorem kF.front {α:Type}{R:α->List Value->Prop}{size:Nat}{ps:List α}{cs c all:List Value}{p:α}(hp:R p c) (hc:c.length=size) (h:kF R size ps cs) (ha:c++cs=all):kF R size (p::ps) all:=by
  subst ha
  refine⟨by rw[List.length_append,hc,h.1,List.length_cons,Nat.succ_mul,Nat.add_comm],fun j q hq=>?_⟩
  cases j with
  |zero=>
    simp only [List.getElem?_cons_zero,Option.some.injEq]at hq
    subst hq
    rw[Nat.zero_mul,List.drop_zero,List.take_append_of_le_length (by omega),List.take_of_length_le (by omega)]
    exact hp
  |succ j=>
    simp only [List.getElem?_cons_succ]at hq
    have h1:=h.2 j q hq
    rw[Nat.succ_mul,List.drop_append,List.drop_of_length_le (by rw[hc];exact Nat.le_add_left _ _),List.nil_append,hc,Nat.add_sub_cancel]
    exact h1
theorem kF.c2 {α:Type}{R:α->List Value->Prop}{ps:List α}{cs:List Value}{p:α}{va vb:Value}(hp:R p [va,vb]) (h:kF R 2 ps cs):kF R 2 (p::ps) (va::vb::cs):=kF.front hp rfl h rfl
theorem kF.c3 {α:Type}{R:α->List Value->Prop}{ps:List α}{cs:List Value}{p:α}{va vb vc:Value}(hp:R p [va,vb,vc]) (h:kF R 3 ps cs):kF R 3 (p::ps) (va::vb::vc::cs):=kF.front hp rfl h rfl
theorem kF.c4 {α:Type}{R:α->List Value->Prop}{ps:List α}{cs:List Value}{p:α}{va vb vc vd:Value}(hp:R p [va,vb,vc,vd]) (h:kF R 4 ps cs):kF R 4 (p::ps) (va::vb::vc::vd::cs):=kF.front hp rfl h rfl
theorem kF.c5 {α:Type}{R:α->List Value->Prop}{ps:List α}{cs:List Value}{p:α}{va vb vc vd ve:Value}(hp:R p [va,vb,vc,vd,ve]) (h:kF R 5 ps cs):kF R 5 (p::ps) (va::vb::vc::vd::ve::cs):=kF.front hp rfl h rfl
theorem kF.c6 {α:Type}{R:α->List Value->Prop}{ps:List α}{cs:List Value}{p:α}{va vb vc vd ve vf:Value}(hp:R p [va,vb,vc,vd,ve,vf]) (h:kF R 6 ps cs):kF R 6 (p::ps) (va::vb::vc::vd::ve::vf::cs):=kF.front hp rfl h rfl
theorem kF.c7 {α:Type}{R:α->List Value->Prop}{ps:List α}{cs:List Value}{p:α}{va vb vc vd ve vf vg:Value}(hp:R p [va,vb,vc,vd,ve,vf,vg]) (h:kF R 7 ps cs):kF R 7 (p::ps) (va::vb::vc::vd::ve::vf::vg::cs):=kF.front hp rfl h rfl
theorem kF.c8 {α:Type}{R:α->List Value->Prop}{ps:List α}{cs:List Value}{p:α}{va vb vc vd ve vf vg vh:Value}(hp:R p [va,vb,vc,vd,ve,vf,vg,vh]) (h:kF R 8 ps cs):kF R 8 (p::ps) (va::vb::vc::vd::ve::vf::vg::vh::cs):=kF.front hp rfl h rfl
theorem kF.c9 {α:Type}{R:α->List Value->Prop}{ps:List α}{cs:List Value}{p:α}{va vb vc vd ve vf vg vh vi:Value}(hp:R p [va,vb,vc,vd,ve,vf,vg,vh,vi]) (h:kF R 9 ps cs):kF R 9 (p::ps) (va::vb::vc::vd::ve::vf::vg::vh::vi::cs):=kF.front hp rfl h rfl
theorem kF.c10 {α:Type}{R:α->List Value->Prop}{ps:List α}{cs:List Value}{p:α}{va vb vc vd ve vf vg vh vi vj:Value}(hp:R p [va,vb,vc,vd,ve,vf,vg,vh,vi,vj]) (h:kF R 10 ps cs):kF R 10 (p::ps) (va::vb::vc::vd::ve::vf::vg::vh::vi::vj::cs):=kF.front hp rfl h rfl
end Go.Proofs.YtgeonpciodepgaaW.PrintWords
namespace Go.Proofs.Ytgeonpciodepgaa.G
open Go.Proofs.YtgeonpciodepgaaW.PrintWords
structure Tie where
 f0:Int
 f1:Int
deriving DecidableEq
theorem RV2 {α:Type}{d:Kd α}{e base base' base0:Nat}{W:World}{v:Value}{xs:List α}{P Q:Nat->Prop}(h:Kd.R d e W base (fun k=>base0<=k/\Q k) v xs):Kd.V d e W base' (fun k=>(P k\/base0<=k)/\Q k) v xs:=
 Kd.EW (Kd.R_V h) (fun _ hk=>⟨.inr hk.1,hk.2⟩)
end Go.Proofs.Ytgeonpciodepgaa.G
namespace Go.Proofs.Ytgeonpciodepgaa.P
open Go.RowKit Go.Proofs.YtgeonpciodepgaaW.PrintWords Go.Proofs.YtgeonpciodepgaaW.PrintLast Go.Proofs.YtgeonpciodepgaaW.PrintWords.Kd
variable {p:Prop}
def lJ (n b:Nat):Array Bool:=((List.range n).map fun i=>b.testBit i).toArray
section
variable {P:Program}{md:Region.Mode}{ops:Array Oper}{Q:Exit->Act->World->Prop}{S:World->Prop}{ds:List Nat}
theorem jW {fuel n b0:Nat}{a:Act}{w:World}{oi:Oper}{v:Value}{a':Act}(i:Nat) (N:Tmp) (b:Nat) (h:kY P md ops Q S ds fuel (lJ n b) a' w)
  (hi:ops[i]? =some oi:=by rfl) (hN:oi.dst=some N:=by rfl) (hc:sV md ops (lJ n b0) (lJ n b) i=true:=by first|exact wU HT_.out (by kernel_rfl)|kernel_rfl)
  (hQ:∀c a w,Q (.panic c) (a.put oi.dst v) w->Q (.panic c) a w:=by exact fun _ _ _ h=>h) (hy:Yields P ops oi v a:=by exact Or.inl ⟨by rfl,by(intro w';go_simp;with_reducible rfl)⟩)
  (ha:a.put (some N) v=a':=by first|(simp only [Act.put,List.setIfInBounds_toArray,List.set_cons_zero,List.set_cons_succ,mh,mP];rfl)|rfl):kY P md ops Q S ds (fuel+1) (lJ n b0) a w:=
 xE (lJ n b) hi hN hc hQ hy ha h
theorem l5 {fuel n b0:Nat}{a:Act}{w:World}{oi:Oper}{a':Act}(i:Nat) (N:Tmp) (b:Nat) (h:kY P md ops Q S ds fuel (lJ n b) a' w)
  (hi:ops[i]? =some oi:=by rfl) (hN:oi.dst=some N:=by rfl) (hc:sV md ops (lJ n b0) (lJ n b) i=true:=by first|exact wU HT_.out (by kernel_rfl)|kernel_rfl)
  (hQ:∀c a w,Q (.panic c) (a.put oi.dst undef) w->Q (.panic c) a w:=by exact fun _ _ _ h=>h) (hy:Yields P ops oi undef a:=by exact Or.inr ⟨by rfl,rfl⟩)
  (ha:a.put (some N) undef=a':=by first|(simp only [Act.put,List.setIfInBounds_toArray,List.set_cons_zero,List.set_cons_succ,mh,mP];rfl)|rfl):kY P md ops Q S ds (fuel+1) (lJ n b0) a w:=
 xE (lJ n b) hi hN hc hQ hy ha h
theorem ta0 {fuel n b0:Nat}{a:Act}{w:World}{oi:Oper}{v:Value}{a':Act}(i:Nat) (N:Tmp) (b:Nat) (h:kY P md ops Q S ds fuel (lJ n b) a' w)
  (hi:ops[i]? =some oi:=by rfl) (hN:oi.dst=some N:=by rfl) (hc:takeB md ops ds (lJ n b0) (lJ n b) i=true:=by first|exact qp HT_.out HW_.out (by kernel_rfl)|kernel_rfl)
  (hQ:∀c a w,Q (.panic c) (a.put oi.dst v) w->Q (.panic c) a w:=by exact fun _ _ _ h=>h) (hy:YieldsIf P ops S oi v a:=by exact Or.inl ⟨by rfl,by(intro w' _;go_simp;with_reducible rfl)⟩) (hS:S w:=by exact hHeld)
  (ha:a.put (some N) v=a':=by first|(simp only [Act.put,List.setIfInBounds_toArray,List.set_cons_zero,List.set_cons_succ,mh,mP];rfl)|rfl):kY P md ops Q S ds (fuel+1) (lJ n b0) a w:=
 o9 (lJ n b) hi hN hc hQ hy hS ha h
theorem ta1 {fuel n b0:Nat}{a:Act}{w:World}{oi:Oper}{v:Value}{a':Act}(i:Nat) (N:Tmp) (b:Nat) (h:kY P md ops Q S ds fuel (lJ n b) a' w)
  (hi:ops[i]? =some oi:=by rfl) (hN:oi.dst=some N:=by rfl) (hc:takeB md ops ds (lJ n b0) (lJ n b) i=true:=by first|exact qp HT_.out HW_.out (by kernel_rfl)|kernel_rfl)
  (hQ:∀c a w,Q (.panic c) (a.put oi.dst v) w->Q (.panic c) a w:=by exact fun _ _ _ h=>h) (hy:YieldsIf P ops S oi v a:=by exact Or.inl ⟨by rfl,by(intro w' s0;go_simp;with_reducible rfl)⟩) (hS:S w:=by exact hHeld)
  (ha:a.put (some N) v=a':=by first|(simp only [Act.put,List.setIfInBounds_toArray,List.set_cons_zero,List.set_cons_succ,mh,mP];rfl)|rfl):kY P md ops Q S ds (fuel+1) (lJ n b0) a w:=
 o9 (lJ n b) hi hN hc hQ hy hS ha h
theorem ta2 {fuel n b0:Nat}{a:Act}{w:World}{oi:Oper}{v:Value}{a':Act}(i:Nat) (N:Tmp) (b:Nat) (h:kY P md ops Q S ds fuel (lJ n b) a' w)
  (hi:ops[i]? =some oi:=by rfl) (hN:oi.dst=some N:=by rfl) (hc:takeB md ops ds (lJ n b0) (lJ n b) i=true:=by first|exact qp HT_.out HW_.out (by kernel_rfl)|kernel_rfl)
  (hQ:∀c a w,Q (.panic c) (a.put oi.dst v) w->Q (.panic c) a w:=by exact fun _ _ _ h=>h) (hy:YieldsIf P ops S oi v a:=by exact Or.inl ⟨by rfl,by(rintro w' ⟨s0,s1⟩;go_simp;with_reducible rfl)⟩) (hS:S w:=by exact hHeld)
  (ha:a.put (some N) v=a':=by first|(simp only [Act.put,List.setIfInBounds_toArray,List.set_cons_zero,List.set_cons_succ,mh,mP];rfl)|rfl):kY P md ops Q S ds (fuel+1) (lJ n b0) a w:=
 o9 (lJ n b) hi hN hc hQ hy hS ha h
theorem ta3 {fuel n b0:Nat}{a:Act}{w:World}{oi:Oper}{v:Value}{a':Act}(i:Nat) (N:Tmp) (b:Nat) (h:kY P md ops Q S ds fuel (lJ n b) a' w)
  (hi:ops[i]? =some oi:=by rfl) (hN:oi.dst=some N:=by rfl) (hc:takeB md ops ds (lJ n b0) (lJ n b) i=true:=by first|exact qp HT_.out HW_.out (by kernel_rfl)|kernel_rfl)
  (hQ:∀c a w,Q (.panic c) (a.put oi.dst v) w->Q (.panic c) a w:=by exact fun _ _ _ h=>h) (hy:YieldsIf P ops S oi v a:=by exact Or.inl ⟨by rfl,by(rintro w' ⟨s0,s1,s2⟩;go_simp;with_reducible rfl)⟩) (hS:S w:=by exact hHeld)
  (ha:a.put (some N) v=a':=by first|(simp only [Act.put,List.setIfInBounds_toArray,List.set_cons_zero,List.set_cons_succ,mh,mP];rfl)|rfl):kY P md ops Q S ds (fuel+1) (lJ n b0) a w:=
 o9 (lJ n b) hi hN hc hQ hy hS ha h
theorem ta4 {fuel n b0:Nat}{a:Act}{w:World}{oi:Oper}{v:Value}{a':Act}(i:Nat) (N:Tmp) (b:Nat) (h:kY P md ops Q S ds fuel (lJ n b) a' w)
  (hi:ops[i]? =some oi:=by rfl) (hN:oi.dst=some N:=by rfl) (hc:takeB md ops ds (lJ n b0) (lJ n b) i=true:=by first|exact qp HT_.out HW_.out (by kernel_rfl)|kernel_rfl)
  (hQ:∀c a w,Q (.panic c) (a.put oi.dst v) w->Q (.panic c) a w:=by exact fun _ _ _ h=>h) (hy:YieldsIf P ops S oi v a:=by exact Or.inl ⟨by rfl,by(rintro w' ⟨s0,s1,s2,s3⟩;go_simp;with_reducible rfl)⟩) (hS:S w:=by exact hHeld)
  (ha:a.put (some N) v=a':=by first|(simp only [Act.put,List.setIfInBounds_toArray,List.set_cons_zero,List.set_cons_succ,mh,mP];rfl)|rfl):kY P md ops Q S ds (fuel+1) (lJ n b0) a w:=
 o9 (lJ n b) hi hN hc hQ hy hS ha h
theorem ta5 {fuel n b0:Nat}{a:Act}{w:World}{oi:Oper}{v:Value}{a':Act}(i:Nat) (N:Tmp) (b:Nat) (h:kY P md ops Q S ds fuel (lJ n b) a' w)
  (hi:ops[i]? =some oi:=by rfl) (hN:oi.dst=some N:=by rfl) (hc:takeB md ops ds (lJ n b0) (lJ n b) i=true:=by first|exact qp HT_.out HW_.out (by kernel_rfl)|kernel_rfl)
  (hQ:∀c a w,Q (.panic c) (a.put oi.dst v) w->Q (.panic c) a w:=by exact fun _ _ _ h=>h) (hy:YieldsIf P ops S oi v a:=by exact Or.inl ⟨by rfl,by(rintro w' ⟨s0,s1,s2,s3,s4⟩;go_simp;with_reducible rfl)⟩) (hS:S w:=by exact hHeld)
  (ha:a.put (some N) v=a':=by first|(simp only [Act.put,List.setIfInBounds_toArray,List.set_cons_zero,List.set_cons_succ,mh,mP];rfl)|rfl):kY P md ops Q S ds (fuel+1) (lJ n b0) a w:=
 o9 (lJ n b) hi hN hc hQ hy hS ha h
theorem ta6 {fuel n b0:Nat}{a:Act}{w:World}{oi:Oper}{v:Value}{a':Act}(i:Nat) (N:Tmp) (b:Nat) (h:kY P md ops Q S ds fuel (lJ n b) a' w)
  (hi:ops[i]? =some oi:=by rfl) (hN:oi.dst=some N:=by rfl) (hc:takeB md ops ds (lJ n b0) (lJ n b) i=true:=by first|exact qp HT_.out HW_.out (by kernel_rfl)|kernel_rfl)
  (hQ:∀c a w,Q (.panic c) (a.put oi.dst v) w->Q (.panic c) a w:=by exact fun _ _ _ h=>h) (hy:YieldsIf P ops S oi v a:=by exact Or.inl ⟨by rfl,by(rintro w' ⟨s0,s1,s2,s3,s4,s5⟩;go_simp;with_reducible rfl)⟩) (hS:S w:=by exact hHeld)
  (ha:a.put (some N) v=a':=by first|(simp only [Act.put,List.setIfInBounds_toArray,List.set_cons_zero,List.set_cons_succ,mh,mP];rfl)|rfl):kY P md ops Q S ds (fuel+1) (lJ n b0) a w:=
 o9 (lJ n b) hi hN hc hQ hy hS ha h
theorem ta7 {fuel n b0:Nat}{a:Act}{w:World}{oi:Oper}{v:Value}{a':Act}(i:Nat) (N:Tmp) (b:Nat) (h:kY P md ops Q S ds fuel (lJ n b) a' w)
  (hi:ops[i]? =some oi:=by rfl) (hN:oi.dst=some N:=by rfl) (hc:takeB md ops ds (lJ n b0) (lJ n b) i=true:=by first|exact qp HT_.out HW_.out (by kernel_rfl)|kernel_rfl)
  (hQ:∀c a w,Q (.panic c) (a.put oi.dst v) w->Q (.panic c) a w:=by exact fun _ _ _ h=>h) (hy:YieldsIf P ops S oi v a:=by exact Or.inl ⟨by rfl,by(rintro w' ⟨s0,s1,s2,s3,s4,s5,s6⟩;go_simp;with_reducible rfl)⟩) (hS:S w:=by exact hHeld)
  (ha:a.put (some N) v=a':=by first|(simp only [Act.put,List.setIfInBounds_toArray,List.set_cons_zero,List.set_cons_succ,mh,mP];rfl)|rfl):kY P md ops Q S ds (fuel+1) (lJ n b0) a w:=
 o9 (lJ n b) hi hN hc hQ hy hS ha h
theorem ta8 {fuel n b0:Nat}{a:Act}{w:World}{oi:Oper}{v:Value}{a':Act}(i:Nat) (N:Tmp) (b:Nat) (h:kY P md ops Q S ds fuel (lJ n b) a' w)
  (hi:ops[i]? =some oi:=by rfl) (hN:oi.dst=some N:=by rfl) (hc:takeB md ops ds (lJ n b0) (lJ n b) i=true:=by first|exact qp HT_.out HW_.out (by kernel_rfl)|kernel_rfl)
  (hQ:∀c a w,Q (.panic c) (a.put oi.dst v) w->Q (.panic c) a w:=by exact fun _ _ _ h=>h) (hy:YieldsIf P ops S oi v a:=by exact Or.inl ⟨by rfl,by(rintro w' ⟨s0,s1,s2,s3,s4,s5,s6,s7⟩;go_simp;with_reducible rfl)⟩) (hS:S w:=by exact hHeld)
  (ha:a.put (some N) v=a':=by first|(simp only [Act.put,List.setIfInBounds_toArray,List.set_cons_zero,List.set_cons_succ,mh,mP];rfl)|rfl):kY P md ops Q S ds (fuel+1) (lJ n b0) a w:=
 o9 (lJ n b) hi hN hc hQ hy hS ha h
theorem ta9 {fuel n b0:Nat}{a:Act}{w:World}{oi:Oper}{v:Value}{a':Act}(i:Nat) (N:Tmp) (b:Nat) (h:kY P md ops Q S ds fuel (lJ n b) a' w)
  (hi:ops[i]? =some oi:=by rfl) (hN:oi.dst=some N:=by rfl) (hc:takeB md ops ds (lJ n b0) (lJ n b) i=true:=by first|exact qp HT_.out HW_.out (by kernel_rfl)|kernel_rfl)
  (hQ:∀c a w,Q (.panic c) (a.put oi.dst v) w->Q (.panic c) a w:=by exact fun _ _ _ h=>h) (hy:YieldsIf P ops S oi v a:=by exact Or.inl ⟨by rfl,by(rintro w' ⟨s0,s1,s2,s3,s4,s5,s6,s7,s8⟩;go_simp;with_reducible rfl)⟩) (hS:S w:=by exact hHeld)
  (ha:a.put (some N) v=a':=by first|(simp only [Act.put,List.setIfInBounds_toArray,List.set_cons_zero,List.set_cons_succ,mh,mP];rfl)|rfl):kY P md ops Q S ds (fuel+1) (lJ n b0) a w:=
 o9 (lJ n b) hi hN hc hQ hy hS ha h
theorem Kt {fuel n b0:Nat}{a:Act}{w:World}{oi:Oper}{v:Value}{a':Act}(i:Nat) (N:Tmp) (b:Nat) (h:kY P md ops Q S ds fuel (lJ n b) a' w)
  (hi:ops[i]? =some oi:=by rfl) (hN:oi.dst=some N:=by rfl) (hc:takeB md ops ds (lJ n b0) (lJ n b) i=true:=by first|exact qp HT_.out HW_.out (by kernel_rfl)|kernel_rfl)
  (hQ:∀c a w,Q (.panic c) (a.put oi.dst v) w->Q (.panic c) a w:=by exact fun _ _ _ h=>h) (hy:YieldsIf P ops S oi v a:=by exact Or.inl ⟨by rfl,by(rintro w' ⟨s0,s1,s2,s3,s4,s5,s6,s7,s8,s9⟩;go_simp;with_reducible rfl)⟩) (hS:S w:=by exact hHeld)
  (ha:a.put (some N) v=a':=by first|(simp only [Act.put,List.setIfInBounds_toArray,List.set_cons_zero,List.set_cons_succ,mh,mP];rfl)|rfl):kY P md ops Q S ds (fuel+1) (lJ n b0) a w:=
 o9 (lJ n b) hi hN hc hQ hy hS ha h
theorem Ku {fuel n b0:Nat}{a:Act}{w:World}{oi:Oper}{v:Value}{a':Act}(i:Nat) (N:Tmp) (b:Nat) (h:kY P md ops Q S ds fuel (lJ n b) a' w)
  (hi:ops[i]? =some oi:=by rfl) (hN:oi.dst=some N:=by rfl) (hc:takeB md ops ds (lJ n b0) (lJ n b) i=true:=by first|exact qp HT_.out HW_.out (by kernel_rfl)|kernel_rfl)
  (hQ:∀c a w,Q (.panic c) (a.put oi.dst v) w->Q (.panic c) a w:=by exact fun _ _ _ h=>h) (hy:YieldsIf P ops S oi v a:=by exact Or.inl ⟨by rfl,by(rintro w' ⟨s0,s1,s2,s3,s4,s5,s6,s7,s8,s9,s10⟩;go_simp;with_reducible rfl)⟩) (hS:S w:=by exact hHeld)
  (ha:a.put (some N) v=a':=by first|(simp only [Act.put,List.setIfInBounds_toArray,List.set_cons_zero,List.set_cons_succ,mh,mP];rfl)|rfl):kY P md ops Q S ds (fuel+1) (lJ n b0) a w:=
 o9 (lJ n b) hi hN hc hQ hy hS ha h
theorem Kv {fuel n b0:Nat}{a:Act}{w:World}{oi:Oper}{v:Value}{a':Act}(i:Nat) (N:Tmp) (b:Nat) (h:kY P md ops Q S ds fuel (lJ n b) a' w)
  (hi:ops[i]? =some oi:=by rfl) (hN:oi.dst=some N:=by rfl) (hc:takeB md ops ds (lJ n b0) (lJ n b) i=true:=by first|exact qp HT_.out HW_.out (by kernel_rfl)|kernel_rfl)
  (hQ:∀c a w,Q (.panic c) (a.put oi.dst v) w->Q (.panic c) a w:=by exact fun _ _ _ h=>h) (hy:YieldsIf P ops S oi v a:=by exact Or.inl ⟨by rfl,by(rintro w' ⟨s0,s1,s2,s3,s4,s5,s6,s7,s8,s9,s10,s11⟩;go_simp;with_reducible rfl)⟩) (hS:S w:=by exact hHeld)
  (ha:a.put (some N) v=a':=by first|(simp only [Act.put,List.setIfInBounds_toArray,List.set_cons_zero,List.set_cons_succ,mh,mP];rfl)|rfl):kY P md ops Q S ds (fuel+1) (lJ n b0) a w:=
 o9 (lJ n b) hi hN hc hQ hy hS ha h
theorem Kw {fuel n b0:Nat}{a:Act}{w:World}{oi:Oper}{v:Value}{a':Act}(i:Nat) (N:Tmp) (b:Nat) (h:kY P md ops Q S ds fuel (lJ n b) a' w)
  (hi:ops[i]? =some oi:=by rfl) (hN:oi.dst=some N:=by rfl) (hc:takeB md ops ds (lJ n b0) (lJ n b) i=true:=by first|exact qp HT_.out HW_.out (by kernel_rfl)|kernel_rfl)
  (hQ:∀c a w,Q (.panic c) (a.put oi.dst v) w->Q (.panic c) a w:=by exact fun _ _ _ h=>h) (hy:YieldsIf P ops S oi v a:=by exact Or.inl ⟨by rfl,by(rintro w' ⟨s0,s1,s2,s3,s4,s5,s6,s7,s8,s9,s10,s11,s12⟩;go_simp;with_reducible rfl)⟩) (hS:S w:=by exact hHeld)
  (ha:a.put (some N) v=a':=by first|(simp only [Act.put,List.setIfInBounds_toArray,List.set_cons_zero,List.set_cons_succ,mh,mP];rfl)|rfl):kY P md ops Q S ds (fuel+1) (lJ n b0) a w:=
 o9 (lJ n b) hi hN hc hQ hy hS ha h
theorem Ky {fuel n b0:Nat}{a:Act}{w:World}{oi:Oper}{v:Value}{a':Act}(i:Nat) (N:Tmp) (b:Nat) (h:kY P md ops Q S ds fuel (lJ n b) a' w)
  (hi:ops[i]? =some oi:=by rfl) (hN:oi.dst=some N:=by rfl) (hc:takeB md ops ds (lJ n b0) (lJ n b) i=true:=by first|exact qp HT_.out HW_.out (by kernel_rfl)|kernel_rfl)
  (hQ:∀c a w,Q (.panic c) (a.put oi.dst v) w->Q (.panic c) a w:=by exact fun _ _ _ h=>h) (hy:YieldsIf P ops S oi v a:=by exact Or.inl ⟨by rfl,by(rintro w' ⟨s0,s1,s2,s3,s4,s5,s6,s7,s8,s9,s10,s11,s12,s13⟩;go_simp;with_reducible rfl)⟩) (hS:S w:=by exact hHeld)
  (ha:a.put (some N) v=a':=by first|(simp only [Act.put,List.setIfInBounds_toArray,List.set_cons_zero,List.set_cons_succ,mh,mP];rfl)|rfl):kY P md ops Q S ds (fuel+1) (lJ n b0) a w:=
 o9 (lJ n b) hi hN hc hQ hy hS ha h
theorem puN {fuel:Nat}{l:Array Bool}{a:Act}{w:World}{oi:Oper}{v:Value}{a':Act}(i:Nat) (N:Option Tmp) (l':Array Bool) (h:kY P md ops Q S ds fuel l' a' w)
  (hi:ops[i]? =some oi:=by rfl) (hN:oi.dst=N:=by rfl) (hc:sV md ops l l' i=true:=by first|exact wU HT_.out (by kernel_rfl)|kernel_rfl)
  (hQ:∀c a w,Q (.panic c) (a.put oi.dst v) w->Q (.panic c) a w:=by exact fun _ _ _ h=>h) (hy:Yields P ops oi v a:=by exact Or.inl ⟨by rfl,by(intro w';go_simp;with_reducible rfl)⟩)
  (ha:a.put N v=a':=by first|(simp only [Act.put,List.setIfInBounds_toArray,List.set_cons_zero,List.set_cons_succ,mh,mP];rfl)|rfl):kY P md ops Q S ds (fuel+1) l a w:=
 xE l' hi hN hc hQ hy ha h
theorem pfN {fuel:Nat}{l:Array Bool}{a:Act}{w:World}{oi:Oper}{a':Act}(i:Nat) (N:Option Tmp) (l':Array Bool) (h:kY P md ops Q S ds fuel l' a' w)
  (hi:ops[i]? =some oi:=by rfl) (hN:oi.dst=N:=by rfl) (hc:sV md ops l l' i=true:=by first|exact wU HT_.out (by kernel_rfl)|kernel_rfl)
  (hQ:∀c a w,Q (.panic c) (a.put oi.dst undef) w->Q (.panic c) a w:=by exact fun _ _ _ h=>h) (hy:Yields P ops oi undef a:=by exact Or.inr ⟨by rfl,rfl⟩)
  (ha:a.put N undef=a':=by first|(simp only [Act.put,List.setIfInBounds_toArray,List.set_cons_zero,List.set_cons_succ,mh,mP];rfl)|rfl):kY P md ops Q S ds (fuel+1) l a w:=
 xE l' hi hN hc hQ hy ha h
theorem ll {fuel:Nat}{l:Array Bool}{a a0 a':Act}{v:Value}{w:World}(N:Tmp) (h:kY P md ops Q S ds fuel l a' w) (hs:a=a0.put (some N) v:=by rfl)
  (ha:a0.put (some N) v=a':=by(simp only [Act.put,List.setIfInBounds_toArray,List.set_cons_zero,List.set_cons_succ,mh,mP];rfl)):kY P md ops Q S ds fuel l a w:=ng (hs.trans ha) h
theorem noN {fuel:Nat}{l:Array Bool}{a a0 a':Act}{v:Value}{w:World}(N:Option Tmp) (h:kY P md ops Q S ds fuel l a' w) (hs:a=a0.put N v:=by rfl)
  (ha:a0.put N v=a':=by(simp only [Act.put,List.setIfInBounds_toArray,List.set_cons_zero,List.set_cons_succ,mh,mP];rfl)):kY P md ops Q S ds fuel l a w:=ng (hs.trans ha) h
end
section
variable {P:Program}{ops:Array Oper}{rest:List Oper}{o:Oper}{a:Act}{Q:Exit->Act->World->Prop}
theorem qc {W:World}(N:Tmp) (cs:Array Value) (t:TypeId)
  (h:∀g,g=W.heap.size->∀w1,w1.heap[g]? =some (.cells cs t (0,0))->Below W.heap.size W w1->wpList P ops Q rest (a.put o.dst (.pointer (some ⟨g,0,none⟩))) w1)
  (hd:o.dst=some N:=by with_reducible rfl) (hgd:o.guard=none:=by rfl)
  (hrun:(execOp a.eval o).run P W=.ok (.value (.pointer (some ⟨W.heap.size,0,none⟩))) (W.alloc (.cells cs t (0,0))):=by first|(go_simp;done)|(go_simp;rfl)):wpList P ops Q (o::rest) a W:=Fx hgd hd hrun h
end
theorem jV {p q:Prop}(H:q) (h:q->p:=by(intro h_;(with_reducible repeat(first|apply kI|apply kJ|apply kw));exact h_)):p:=h H
theorem cV {p q:Prop}(H:q) (h:q->p:=by(intro h_;(with_reducible repeat(first|apply ym|apply yo|apply yn));exact h_)):p:=h H
theorem jZ {p q:Prop}(H:q) (h:q->p:=by(intro h_;(with_reducible repeat(first|refine o8 ?_ _|refine kU ?_|refine nQ ?_ _));exact h_)):p:=h H
theorem jR {B:Nat}{w w1 w2:World}(H:Below B w w1) (h:Below B w w2:=by repeat(first|(with_reducible first|exact HB.out|apply qx|apply qO|apply mg)|(with_reducible refine ou ?_ (jP.out (by assumption)))|exact HB.out)):Below B w w2:=h
theorem cK {w w1 w2:World}{g:Nat}{row:Option Nat}(H:lQ w w1 g row) (h:lQ w w2 g row:=by repeat(first|(with_reducible first|exact HK.out|apply lQ.xK|apply zg|apply zf|apply ze)|(with_reducible refine zh ?_ (jP.out (by assumption)) _)|exact HK.out)):lQ w w2 g row:=h
theorem qb(h:p:=by(try simp only [List.map_toArray,List.map_cons,List.map_nil]);first|done|rfl|(simp only [List.length_drop,List.length_take];rfl)):p:=h
theorem AC(h:p:=by first|(with_reducible assumption)|assumption):p:=h
theorem dm {p:Prop}(h:p):jP p:=⟨h⟩
section
variable {w0 w w1 W W1:World}{g:Nat}{o:Obj}{row:Option Nat}
theorem jU (H:jP (w0.heap[g]? =some o)) (hb:Below w.heap.size w w1) (h:w0.heap[g]? =some o->w.heap[g]? =some o:=by(intro h_;(with_reducible repeat(first|refine o8 ?_ _|refine kU ?_|refine nQ ?_ _));exact h_)):jP (w1.heap[g]? =some o):=⟨nD (h H.out) hb⟩
theorem kk (H:jP (w0.heap[g]? =some o)) {g1:Nat}(N:jP (g≠g1)) (hk:lQ w w1 g1 row) (hr:some g≠row:=by simp) (h:w0.heap[g]? =some o->w.heap[g]? =some o:=by(intro h_;(with_reducible repeat(first|refine o8 ?_ _|refine kU ?_|refine nQ ?_ _));exact h_)):jP (w1.heap[g]? =some o):=⟨lQ.blk hk (h H.out) N.out hr⟩
theorem lY (H:jP (w0.heap[g]? =some o)) (hg:w.grownBy w1 row) (hne:some g≠row) (h:w0.heap[g]? =some o->w.heap[g]? =some o:=by(intro h_;(with_reducible repeat(first|refine o8 ?_ _|refine kU ?_|refine nQ ?_ _));exact h_)):jP (w1.heap[g]? =some o):=⟨AR (h H.out) hg hne⟩
theorem jX (H:jP (Below w.heap.size w w0)) (hb:Below W.heap.size W w1) (h:Below w.heap.size w W:=by repeat(first|(with_reducible first|exact HB.out|apply qx|apply qO|apply mg)|(with_reducible refine ou ?_ (jP.out (by assumption)))|exact HB.out)):jP (Below w.heap.size w w1):=⟨uG h hb⟩
theorem kb {g:Nat}(H:jP (lQ w w0 g none)) (hb:Below W.heap.size W w1) (h:lQ w W g none:=by repeat(first|(with_reducible first|exact HK.out|apply lQ.xK|apply zg|apply zf|apply ze)|(with_reducible refine zh ?_ (jP.out (by assumption)) _)|exact HK.out)):jP (lQ w w1 g none):=⟨lQ.trans h (lQ.of_below hb g none) (.inl rfl)⟩
theorem kt {g:Nat}(H:jP (lQ w w0 g row)) (hk:lQ W w1 g row) (h:lQ w W g row:=by repeat(first|(with_reducible first|exact HK.out|apply lQ.xK|apply zg|apply zf|apply ze)|(with_reducible refine zh ?_ (jP.out (by assumption)) _)|exact HK.out)):jP (lQ w w1 g row):=⟨lQ.trans h hk (.inl rfl)⟩
theorem j4 (H:jP (Below w.heap.size w w1)) {a:Addr}{v:Value}(h:w.cell? a=some v):w1.cell? a=some v:=(H.out.cell (World.block_lt_of_cell? w _ h)).trans h
theorem jY {cs:Array Value}{t:TypeId}(H:jP (w.heap[g]? =some (.cells cs t (0,0)))) (i:Nat) {v:Value}(h:cs[i]? =some v:=by rfl):w.cell? ⟨g,i,none⟩=some v:=(mq H.out i).trans h
end
section
variable {α β:Type}{d:Kd α}{d':Kd β}{e e' base base':Nat}{ok ok':Nat->Prop}{w0 w W w1:World}{u v:Value}{xs:List α}{ys:List β}
theorem kD (H:jP (Kd.R d e w0 base ok v xs)) (hb:Below w.heap.size w w1) (h:Kd.R d e w0 base ok v xs->Kd.R d e w base ok v xs:=by(intro h_;(with_reducible repeat(first|apply kI|apply kJ|apply kw));exact h_)):jP (Kd.R d e w1 base ok v xs):=⟨o7 (h H.out) hb⟩
theorem vb (H:jP (Kd.V d e w0 base ok v xs)) (hb:Below w.heap.size w w1) (h:Kd.V d e w0 base ok v xs->Kd.V d e w base ok v xs:=by(intro h_;(with_reducible repeat(first|apply ym|apply yo|apply yn));exact h_)):jP (Kd.V d e w1 base ok v xs):=⟨ET (h H.out) hb⟩
theorem lK (H:jP (Kd.R d e w0 base ok u xs)) (ho:Kd.R d' e' W w.heap.size ok' v ys) (hb:Below w.heap.size w w1) (h:Kd.R d e w0 base ok u xs->Kd.R d e w base ok u xs:=by(intro h_;(with_reducible repeat(first|apply kI|apply kJ|apply kw));exact h_)):jP (Kd.R d e w1 base (fun k=>ok k/\some k≠v.ownBlock) u xs):=⟨xX (h H.out) (pR ho) hb⟩
theorem ve (H:jP (Kd.V d e w0 base ok u xs)) (ho:Kd.R d' e' W w.heap.size ok' v ys) (hb:Below w.heap.size w w1) (h:Kd.V d e w0 base ok u xs->Kd.V d e w base ok u xs:=by(intro h_;(with_reducible repeat(first|apply ym|apply yo|apply yn));exact h_)):jP (Kd.V d e w1 base (fun k=>ok k/\some k≠v.ownBlock) u xs):=⟨EU (h H.out) (pR ho) hb⟩
end
theorem ow(h:p:=by first|rfl|(simp[Value.ownBlock];rfl)):p:=h
theorem oq {p q:Prop}(H:q) (h:q->p:=by(intro h_;(first|rw[add_block]|(show some (Addr.add _ _).block≠_;rw[add_block])|skip);first|exact h_|exact h_.1|exact h_.2|exact h_.1.1|exact h_.1.2|exact h_.2.1|exact h_.2.2)):p:=h H
theorem kv {p q:Prop}(H:q) (h:q->p:=by(intro h_;repeat(first|exact h_|(with_reducible refine oW ?_ _)|(with_reducible refine o6 ?_ _)|(with_reducible refine oZ ?_)))):p:=h H
theorem kR {α β:Type}{o:Option α}{f:α->Option β}{r:β}(h:o.bind f=some r):∃a,jP (o=some a)/\f a=some r:=by
 obtain⟨a,h1,h2⟩:=Option.bind_eq_some_iff.mp h
 exact⟨a,⟨h1⟩,h2⟩
section
variable {w:World}{g:Nat}{t:TypeId}{v0 v1 v2 v3 v4 v5:Value}
theorem d1 (H:jP (w.heap[g]? =some (.cells #[v0] t (0,0)))):w.cell? ⟨g,0,none⟩=some v0/\w.frozen? ⟨g,0,none⟩=false:=⟨(mq H.out 0).trans rfl,l8 H.out 0⟩
theorem ko (H:jP (w.heap[g]? =some (.cells #[v0,v1] t (0,0)))):w.cell? ⟨g,0,none⟩=some v0/\w.cell? ⟨g,1,none⟩=some v1/\w.frozen? ⟨g,0,none⟩=false/\w.frozen? ⟨g,1,none⟩=false:=⟨(mq H.out 0).trans rfl,(mq H.out 1).trans rfl,l8 H.out 0,l8 H.out 1⟩
theorem d3 (H:jP (w.heap[g]? =some (.cells #[v0,v1,v2] t (0,0)))):w.cell? ⟨g,0,none⟩=some v0/\w.cell? ⟨g,1,none⟩=some v1/\w.cell? ⟨g,2,none⟩=some v2/\w.frozen? ⟨g,0,none⟩=false/\w.frozen? ⟨g,1,none⟩=false/\w.frozen? ⟨g,2,none⟩=false:=⟨(mq H.out 0).trans rfl,(mq H.out 1).trans rfl,(mq H.out 2).trans rfl,l8 H.out 0,l8 H.out 1,l8 H.out 2⟩
theorem d4 (H:jP (w.heap[g]? =some (.cells #[v0,v1,v2,v3] t (0,0)))):w.cell? ⟨g,0,none⟩=some v0/\w.cell? ⟨g,1,none⟩=some v1/\w.cell? ⟨g,2,none⟩=some v2/\w.cell? ⟨g,3,none⟩=some v3/\w.frozen? ⟨g,0,none⟩=false/\w.frozen? ⟨g,1,none⟩=false/\w.frozen? ⟨g,2,none⟩=false/\w.frozen? ⟨g,3,none⟩=false:=⟨(mq H.out 0).trans rfl,(mq H.out 1).trans rfl,(mq H.out 2).trans rfl,(mq H.out 3).trans rfl,l8 H.out 0,l8 H.out 1,l8 H.out 2,l8 H.out 3⟩
theorem d5 (H:jP (w.heap[g]? =some (.cells #[v0,v1,v2,v3,v4] t (0,0)))):w.cell? ⟨g,0,none⟩=some v0/\w.cell? ⟨g,1,none⟩=some v1/\w.cell? ⟨g,2,none⟩=some v2/\w.cell? ⟨g,3,none⟩=some v3/\w.cell? ⟨g,4,none⟩=some v4/\w.frozen? ⟨g,0,none⟩=false/\w.frozen? ⟨g,1,none⟩=false/\w.frozen? ⟨g,2,none⟩=false/\w.frozen? ⟨g,3,none⟩=false/\w.frozen? ⟨g,4,none⟩=false:=⟨(mq H.out 0).trans rfl,(mq H.out 1).trans rfl,(mq H.out 2).trans rfl,(mq H.out 3).trans rfl,(mq H.out 4).trans rfl,l8 H.out 0,l8 H.out 1,l8 H.out 2,l8 H.out 3,l8 H.out 4⟩
theorem d6 (H:jP (w.heap[g]? =some (.cells #[v0,v1,v2,v3,v4,v5] t (0,0)))):w.cell? ⟨g,0,none⟩=some v0/\w.cell? ⟨g,1,none⟩=some v1/\w.cell? ⟨g,2,none⟩=some v2/\w.cell? ⟨g,3,none⟩=some v3/\w.cell? ⟨g,4,none⟩=some v4/\w.cell? ⟨g,5,none⟩=some v5/\w.frozen? ⟨g,0,none⟩=false/\w.frozen? ⟨g,1,none⟩=false/\w.frozen? ⟨g,2,none⟩=false/\w.frozen? ⟨g,3,none⟩=false/\w.frozen? ⟨g,4,none⟩=false/\w.frozen? ⟨g,5,none⟩=false:=⟨(mq H.out 0).trans rfl,(mq H.out 1).trans rfl,(mq H.out 2).trans rfl,(mq H.out 3).trans rfl,(mq H.out 4).trans rfl,(mq H.out 5).trans rfl,l8 H.out 0,l8 H.out 1,l8 H.out 2,l8 H.out 3,l8 H.out 4,l8 H.out 5⟩
end
section
variable {P:Program}{ops:Array Oper}{Q:Exit->Act->World->Prop}
theorem ky {rest:List Oper}{o:Oper}{a:Act}{w:World}(N:Tmp) (_hN:o.dst=some N) (h:wpList P ops Q (o::rest) a w):wpList P ops Q (o::rest) a w:=h
theorem kQ {rest:List Oper}{o:Oper}{a:Act}{w:World}(f:FuncId) {as_:Array Operand}{ts:Array TypeId}(_ho:o.op=.call {callee:=.value (.func f),args:=as_,argTypes:=ts}) (h:wpList P ops Q (o::rest) a w):wpList P ops Q (o::rest) a w:=h
theorem rE {rest:List Oper}{oi:Oper}{a:Act}{w:World}{f:FuncId}(N:Tmp) {fn:Func}{as_:Array Operand}{ts:Array TypeId}(hf:P.funcs[f]? =some fn) (args:Array Value)
  (h:Calls P f args w fun e w'=>∃v,e=.returned v/\wpList P ops Q rest (a.put (some N) v) w')
  (hop : oi.op = .call { callee := .value (.func f), args := as_, argTypes := ts } := by with_reducible rfl) (hd : oi.dst = some N := by rfl) (hg : oi.guard = none := by rfl) (hname : (fn.name == "runtime.NumGoroutine") = false := by kernel_rfl) (hb : fn.body.isSome = true := by rfl)
  (hargs:as_.map a.eval=args:=by exact qb):wpList P ops Q (oi::rest) a w:=uN (some N) hd hg hf hname hb args hop hargs h
variable {md:Region.Mode}{S:World->Prop}{ds:List Nat}
theorem gs {oi:Oper}{N:Option Tmp}{a:Act}{w:World}{K:Act->World->Prop}{f:FuncId}{fn:Func}{as_:Array Operand}{ts:Array TypeId}(hf:P.funcs[f]? =some fn) (args:Array Value)
  (h : Calls P f args w fun e w' => ∃ v, e = .returned v ∧ K (a.put N v) w') (hop : oi.op = .call { callee := .value (.func f), args := as_, argTypes := ts } := by rfl) (hname : (fn.name == "runtime.NumGoroutine") = false := by kernel_rfl) (hb : fn.body.isSome = true := by rfl)
  (hw:Region.wanted oi (yielded ops a.tmps)=true:=by rfl) (hN:oi.dst=N:=by rfl) (hargs:as_.map a.eval=args:=by exact qb):if Region.wanted oi (yielded ops a.tmps)=true then Oper.wp P oi a w K Q else K (a.put N undef) w:=qd hf hname hb args hw hN hop hargs h
theorem l6 {oi:Oper}{fuel n b0:Nat}{a:Act}{w:World}(i:Nat) (N:Tmp) (b:Nat)
  (h:∀K:Act->World->Prop,Shut (∀a' w',S w'->(S w'->kY P md ops Q S ds fuel (lJ n b) a' w')->K a' w')->if Region.wanted oi (yielded ops a.tmps)=true then Oper.wp P oi a w K Q else K (a.put (some N) undef) w)
  (hi:ops[i]? =some oi:=by rfl) (hN:oi.dst=some N:=by rfl) (hc:sN md ops (lJ n b0) (lJ n b) i=true:=by exact qN HT_.out (by kernel_rfl)) (hd:i∉ds:=by decide):kY P md ops Q S ds (fuel+1) (lJ n b0) a w:=pE (lJ n b) hi hN hc hd h
theorem zu {oi:Oper}{fuel:Nat}{l:Array Bool}{a:Act}{w:World}(i:Nat) (N:Option Tmp) (l':Array Bool)
  (h:∀K:Act->World->Prop,Shut (∀a' w',S w'->(S w'->kY P md ops Q S ds fuel l' a' w')->K a' w')->if Region.wanted oi (yielded ops a.tmps)=true then Oper.wp P oi a w K Q else K (a.put N undef) w)
  (hi:ops[i]? =some oi:=by rfl) (hN:oi.dst=N:=by rfl) (hc:sN md ops l l' i=true:=by exact qN HT_.out (by kernel_rfl)) (hd:i∉ds:=by decide):kY P md ops Q S ds (fuel+1) l a w:=pE l' hi hN hc hd h
theorem nk {id:Nat}{a:Act}{w:World}{T:Bool×List (List Nat×List Nat)}{B:List Nat}(n:Nat) {S:World->Prop}(ds:List Nat) (hS:S w.drew) (hT:mi .any ops=T) (hB:nY T.2 B=true)
  (h:S w.drew->jP (mi .any ops=T)->jP (nY T.2 B=true)->kY P .any ops Q S ds n (lJ n 0) a w.drew) (hm:P.follows .mixedOrders=true:=by kernel_rfl) (hn:ops.size=n:=by rfl)
  (hl:Array.replicate n false=lJ n 0:=by kernel_rfl):(Code.region id ops true).wp P Q a w:=tY (lJ n 0) hm hn hl hS fun h1=>zO hT hB (h h1)
theorem uq {oi:Oper}{fuel:Nat}{l:Array Bool}{a:Act}{w:World}(i:Nat) (N:Option Tmp) (l':Array Bool)
  (h:∀K:Act->World->Prop,Shut (∀a' w',kY P md ops Q S ds fuel l' a' w'->K a' w')->if Region.wanted oi (yielded ops a.tmps)=true then Oper.wp P oi a w K Q else K (a.put N undef) w)
  (hi:ops[i]? =some oi:=by rfl) (hN:oi.dst=N:=by rfl) (hc:sN md ops l l' i=true:=by exact qN HT_.out (by kernel_rfl)) (hd:i∈ds:=by decide):kY P md ops Q S ds (fuel+1) l a w:=zi l' hi hN hc hd h
end
theorem mH {P:Prop} [Decidable P] {α:Type}{x:Option α}{r:α}(h:(if P then x else none)=some r):P/\x=some r:=by
 by_cases c:P
 ·rw[if_pos c]at h;exact⟨c,h⟩
 rw[if_neg c]at h;cases h
theorem np {P:Prop} [Decidable P] {α:Type}{x:Option α}{r:α}(h:(if P then none else x)=some r):¬P/\x=some r:=by
 by_cases c:P
 ·rw[if_pos c]at h;cases h
 rw[if_neg c]at h;exact⟨c,h⟩
theorem kX {P:Prop} [Decidable P] {α:Type}{x:Option α}{r:α}(h:(if P then x else none)=some r):decide P=true/\x=some r:=⟨decide_eq_true (mH h).1,(mH h).2⟩
theorem lV {b:Bool}{α:Type}{x y:Option α}{r:α}(h:(if b=true then x else y)=some r):b=true/\x=some r\/b=false/\y=some r:=by
 cases b with
 |true=>exact .inl ⟨rfl,h⟩
 |false=>exact .inr ⟨rfl,h⟩
theorem lC {p q e:Prop}(hy:e) (H:q) (h:e->q->p:=by(intro hy_ H_;first|(rw[hy_];with_reducible exact H_)|(have aJ:=(Option.bind_some _ _).symm.trans H_;rw[hy_];with_reducible exact aJ)|(have aJ:=(Option.bind_some _ _).symm.trans H_;with_reducible exact aJ)|with_reducible exact H_|(rw[hy_];exact H_)|exact H_)):p:=h hy H
theorem Ki {w:World}{g t:Nat}{a b u v:Value}(H:w.heap[g]? =some (.cells #[a,b] t (0,0))):((w.setCell ⟨g,0,none⟩ u).setCell ⟨g,1,none⟩ v).heap[g]? =some (.cells #[u,v] t (0,0)):=uj (cs:= #[u,b]) (uj (cs:= #[a,b]) H 0 _ rfl) 1 _ rfl
theorem Kh {w:World}{g t:Nat}{a b v:Value}(H:w.heap[g]? =some (.cells #[a,b] t (0,0))):(w.setCell ⟨g,1,none⟩ v).heap[g]? =some (.cells #[a,v] t (0,0)):=uj (cs:= #[a,b]) H 1 _ rfl
theorem Kg {w:World}{g t:Nat}{a b u:Value}(H:w.heap[g]? =some (.cells #[a,b] t (0,0))):(w.setCell ⟨g,0,none⟩ u).heap[g]? =some (.cells #[u,b] t (0,0)):=uj (cs:= #[a,b]) H 0 _ rfl
theorem lI {p q:Prop}(H:q) (h:q->p:=by(intro h_;repeat(first|(with_reducible first|exact h_|refine o8 ?_ _|refine kU ?_|refine nQ ?_ _)|refine pV ?_ (jP.out (by assumption)) _|apply Ki|apply Kh|apply Kg|exact h_))):p:=h H
theorem qz {p q r:Prop}(H:q) (N:r) (h:q->r->p:=by(intro ap_ ag_;first|exact Nat.ne_of_lt (Nat.lt_of_lt_of_le (by have:=World.block_lt_of_cell? _ _ ap_;first|rwa [add_block]at this|exact this) ag_)|(rw[add_block];exact Nat.ne_of_lt (Nat.lt_of_lt_of_le (by have:=World.block_lt_of_cell? _ _ ap_;first|rwa [add_block]at this|exact this) ag_))|(show(Addr.add _ _).block≠_;rw[add_block];exact Nat.ne_of_lt (Nat.lt_of_lt_of_le (by have:=World.block_lt_of_cell? _ _ ap_;first|rwa [add_block]at this|exact this) ag_))|(dsimp only;exact Nat.ne_of_lt (Nat.lt_of_lt_of_le (by have:=World.block_lt_of_cell? _ _ ap_;first|rwa [add_block]at this|exact this) ag_)))):p:=h H N
theorem jT {p:Prop} [Decidable p] (h:decide p=true:=by first|(with_reducible assumption)|assumption):p:=of_decide_eq_true h
theorem mW(h:p:=by first|rfl|(simp[qL,qM]<;>rfl)|(simp[*,qL,qM]<;>rfl)):p:=h
end Go.Proofs.Ytgeonpciodepgaa.P
namespace Go.Proofs.Ytgeonpciodepgaa.P
open Go.RowKit Go.Proofs.YtgeonpciodepgaaW.PrintWords Go.Proofs.YtgeonpciodepgaaW.PrintLast Go.Proofs.YtgeonpciodepgaaW.PrintWords.Kd
theorem oo {p q1 q2 q3 q4 q5 q6 q7 q8 q9 q10 q11 q12 q13 q14:Prop}(h1:q1) (h2:q2:=by exact trivial) (h3:q3:=by exact trivial) (h4:q4:=by exact trivial) (h5:q5:=by exact trivial) (h6:q6:=by exact trivial) (h7:q7:=by exact trivial) (h8:q8:=by exact trivial)
  (h9:q9:=by exact trivial) (h10:q10:=by exact trivial) (h11:q11:=by exact trivial) (h12:q12:=by exact trivial) (h13:q13:=by exact trivial) (h14:q14:=by exact trivial)
  (h:q1->q2->q3->q4->q5->q6->q7->q8->q9->q10->q11->q12->q13->q14->p:=by
   (intro a_ b_ c_ d_ e_ f_ g_ i_ j_ k_ l_ m_ n_ o_;repeat' with_reducible first|exact LeO.refl _|exact LeO.none _|refine LeO.ite ?_ ?_|refine LeO.bind ?_ (fun _=>?_)|apply a_|apply b_|apply c_|apply d_|apply e_|apply f_|apply g_|apply i_|apply j_|apply k_|apply l_|apply m_|apply n_|apply o_)):p:=h h1 h2 h3 h4 h5 h6 h7 h8 h9 h10 h11 h12 h13 h14
section
variable {P:Program}{ops:Array Oper}{Q:Exit->Act->World->Prop}{rest:List Oper}{o:Oper}{a:Act}{w:World}{f:FuncId}{fn:Func}{as_:Array Operand}{ts:Array TypeId}{args:Array Value}{v:Value}
theorem lL {R:Ending->World->Prop}(N:Tmp) (hd:o.dst=some N) (hf:P.funcs[f]? =some fn) (T:Calls P f args w R) (h:∀e w',R e w'->∃v,e=.returned v/\wpList P ops Q rest (a.put (some N) v) w')
  (hop : o.op = .call { callee := .value (.func f), args := as_, argTypes := ts } := by with_reducible rfl) (hg : o.guard = none := by rfl) (hname : (fn.name == "runtime.NumGoroutine") = false := by kernel_rfl) (hb : fn.body.isSome = true := by rfl)
  (hargs:as_.map a.eval=args:=by exact qb):wpList P ops Q (o::rest) a w:=uN (some N) hd hg hf hname hb args hop hargs (T.mono h)
theorem nC {B:World->Prop}(N:Tmp) (hd:o.dst=some N) (hf:P.funcs[f]? =some fn) (T:Calls P f args w fun e w'=>e=.returned v/\B w') (h:∀w',B w'->wpList P ops Q rest (a.put (some N) v) w')
  (hop : o.op = .call { callee := .value (.func f), args := as_, argTypes := ts } := by with_reducible rfl) (hg : o.guard = none := by rfl) (hname : (fn.name == "runtime.NumGoroutine") = false := by kernel_rfl) (hb : fn.body.isSome = true := by rfl)
  (hargs:as_.map a.eval=args:=by exact qb):wpList P ops Q (o::rest) a w:=lL N hd hf T (fun _ w' ⟨h1,h2⟩=>⟨v,h1,h w' h2⟩) hop hg hname hb hargs
theorem oz {R:Ending->World->Prop}{N:Option Tmp}{K:Act->World->Prop}(hf:P.funcs[f]? =some fn) (T:Calls P f args w R) (h:∀e w',R e w'->∃v,e=.returned v/\K (a.put N v) w')
  (hop : o.op = .call { callee := .value (.func f), args := as_, argTypes := ts } := by rfl) (hname : (fn.name == "runtime.NumGoroutine") = false := by kernel_rfl) (hb : fn.body.isSome = true := by rfl)
  (hw:Region.wanted o (yielded ops a.tmps)=true:=by rfl) (hN:o.dst=N:=by rfl) (hargs:as_.map a.eval=args:=by exact qb):if Region.wanted o (yielded ops a.tmps)=true then Oper.wp P o a w K Q else K (a.put N undef) w:=qd hf hname hb args hw hN hop hargs (T.mono h)
theorem qy {B:World->Prop}{N:Option Tmp}{K:Act->World->Prop}(hf:P.funcs[f]? =some fn) (T:Calls P f args w fun e w'=>e=.returned v/\B w') (h:∀w',B w'->K (a.put N v) w')
  (hop : o.op = .call { callee := .value (.func f), args := as_, argTypes := ts } := by rfl) (hname : (fn.name == "runtime.NumGoroutine") = false := by kernel_rfl) (hb : fn.body.isSome = true := by rfl)
  (hw:Region.wanted o (yielded ops a.tmps)=true:=by rfl) (hN:o.dst=N:=by rfl) (hargs:as_.map a.eval=args:=by exact qb):if Region.wanted o (yielded ops a.tmps)=true then Oper.wp P o a w K Q else K (a.put N undef) w:=oz hf T (fun _ w' ⟨h1,h2⟩=>⟨v,h1,h w' h2⟩) hop hname hb hw hN hargs
theorem kS {W:World}(cs:Array Value) (t:TypeId)
  (h:∀g,g=W.heap.size->∀w1,w1.heap[g]? =some (.cells cs t (0,0))->Below W.heap.size W w1->wpList P ops Q rest (a.put o.dst (.pointer (some ⟨g,0,none⟩))) w1)
  (hgd:o.guard=none:=by rfl)
  (hrun:(execOp a.eval o).run P W=.ok (.value (.pointer (some ⟨W.heap.size,0,none⟩))) (W.alloc (.cells cs t (0,0))):=by first|(go_simp;done)|(go_simp;rfl)):wpList P ops Q (o::rest) a W:=za hgd hrun (h _ rfl _ (yC W _) (qx (Below.refl _ _) _))
end
section
variable {P:Program}{md:Region.Mode}{ops:Array Oper}{Q:Exit->Act->World->Prop}{S:World->Prop}{ds:List Nat}
theorem kL {fuel n b0:Nat}{a:Act}{w:World}{oi:Oper}{v:Value}{a':Act}(i:Nat) (N:Tmp) (b:Nat) (h:kY P md ops Q S ds fuel (lJ n b) a' w)
  (hi:ops[i]? =some oi:=by rfl) (hN:oi.dst=some N:=by rfl) (hc:takeB md ops ds (lJ n b0) (lJ n b) i=true:=by first|exact qp HT_.out HW_.out (by kernel_rfl)|kernel_rfl)
  (hQ:∀c a w,Q (.panic c) (a.put oi.dst v) w->Q (.panic c) a w:=by exact fun _ _ _ h=>h) (hy:YieldsIf P ops S oi v a:=by exact Or.inl ⟨by rfl,by(intro w' h_;(repeat(obtain⟨_,h_⟩:=h_));go_simp;with_reducible rfl)⟩) (hS:S w:=by exact hHeld)
  (ha:a.put (some N) v=a':=by first|(simp only [Act.put,List.setIfInBounds_toArray,List.set_cons_zero,List.set_cons_succ,mh,mP];rfl)|rfl):kY P md ops Q S ds (fuel+1) (lJ n b0) a w:=
 o9 (lJ n b) hi hN hc hQ hy hS ha h
end
theorem og {α:Type}{P:Program}{ops:Array Oper}{Q:Exit->Act->World->Prop}{rest:List Oper}{o:Oper}{a:Act}{W:World}(d:Kd α) {N:Tmp}(hd:o.dst=some N) (e:Nat) (xs:List α) (inner:List Value) (hrep:kF (d.M W W.heap.size (fun _=>True)) d.sz xs inner)
  (h:∀v1 w1,d.R e w1 W.heap.size (fun _=>True) v1 xs->Below W.heap.size W w1->W.grownBy w1 none->(∃b,v1.ownBlock=some b/\W.heap.size<=b)->wpList P ops Q rest (a.put o.dst v1) w1)
  (hm:xs.length<=9223372036854775807:=by simp) (hgd:o.guard=none:=by rfl)
  (hrun:(execOp a.eval o).run P W=.ok (.value (.slice (some ⟨W.heap.size,0,none⟩) xs.length xs.length)) (W.alloc (.cells inner.toArray e)):=by first|(go_simp;done)|(go_simp;rfl)):wpList P ops Q (o::rest) a W:=xY d _ e hgd hd hrun hrep (fun _ hk=>hk) trivial (Below.refl _ _) (Nat.le_refl _) hm h
theorem lH {p:Prop} [Decidable p] {α:Type}{x y:Option α}{r:α}(h:(if p then x else y)=some r):decide p=true/\x=some r\/decide p=false/\y=some r:=by
 by_cases c:p
 ·rw[if_pos c]at h;exact .inl ⟨decide_eq_true c,h⟩
 rw[if_neg c]at h;exact .inr ⟨decide_eq_false c,h⟩
end Go.Proofs.Ytgeonpciodepgaa.P
namespace Go.Proofs.Ytgeonpciodepgaa.P
set_option maxHeartbeats 8000000
set_option maxRecDepth 100000
open Go.RowKit Go.Proofs.YtgeonpciodepgaaW.PrintWords Go.Proofs.YtgeonpciodepgaaW.PrintLast Go.Proofs.YtgeonpciodepgaaW.PrintMore Go.Proofs.YtgeonpciodepgaaW.PrintWords.Kd Go.Proofs.YtgeonpciodepgaaW.PrintMore.Kd
attribute [local go_sem] vQ vU vT vX vS vW vR vV
def CQ:Option Int->Value
  |none=> .nilIface
  |some c=> .iface 0 (.int .i64 c)
theorem qL:CQ none=.nilIface:=rfl
theorem qM (c:Int):CQ (some c)=.iface 0 (.int .i64 c):=rfl
theorem info3:(Try.prog.info? 3).map (fun i=>(i.zero,i.size,i.bytes))=some (some (.int .i64 0),1,8):=by kernel_rfl
theorem C_:(Try.prog.info? 4).map (fun i=>(i.zero,i.size,i.bytes))=some (some (.bool false),1,1):=by kernel_rfl
theorem Da:(Try.prog.info? 45).map (fun i=>(i.zero,i.size,i.bytes))=some (some (.slice none 0 0),1,24):=by kernel_rfl
theorem sH:(Try.prog.info? 59).map (fun i=>(i.zero,i.size,i.bytes))=some (some (.agg #[(.int .i64 0),(.int .i64 0)]),2,16):=by kernel_rfl
abbrev nu:=G.Tie
def zS:nu:=⟨(0:Int),(0:Int)⟩
def sJ:Kd nu:=Kd.iso (Kd.pair (Kd.int .i64) (Kd.int .i64)) (fun x:nu=>(x.f0,x.f1))
theorem Hg {w:World}{x:nu}{cs:List Value}(h:sJ.K w x cs):cs=[.int .i64 x.f0,.int .i64 x.f1]:=by
  obtain⟨_,_,rfl,rfl,rfl⟩:=h;exact rfl
theorem Hf (w:World) (x:nu):sJ.K w x [.int .i64 x.f0,.int .i64 x.f1]:=⟨[.int .i64 x.f0],[.int .i64 x.f1],rfl,rfl,rfl⟩
def tN (xs:List nu) (i:Int):nu:=xs.getD i.toNat zS
theorem Fe {w:World}{A:Option Addr}{n:Nat}{xs:List nu}(h:Kd.C sJ w A n xs) (i:Int) (h0:0<=i) (h1:i<n):∃ad,A=some ad/\w.cell? (ad.add (i.toNat*2))=some (.int .i64 (tN xs i).f0)/\w.cell? ⟨(ad.add (i.toNat*2)).block,(ad.add (i.toNat*2)).off+1,none⟩=some (.int .i64 (tN xs i).f1):=by
  obtain⟨ad,c,e,_,hK,aa⟩:=xQ h zS i h0 h1;have hc:∀j u,c[j]? =some u->w.cell? (ad.add (i.toNat*2+j))=some u:=aa;obtain rfl:=Hg hK;exact⟨ad,e,hc 0 _ rfl,by rw[←Av _ _ 1 (by omega)];exact hc 1 _ rfl⟩
abbrev S59:=G.Tie
def z59:S59:=⟨(0:Int),(0:Int)⟩
def k59:Kd S59:=Kd.iso (Kd.pair (Kd.int .i64) (Kd.int .i64)) (fun x:S59=>(x.f0,x.f1))
theorem Hl {w:World}{x:S59}{cs:List Value}(h:k59.K w x cs):cs=[.int .i64 x.f0,.int .i64 x.f1]:=by
  obtain⟨_,_,rfl,rfl,rfl⟩:=h;exact rfl
theorem uO {w:World}{base:Nat}{ok:Nat->Prop}{x:S59}{cs:List Value}(h:k59.M w base ok x cs):cs=[.int .i64 x.f0,.int .i64 x.f1]:=by
  obtain⟨_,_,rfl,rfl,rfl⟩:=h;exact rfl
theorem qg (w:World) (base:Nat) (ok:Nat->Prop) (x:S59):k59.M w base ok x [.int .i64 x.f0,.int .i64 x.f1]:=⟨[.int .i64 x.f0],[.int .i64 x.f1],rfl,rfl,rfl⟩
def jQ (xs:List S59) (i:Int):S59:=xs.getD i.toNat z59
theorem l7 {w:World}{A:Option Addr}{n:Nat}{xs:List S59}(h:Kd.C k59 w A n xs) (i:Int) (h0:0<=i) (h1:i<n):∃ad,A=some ad/\w.cell? (ad.add (i.toNat*2))=some (.int .i64 (jQ xs i).f0)/\w.cell? ⟨(ad.add (i.toNat*2)).block,(ad.add (i.toNat*2)).off+1,none⟩=some (.int .i64 (jQ xs i).f1):=by
  obtain⟨ad,c,e,_,hK,aa⟩:=xQ h z59 i h0 h1;have hc:∀j u,c[j]? =some u->w.cell? (ad.add (i.toNat*2+j))=some u:=aa;obtain rfl:=Hl hK;exact⟨ad,e,hc 0 _ rfl,by rw[←Av _ _ 1 (by omega)];exact hc 1 _ rfl⟩
def mQ (xs:List (List Int)) (i:Int):(List Int):=xs.getD i.toNat ([]:List Int)
theorem uF {w:World}{A:Option Addr}{n:Nat}{xs:List (List Int)}(h:Kd.C (Kd.slice 3 (Kd.int .i64)) w A n xs) (i:Int) (h0:0<=i) (h1:i<n):∃ad A0 c0,A=some ad/\w.cell? (ad.add i.toNat)=some (.slice A0 (mQ xs i).length c0)/\(mQ xs i).length<=c0/\(Kd.int .i64).C w A0 (mQ xs i).length (mQ xs i):=by
  obtain⟨ad,c,e,_,hK,aa⟩:=xQ h ([]:List Int) i h0 h1;have hc:∀j u,c[j]? =some u->w.cell? (ad.add (i.toNat*1+j))=some u:=aa;obtain⟨A0,c0,rfl,l0,g0⟩:=hK;exact⟨ad,A0,c0,e,by have hq:=hc 0 _ rfl;rwa [Nat.mul_one,Nat.add_zero]at hq,l0,g0⟩
structure S31 where
  f0:Int
  f1:(List S59)
end Go.Proofs.Ytgeonpciodepgaa.P
