/- The proof's parts ahead of the row: of no condition of their own. -/
import Derived.Test.YtgeonpciodepgaaZFnExactEarOf3
import Derived.Deep.SlicePairs
import Derived.Lib.SmallJoins
import Derived.ProofKit
import Derived.Deep.Slices
set_option linter.unusedVariables false
set_option linter.unusedSimpArgs false
namespace Go.Proofs.Ytgeonpciodepgaa.G
open Go.RowKit Go.Proofs.YtgeonpciodepgaaW.PrintWords
abbrev big:Int:=4611686018427387904
theorem w64 {x:Int}(h0: -9223372036854775808<=x) (h1:x<=9223372036854775807):wrap64 x=x:=by
 unfold wrap64
 omega
theorem l9 {α:Type}(pre:List α) (t:α) (suf:List α):(pre.length:Int)<((pre++t::suf).length:Int):=by
 simp;omega
theorem oF {α:Type}(pre:List α):¬ (pre.length:Int)<((pre++[]).length:Int):=by
 simp
theorem nn (n:Nat):0<=(n:Int):=Int.natCast_nonneg n
theorem mF {α:Type}(pre:List α) (t:α) (suf:List α):pre++t::suf=(pre++[t])++suf:=by simp
theorem mG {α:Type}{pre:List α}{t:α}(h:(pre.length:Int)<big):wrap64 ((pre.length:Int)+1)=((pre++[t]).length:Int):=by
 rw[w64 (by omega) (by unfold big at h;omega)];simp
theorem tq {α:Type}(pre:List α) (t:α) (suf:List α) (d:α):(pre++t::suf).getD ((pre.length:Int)).toNat d=t:=by
 simp[List.getD]
theorem nZ (pre:List Int) (t:Int) (suf:List Int):rd (pre++t::suf) (pre.length:Int)=t:=by
 unfold rd;exact tq pre t suf 0
theorem oL {α:Type}{pre:List α}{t:α}{suf:List α}(h:((pre++t::suf).length:Int)<big):(pre.length:Int)<big:=by
 simp at h;unfold big at*;omega
theorem rf {α:Type}{pre:List α}{t:α}{suf:List α}(h:((pre++t::suf).length:Int)<big):(((pre++[t])++suf).length:Int)<big:=by
 rw[←mF];exact h
theorem Ev.val {α:Type}{a:Option α}{r:α}(h:a=some r):Ev (fun _=>a) r:=⟨0,fun _ _=>h⟩
theorem Ev.eq {α:Type}{g:Nat->Option α}{r s:α}(h:Ev g r) (e:r=s):Ev g s:=e▸h
theorem Ev.unique {α:Type}{g:Nat->Option α}{r s:α}(h:Ev g r) (k:Ev g s):r=s:=by
 obtain⟨K,h⟩:=h
 obtain⟨L,k⟩:=k
 have:=(h (max K L) (by omega)).symm.trans (k (max K L) (by omega))
 injection this
def tlt (s t:Tie):Prop:=s.f0<t.f0\/s.f0=t.f0/\s.f1<t.f1
instance(s t:Tie):Decidable (tlt s t):=by unfold tlt;infer_instance
def inr (n:Int) (t:Tie):Prop:=0<=t.f0/\t.f0<t.f1/\t.f1<n
instance(n:Int) (t:Tie):Decidable (inr n t):=by unfold inr;infer_instance
def asc:List Tie->Prop
 |[]=>True
 |[_]=>True
 |a::b::r=>tlt a b/\asc (b::r)
instance E5:(l:List Tie)->Decidable (asc l)
 |[]=>isTrue trivial
 |[_]=>isTrue trivial
 |a::b::r=>by
  have:=E5 (b::r)
  unfold asc
  infer_instance
def ok (n:Int) (E:List Tie):Prop:=0<=n/\n<=8/\(∀t∈E,inr n t)/\asc E
instance(n:Int) (E:List Tie):Decidable (ok n E):=by unfold ok;infer_instance
theorem JE {a b c:Tie}(h:tlt a b) (k:tlt b c):tlt a c:=by
 unfold tlt at*;omega
theorem JD (a:Tie):¬tlt a a:=by unfold tlt;omega
theorem Az {a:Tie}{l:List Tie}:asc (a::l)↔(∀t∈l,tlt a t)/\asc l:=by
 induction l generalizing a with
 |nil=>simp[asc]
 |cons b r ih=>
  constructor
  ·intro h
   obtain⟨h1,h2⟩:=h
   refine⟨fun t ht=>?_,h2⟩
   rcases List.mem_cons.1 ht with rfl|ht
   ·exact h1
   exact JE h1 ((ih.1 h2).1 t ht)
  rintro⟨h1,h2⟩
  exact⟨h1 b (List.mem_cons_self),h2⟩
theorem AA {l:List Tie}:asc l↔l.Pairwise tlt:=by
 induction l with
 |nil=>simp[asc]
 |cons a l ih=>rw[Az,List.pairwise_cons,ih]
theorem E_ {l:List Tie}(h:asc l):l.Nodup:=by
 rw[AA]at h
 exact h.imp (fun{a b} hab e=>by subst e;exact JD a hab)
theorem AB {l m:List Tie}(h:asc m) (s:l.Sublist m):asc l:=by
 rw[AA]at*;exact h.sublist s
theorem E8 {l:List Tie}(p:Tie->Bool) (h:asc l):asc (l.filter p):=AB h List.filter_sublist
theorem uU {n:Int}{E:List Tie}(p:Tie->Bool) (h:ok n E):ok n (E.filter p):=
 ⟨h.1,h.2.1,fun t ht=>h.2.2.1 t (List.mem_filter.1 ht).1,E8 p h.2.2.2⟩
theorem Dw {n:Int}{E F:List Tie}(h:ok n E) (s:F.Sublist E):ok n F:=
 ⟨h.1,h.2.1,fun t ht=>h.2.2.1 t (s.subset ht),AB h.2.2.2 s⟩
theorem E9 {l:List Tie}(lo:Int) (hl:∀t∈l,0<=t.f0/\t.f0<8/\0<=t.f1/\t.f1<8) (h:asc l) (hlo:∀t∈l,lo<=t.f0*8+t.f1) (h64:lo<=64):(l.length:Int)<=64 - lo:=by
 induction l generalizing lo with
 |nil=>simp;omega
 |cons a r ih=>
  obtain⟨h1,h2⟩:=Az.1 h
  have ha:=hlo a (List.mem_cons_self)
  have hb:=hl a (List.mem_cons_self)
  have:=ih (a.f0*8+a.f1+1) (fun t ht=>hl t (List.mem_cons_of_mem _ ht)) h2 (fun t ht=>by
   have:=h1 t ht
   have hc:=hl t (List.mem_cons_of_mem _ ht)
   unfold tlt at this;omega) (by omega)
  simp only [List.length_cons]
  omega
theorem nG {n:Int}{E:List Tie}(h:ok n E):(E.length:Int)<=64:=by
 have:=E9 (l:=E) 0 (fun t ht=>by have:=h.2.2.1 t ht;have:=h.2.1;unfold inr at*;omega) h.2.2.2 (fun t ht=>by have:=h.2.2.1 t ht;unfold inr at this;omega) (by omega)
 omega
end Go.Proofs.Ytgeonpciodepgaa.G
namespace Go.Proofs.Ytgeonpciodepgaa.G
def kH (a b:Int):Tie:=if a<b then⟨a,b⟩ else⟨b,a⟩
theorem wC (a b:Int):kH a b=kH b a:=by
 unfold kH
 rcases Int.lt_trichotomy a b with h|h|h
 ·rw[if_pos h,if_neg (by omega)]
 ·subst h;rfl
 rw[if_neg (by omega),if_pos h]
theorem Jz {n:Int}{t:Tie}(h:inr n t):kH t.f0 t.f1=t:=by
 unfold kH;rw[if_pos h.2.1]
theorem JA {a b:Int}(h:a<b):kH a b=⟨a,b⟩:=by unfold kH;rw[if_pos h]
end Go.Proofs.Ytgeonpciodepgaa.G
namespace Go.Proofs.Ytgeonpciodepgaa.P
open Go.RowKit Go.Proofs.YtgeonpciodepgaaW.PrintWords Go.Proofs.Ytgeonpciodepgaa.G Go.Proofs.YtgeonpciodepgaaW.PrintWords.Kd
theorem zz (pre:List S59) (t:S59) (suf:List S59):jQ (pre++t::suf) (pre.length:Int)=t:=by
 unfold jQ;exact tq pre t suf _
theorem uP (a b:Int):qA.f a b=some ((kH a b).f0,(kH a b).f1):=by
 unfold qA.f kH
 by_cases h:a<b<;>simp[h]
theorem JB (s t:Tie):(s.f0==t.f0&&(s.f1==t.f1))=decide (s=t):=by
 obtain⟨a,b⟩:=s
 obtain⟨c,d⟩:=t
 simp only [Tie.mk.injEq]
 by_cases h:a=c<;>by_cases k:b=d<;>simp[h,k]
theorem Ho (n a b:Int):∀ (suf p:List S59),((p++suf).length:Int)<big->
  Ev (fun k=>nK.l0 k a b (p.length:Int) n (p++suf)) (decide (kH a b∈suf)):=by
 intro suf
 induction suf with
 |nil=>
  intro p hb
  refine Ev.step (fun k=>by simp only [nK.l0,oF,if_false]<;>exact rfl) ?_
  exact Ev.val (congrArg some (decide_eq_false (by simp)).symm)
 |cons t suf ih=>
  intro p hb
  have hp:(p.length:Int)<big:=oL hb
  refine Ev.step (fun k=>by simp only [nK.l0,l9,nn,if_true,zz,mG (t:=t) hp,uP,Option.bind_some,JB,decide_eq_true_eq]<;>exact rfl) ?_
  by_cases c:t=kH a b
  ·simp only [if_pos c]
   exact Ev.val (congrArg some (decide_eq_true (by simp[c])).symm)
  simp only [if_neg c]
  rw[mF p t suf]
  refine Ev.eq (ih (p++[t]) (rf hb)) ?_
  rw[decide_eq_decide]
  have:¬kH a b=t:=fun e=>c e.symm
  simp[this]
theorem De (n a b:Int) (E:List S59) (hb:(E.length:Int)<big):Ev (fun k=>nK.f k n E a b) (decide (kH a b∈E)):=by
 unfold nK.f
 exact Ho n a b E [] hb
end Go.Proofs.Ytgeonpciodepgaa.P
namespace Go.Proofs.Ytgeonpciodepgaa.G
def cut (X:List Tie) (t:Tie):List Tie:=X.filter fun s=> !decide (s=t)
theorem uR {X:List Tie}{s t:Tie}:s∈cut X t↔s∈X/\s≠t:=by
 unfold cut
 rw[List.mem_filter]
 simp
theorem sM {n:Int}{X:List Tie}(t:Tie) (h:ok n X):ok n (cut X t):=uU _ h
theorem F4 {X:List Tie}{t:Tie}(h:t∉X):cut X t=X:=by
 unfold cut
 rw[List.filter_eq_self]
 intro s hs
 have:s≠t:=fun e=>h (e▸hs)
 simp[this]
theorem F3 {X:List Tie}(hX:X.Nodup) (t:Tie):(cut X t).length+(if t∈X then 1 else 0)=X.length:=by
 induction X with
 |nil=>simp[cut]
 |cons a r ih=>
  obtain⟨h1,h2⟩:=List.nodup_cons.1 hX
  have ih:=ih h2
  by_cases e:a=t
  ·subst e
   have:cut (a::r) a=cut r a:=by simp[cut]
   rw[this,F4 h1]
   simp
  have e1:cut (a::r) t=a::cut r t:=by simp[cut,e]
  rw[e1]
  have e2:(t∈a::r)=(t∈r):=by simp[Ne.symm e]
  simp only [e2,List.length_cons]
  omega
def ties:List Int->List Tie
 |a::b::r=>kH a b::ties (b::r)
 |_=>[]
def cuts:List Tie->List Tie->Prop
 |_,[]=>True
 |X,t::r=>t∈X/\cuts (cut X t) r
instance F5:(X T:List Tie)->Decidable (cuts X T)
 |_,[]=>isTrue trivial
 |X,t::r=>by
  have:=F5 (cut X t) r
  unfold cuts
  infer_instance
theorem wD:∀ (r:List Int),(ties r).length=r.length - 1
 |[]=>rfl
 |[_]=>rfl
 |a::b::r=>by
  have:=wD (b::r)
  simp only [ties,List.length_cons]at*
  omega
def Ej (n:Int) (E:List Tie) (row:List Int):Prop:=ok n E/\row.length=E.length+1/\(∀v∈row,0<=v/\v<n)/\cuts E (ties row)
instance(n:Int) (E:List Tie) (row:List Int):Decidable (Ej n E row):=by unfold Ej;infer_instance
theorem nX {n a b:Int}(h:inr n (kH a b)):(0<=a/\a<n)/\(0<=b/\b<n)/\a≠b:=by
 unfold kH inr at h
 by_cases c:a<b
 ·rw[if_pos c]at h;simp only at h;omega
 rw[if_neg c]at h;simp only at h;omega
theorem zK {n:Int}{E:List Tie}(hE:∀t∈E,inr n t):∀ (r:List Int) (a:Int),0<=a/\a<n->(∀t∈ties (a::r),t∈E)->∀v∈a::r,0<=v/\v<n
 |[],a,ha,_=>by simpa using ha
 |b::r,a,ha,h=>by
  intro v hv
  have ht:kH a b∈E:=h _ (by simp[ties])
  have hb:=(nX (hE _ ht)).2.1
  rcases List.mem_cons.1 hv with rfl|hv
  ·exact ha
  exact zK hE r b hb (fun t ht=>h t (by simp[ties,ht])) v hv
end Go.Proofs.Ytgeonpciodepgaa.G
namespace Go.Proofs.Ytgeonpciodepgaa.G
open Go.RowKit Go.Proofs.YtgeonpciodepgaaW.PrintWords
inductive lD (E:List Tie):Int->Int->Prop
 |refl (a:Int):lD E a a
 |step {a b c:Int}:lD E a b->kH b c∈E->lD E a c
theorem lD.one {E:List Tie}{a b:Int}(h:kH a b∈E):lD E a b:=.step (.refl a) h
theorem lD.trans {E:List Tie}{a b c:Int}(h:lD E a b) (k:lD E b c):lD E a c:=by
 induction k with
 |refl=>exact h
 |step _ t ih=>exact .step ih t
theorem lD.symm {E:List Tie}{a b:Int}(h:lD E a b):lD E b a:=by
 induction h with
 |refl=>exact .refl _
 |step _ t ih=>exact(lD.one (wC _ _▸t)).trans ih
theorem lD.mono {E F:List Tie}{a b:Int}(h:lD E a b) (hs:∀t∈E,t∈F):lD F a b:=by
 induction h with
 |refl=>exact .refl _
 |step _ t ih=>exact .step ih (hs _ t)
theorem lD.closed {E:List Tie}{a b:Int}(h:lD E a b) (p:Int->Prop) (ha:p a) (hc:∀x y,p x->kH x y∈E->p y):p b:=by
 induction h with
 |refl=>exact ha
 |step _ t ih=>exact hc _ _ ih t
theorem lD.range {n:Int}{E:List Tie}(hE:∀t∈E,inr n t) {a b:Int}(h:lD E a b) (ha:0<=a/\a<n):0<=b/\b<n:=
 h.closed (fun x=>0<=x/\x<n) ha (fun _ _ _ ht=>(nX (hE _ ht)).2.1)
theorem lD.tie {E:List Tie}{t:Tie}(ht:t∈E) (h:t.f0<t.f1):lD E t.f0 t.f1:=lD.one (by rw[JA h];exact ht)
def EvP (g:Nat->Option Bool) (P:Prop):Prop:=∃b:Bool,Ev g b/\(b=true↔P)
theorem EvP.of {g:Nat->Option Bool}{P:Prop} [Decidable P] (h:Ev g (decide P)):EvP g P:=⟨_,h,by simp⟩
theorem EvP.iff {g:Nat->Option Bool}{P Q:Prop}(h:EvP g P) (e:P↔Q):EvP g Q:=by
 obtain⟨b,h1,h2⟩:=h
 exact⟨b,h1,h2.trans e⟩
theorem EvP.step {g f:Nat->Option Bool}{P:Prop}(h:∀k,g (k+1)=f k) (k:EvP f P):EvP g P:=by
 obtain⟨b,h1,h2⟩:=k
 exact⟨b,Ev.step h h1,h2⟩
theorem EvP.bind {α:Type}{g:Nat->Option α}{f:Nat->α->Option Bool}{a:α}{P:Prop}(h:Ev g a) (k:EvP (fun n=>f n a) P):EvP (fun n=>(g n).bind (f n)) P:=by
 obtain⟨b,h1,h2⟩:=k
 exact⟨b,Ev.bind h h1,h2⟩
theorem EvP.same {g f:Nat->Option Bool}{P:Prop}(h:EvP g P) (k:EvP f P):∃b,Ev g b/\Ev f b:=by
 obtain⟨b,h1,h2⟩:=h
 obtain⟨c,k1,k2⟩:=k
 have:b=c:=by
  rw[Bool.eq_iff_iff];exact h2.trans k2.symm
 exact⟨b,h1,this▸k1⟩
theorem tL {α:Type} [DecidableEq α]:∀ {l m:List α},l.Nodup->(∀x∈l,x∈m)->l.length<=m.length
 |[],m,_,_=>Nat.zero_le _
 |a::l,m,h,hs=>by
  obtain⟨h1,h2⟩:=List.nodup_cons.1 h
  have ha:a∈m:=hs a (List.mem_cons_self)
  have:l.length<=(m.erase a).length:=tL h2 (fun x hx=>(List.mem_erase_of_ne (fun(e:x=a)=>h1 (by rw[←e];exact hx))).2 (hs x (List.mem_cons_of_mem _ hx)))
  rw[List.length_erase_of_mem ha]at this
  have:0<m.length:=List.length_pos_of_mem ha
  simp only [List.length_cons]
  omega
theorem Dv {α β:Type}(f:α->β):∀ {l:List α},l.Nodup->(∀x∈l,∀y∈l,f x=f y->x=y)->(l.map f).Nodup
 |[],_,_=>by simp
 |a::l,h,hf=>by
  obtain⟨h1,h2⟩:=List.nodup_cons.1 h
  rw[List.map_cons,List.nodup_cons]
  refine⟨fun hm=>?_,Dv f h2 (fun x hx y hy=>hf x (List.mem_cons_of_mem _ hx) y (List.mem_cons_of_mem _ hy))⟩
  obtain⟨y,hy,e⟩:=List.mem_map.1 hm
  have:=hf a (List.mem_cons_self) y (List.mem_cons_of_mem _ hy) e.symm
  exact h1 (this▸hy)
def ma (n:Int):List Int:=(List.range n.toNat).map fun(i:Nat)=>(i:Int)
theorem qj {n v:Int}:v∈ma n↔0<=v/\v<n:=by
 unfold ma
 rw[List.mem_map]
 constructor
 ·rintro⟨i,hi,rfl⟩
  have:=List.mem_range.1 hi
  omega
 rintro⟨h0,h1⟩
 exact⟨v.toNat,List.mem_range.2 (by omega),by omega⟩
theorem Hm (n:Int):(ma n).Nodup:=Dv _ List.nodup_range (fun x _ y _ e=>Int.ofNat.inj e)
theorem pX (n:Int):(ma n).length=n.toNat:=by simp[ma]
theorem xy {n:Int}(h:0<=n):ma (n+1)=ma n++[n]:=by
 unfold ma
 have:(n+1).toNat=n.toNat+1:=by omega
 rw[this,List.range_succ,List.map_append]
 simp
 omega
def next (n:Int) (E:List Tie) (v:Int):List Int:=(ma n).filter fun i=>decide (kH v i∈E)
theorem p8 {n v i:Int}{E:List Tie}(hE:∀t∈E,inr n t):i∈next n E v↔kH v i∈E:=by
 unfold next
 rw[List.mem_filter,qj]
 simp only [decide_eq_true_eq]
 exact⟨fun h=>h.2,fun h=>⟨(nX (hE _ h)).2.1,h⟩⟩
end Go.Proofs.Ytgeonpciodepgaa.G
namespace Go.Proofs.Ytgeonpciodepgaa.G
def pM:List Int->List Int->Prop
 |[],[]=>False
 |[],_::_=>True
 |_::_,[]=>False
 |x::a,y::b=>x<y\/x=y/\pM a b
instance Ia:(a b:List Int)->Decidable (pM a b)
 |[],[]=>isFalse (fun h=>h)
 |[],_::_=>isTrue trivial
 |_::_,[]=>isFalse (fun h=>h)
 |x::a,y::b=>by
  have:=Ia a b
  unfold pM
  infer_instance
theorem zl:∀a:List Int,¬pM a a
 |[],h=>h
 |x::a,h=>by
  rcases h with h|h
  ·omega
  exact zl a h.2
theorem zm:∀ {a b c:List Int},pM a b->pM b c->pM a c
 |[],[],_,h,_=>h.elim
 |[],_::_,[],_,k=>k.elim
 |[],_::_,_::_,_,_=>trivial
 |_::_,[],_,h,_=>h.elim
 |_::_,_::_,[],_,k=>k.elim
 |x::a,y::b,z::c,h,k=>by
  rcases h with h|⟨rfl,h⟩
  ·rcases k with k|⟨rfl,k⟩
   ·exact .inl (by omega)
   exact .inl h
  rcases k with k|⟨rfl,k⟩
  ·exact .inl k
  exact .inr ⟨rfl,zm h k⟩
theorem zn:∀a b:List Int,pM a b\/a=b\/pM b a
 |[],[]=> .inr (.inl rfl)
 |[],_::_=> .inl trivial
 |_::_,[]=> .inr (.inr trivial)
 |x::a,y::b=>by
  rcases Int.lt_trichotomy x y with h|h|h
  ·exact .inl (.inl h)
  ·subst h
   rcases zn a b with h|h|h
   ·exact .inl (.inr ⟨rfl,h⟩)
   ·exact .inr (.inl (by rw[h]))
   exact .inr (.inr (.inr ⟨rfl,h⟩))
  exact .inr (.inr (.inl h))
def wlt (a b:List Int):Prop:=a.length<b.length\/a.length=b.length/\pM a b
instance(a b:List Int):Decidable (wlt a b):=by unfold wlt;infer_instance
theorem xO (a:List Int):¬wlt a a:=by
 rintro(h|h)
 ·omega
 exact zl a h.2
theorem zP {a b c:List Int}(h:wlt a b) (k:wlt b c):wlt a c:=by
 rcases h with h|⟨h,h2⟩
 ·rcases k with k|⟨k,_⟩
  ·exact .inl (by omega)
  exact .inl (by omega)
 rcases k with k|⟨k,k2⟩
 ·exact .inl (by omega)
 exact .inr ⟨by omega,zm h2 k2⟩
theorem zQ (a b:List Int):wlt a b\/a=b\/wlt b a:=by
 rcases Nat.lt_trichotomy a.length b.length with h|h|h
 ·exact .inl (.inl h)
 ·rcases zn a b with k|k|k
  ·exact .inl (.inr ⟨h,k⟩)
  ·exact .inr (.inl k)
  exact .inr (.inr (.inr ⟨h.symm,k⟩))
 exact .inr (.inr (.inl h))
def uz (l:List (List Int)):List (List Int):=l.mergeSort fun a b=> !decide (wlt b a)
theorem wu (l:List (List Int)):(uz l).Perm l:=List.mergeSort_perm l _
theorem D7 (l:List (List Int)):(uz l).Pairwise fun a b=>¬wlt b a:=by
 have:=List.pairwise_mergeSort (le:=fun a b=> !decide (wlt b a)) (fun a b c h1 h2=>by
  simp only [Bool.not_eq_true',decide_eq_false_iff_not]at*
  intro h
  rcases zQ a b with x|x|x
  ·exact h2 (zP h x)
  ·subst x;exact h2 h
  ·exact h1 x) (fun a b=>by
  rcases zQ a b with x|x|x
  ·have:¬wlt b a:=fun k=>xO _ (zP x k)
   simp[this]
  ·subst x;simp[xO]
  have:¬wlt a b:=fun k=>xO _ (zP x k)
  simp[this]) l
 exact this.imp (fun{a b} h=>by simpa using h)
theorem Jn {l:List (List Int)}{p:List Int}(hp:p∈l) (hm:∀q∈l,¬wlt q p):∃r,uz l=p::r:=by
 have h1:=D7 l
 have h2:=(wu l).mem_iff (a:=p)
 cases e:uz l with
 |nil=>rw[e]at h2;exact absurd (h2.2 hp) (by simp)
 |cons h r=>
  rw[e]at h1 h2
  have hh:h∈l:=(wu l).mem_iff.1 (by rw[e];simp)
  rcases zQ p h with x|x|x
  ·rcases List.mem_cons.1 (h2.2 hp) with q|q
   ·rw[q];exact⟨r,rfl⟩
   exact absurd x ((List.pairwise_cons.1 h1).1 p q)
  ·rw[x];exact⟨r,rfl⟩
  exact absurd x (hm h hh)
theorem Jm {l r:List (List Int)}{p:List Int}(h:uz l=p::r):p∈l/\∀q∈l,¬wlt q p:=by
 have h1:=D7 l
 rw[h]at h1
 refine⟨(wu l).mem_iff.1 (by rw[h];simp),fun q hq=>?_⟩
 have:q∈p::r:=by rw[←h];exact(wu l).mem_iff.2 hq
 rcases List.mem_cons.1 this with e|e
 ·rw[e];exact xO p
 exact(List.pairwise_cons.1 h1).1 q e
structure qf (E:List Tie) (a b:Int) (p:List Int):Prop where
 head:p.head? =some a
 last:p.getLast? =some b
 ties:∀t∈ties p,t∈E
 nodup:p.Nodup
def su (n:Int) (E:List Tie) (tgt:Int):Nat->List Int->Int->List (List Int)
 |0,_,_=>[]
 |d+1,pre,v=>if v=tgt then[pre++[v]] else((next n E v).filter fun k=> !decide (k∈pre++[v])).flatMap fun k=>su n E tgt d (pre++[v]) k
theorem Dn {n tgt:Int}{E:List Tie}(hE:∀t∈E,inr n t):∀ (d:Nat) (pre:List Int) (v:Int) (p:List Int),p∈su n E tgt d pre v->(pre++[v]).Nodup->
  ∃ext,p=pre++v::ext/\(∀t∈ties (v::ext),t∈E)/\(v::ext).getLast? =some tgt/\p.Nodup
 |0,pre,v,p,h,_=>by simp[su]at h
 |d+1,pre,v,p,h,hn=>by
  unfold su at h
  by_cases c:v=tgt
  ·rw[if_pos c,List.mem_singleton]at h
   exact⟨[],h,by simp[ties],by simp[c],h▸hn⟩
  rw[if_neg c,List.mem_flatMap]at h
  obtain⟨k,hk,h⟩:=h
  rw[List.mem_filter,p8 hE]at hk
  have hk2:k∉pre++[v]:=by simpa using hk.2
  have hn2:((pre++[v])++[k]).Nodup:=by
   rw[List.nodup_append]
   exact⟨hn,by simp,fun a ha b hb e=>by rw[List.mem_singleton]at hb;subst hb;subst e;exact hk2 ha⟩
  obtain⟨ext,e,ht,hl,hd⟩:=Dn hE d (pre++[v]) k p h hn2
  refine⟨k::ext,by rw[e];simp,fun t ht2=>?_,?_,hd⟩
  ·simp only [ties,List.mem_cons]at ht2
   rcases ht2 with rfl|ht2
   ·exact hk.1
   exact ht t ht2
  rw[List.getLast?_cons_cons];exact hl
theorem Em {n tgt:Int}{E:List Tie}(hE:∀t∈E,inr n t):∀ (d:Nat) (pre:List Int) (v:Int) (ext:List Int),(∀t∈ties (v::ext),t∈E)->(v::ext).getLast? =some tgt->(pre++v::ext).Nodup->ext.length<d->
  pre++v::ext∈su n E tgt d pre v
 |0,_,_,_,_,_,_,h=>absurd h (Nat.not_lt_zero _)
 |d+1,pre,v,[],_,hl,_,_=>by
  have:v=tgt:=by simpa using hl
  unfold su
  rw[if_pos this];simp
 |d+1,pre,v,k::ext,ht,hl,hn,hd=>by
  have c:v≠tgt:=by
   intro c
   rw[List.getLast?_cons_cons]at hl
   have h1:=List.mem_of_getLast? hl
   rw[List.nodup_append]at hn
   exact(List.nodup_cons.1 hn.2.1).1 (c▸h1)
  unfold su
  rw[if_neg c,List.mem_flatMap]
  have e:pre++v::k::ext=(pre++[v])++k::ext:=by simp
  refine⟨k,?_,?_⟩
  ·rw[List.mem_filter,p8 hE]
   refine⟨ht _ (by simp[ties]),?_⟩
   rw[e,List.nodup_append]at hn
   have:k∉pre++[v]:=fun h=>hn.2.2 k h k (by simp) rfl
   simpa using this
  rw[e]at hn⊢
  exact Em hE d (pre++[v]) k ext (fun t h=>ht t (by simp[ties,h])) (by rw[List.getLast?_cons_cons]at hl;exact hl) hn (by simp at hd;omega)
def rP (n:Int) (E:List Tie) (a b:Int):List (List Int):=uz (su n E b 9 [] a)
theorem JI {n a b:Int}{E:List Tie}(hE:∀t∈E,inr n t) (ha:0<=a/\a<n) {p:List Int}(h:qf E a b p):∀v∈p,0<=v/\v<n:=by
 cases p with
 |nil=>simp
 |cons x r=>
  have:x=a:=by have:=h.head;simpa using this
  subst this
  exact zK hE r x ha h.ties
theorem JJ {n a b:Int}{E:List Tie}(hE:∀t∈E,inr n t) (ha:0<=a/\a<n) {p:List Int}(h:qf E a b p):(p.length:Int)<=n:=by
 have:=tL h.nodup (fun x hx=>qj.2 (JI hE ha h x hx))
 rw[pX]at this
 omega
theorem xB {n a b:Int}{E:List Tie}(h8:n<=8) (hE:∀t∈E,inr n t) (ha:0<=a/\a<n) {p:List Int}:p∈su n E b 9 [] a↔qf E a b p:=by
 constructor
 ·intro h
  obtain⟨ext,e,ht,hl,hn⟩:=Dn hE 9 [] a p h (by simp)
  rw[List.nil_append]at e
  subst e
  exact⟨rfl,hl,ht,hn⟩
 intro h
 have hl:=JJ hE ha h
 cases p with
 |nil=>have:=h.head;simp at this
 |cons x r=>
  have:x=a:=by have:=h.head;simpa using this
  subst this
  exact Em hE 9 [] x r h.ties h.last h.nodup (by simp at hl;omega)
theorem zo {n a b:Int}{E:List Tie}(h8:n<=8) (hE:∀t∈E,inr n t) (ha:0<=a/\a<n) {p:List Int}:p∈rP n E a b↔qf E a b p:=by
 unfold rP
 rw[(wu _).mem_iff,xB h8 hE ha]
theorem EZ {n a b:Int}{E:List Tie}(h8:n<=8) (hE:∀t∈E,inr n t) (ha:0<=a/\a<n) {p:List Int}(hp:qf E a b p) (hm:∀q,qf E a b q->¬wlt q p):∃r,rP n E a b=p::r:=
 Jn ((xB h8 hE ha).2 hp) (fun q hq=>hm q ((xB h8 hE ha).1 hq))
theorem Aw {n a b:Int}{E:List Tie}{p:List Int}(h:qf E a b p):lD E a b:=by
 obtain⟨h1,h2,h3,_⟩:=h
 have go:∀ (p:List Int) (a:Int),(a::p).getLast? =some b->(∀t∈ties (a::p),t∈E)->lD E a b:=by
  intro p
  induction p with
  |nil=>
   intro a h _
   have:a=b:=by simpa using h
   rw[this];exact .refl _
  |cons x p ih=>
   intro a h ht
   rw[List.getLast?_cons_cons]at h
   exact(lD.one (ht _ (by simp[ties]))).trans (ih x h (fun t q=>ht t (by simp[ties,q])))
 cases p with
 |nil=>simp at h1
 |cons x r=>
  have:x=a:=by simpa using h1
  subst this
  exact go r x h2 h3
structure Far (n:Int) (E:List Tie) (b:Int) (f:Int->Int):Prop where
 zero:f b=0
 only:∀v,0<=v->v<n->f v=0->v=b
 down:∀v,0<=v->v<n->0<f v->∃w,kH v w∈E/\f w=f v - 1
 near:∀v w,kH v w∈E->0<=f v->0<=f w/\f w<=f v+1
 lo:∀v,0<=v->v<n-> -1<=f v
def down (n:Int) (E:List Tie) (f:Int->Int):Nat->Int->List Int
 |0,v=>[v]
 |d+1,v=>v::down n E f d (((next n E v).find? fun w=>decide (f w=d)).getD 0)
theorem Dt (n v:Int) (E:List Tie):(next n E v).Pairwise (· <·):=by
 unfold next ma
 refine List.Pairwise.sublist List.filter_sublist ?_
 rw[List.pairwise_map]
 exact List.pairwise_lt_range.imp (fun{a b} h=>by omega)
theorem Far.step {n b:Int}{E:List Tie}{f:Int->Int}(F:Far n E b f) (hE:∀t∈E,inr n t) {d:Nat}{v:Int}(hv:0<=v/\v<n) (hf:f v=(d+1:Nat)):
  ∃x,(next n E v).find? (fun w=>decide (f w=d))=some x/\kH v x∈E/\f x=d/\(0<=x/\x<n)/\∀w,kH v w∈E->f w=d->x<=w:=by
 obtain⟨w,h1,h2⟩:=F.down v hv.1 hv.2 (by omega)
 have hw:w∈next n E v:=(p8 hE).2 h1
 cases e:(next n E v).find? (fun w=>decide (f w=d)) with
 |none=>
  rw[List.find?_eq_none]at e
  have:=e w hw
  simp at this
  omega
 |some x=>
  have hx:=List.mem_of_find?_eq_some e
  have hx2:=List.find?_some e
  simp only [decide_eq_true_eq]at hx2
  have ht:=(p8 hE).1 hx
  refine⟨x,rfl,ht,hx2,(nX (hE _ ht)).2.1,fun w h1 h2=>?_⟩
  obtain⟨_,ls,rs,e1,e2⟩:=List.find?_eq_some_iff_append.1 e
  have hw:w∈next n E v:=(p8 hE).2 h1
  rw[e1,List.mem_append]at hw
  rcases hw with q|q
  ·have:=e2 w q
   simp[h2]at this
  rcases List.mem_cons.1 q with q|q
  ·omega
  have hs:=Dt n v E
  rw[e1,List.pairwise_append]at hs
  have:=(List.pairwise_cons.1 hs.2.1).1 w q
  omega
theorem uM {n b:Int}{E:List Tie}{f:Int->Int}(F:Far n E b f) (hE:∀t∈E,inr n t):∀ (d:Nat) (v:Int),0<=v/\v<n->f v=(d:Int)->
  ∃r,down n E f d v=v::r/\r.length=d/\(v::r).getLast? =some b/\(∀t∈ties (v::r),t∈E)/\(∀x∈r,f x<d)/\(v::r).Nodup
 |0,v,hv,hf=>⟨[],rfl,rfl,by rw[F.only v hv.1 hv.2 hf];rfl,by simp[ties],by simp,by simp⟩
 |d+1,v,hv,hf=>by
  obtain⟨x,e,ht,hx,hr,_⟩:=F.step hE hv hf
  obtain⟨r,e1,e2,e3,e4,e5,e6⟩:=uM F hE d x hr hx
  refine⟨x::r,?_,by simp[e2],?_,?_,?_,?_⟩
  ·unfold down
   rw[e]
   simp only [Option.getD_some,e1]
  ·rw[List.getLast?_cons_cons];exact e3
  ·intro t h
   simp only [ties,List.mem_cons]at h
   rcases h with rfl|h
   ·exact ht
   exact e4 t h
  ·intro y hy
   rcases List.mem_cons.1 hy with rfl|hy
   ·omega
   have:=e5 y hy;omega
  rw[List.nodup_cons]
  refine⟨fun h=>?_,e6⟩
  rcases List.mem_cons.1 h with q|q
  ·rw[q]at hf;omega
  have:=e5 v q;omega
theorem Far.walk {n b:Int}{E:List Tie}{f:Int->Int}(F:Far n E b f):∀ (r:List Int) (v:Int),(v::r).getLast? =some b->(∀t∈ties (v::r),t∈E)->0<=f v/\f v<=(r.length:Int)
 |[],v,h,_=>by
  have:v=b:=by simpa using h
  rw[this,F.zero];simp
 |w::r,v,h,ht=>by
  rw[List.getLast?_cons_cons]at h
  have:=F.walk r w h (fun t q=>ht t (by simp[ties,q]))
  have:=F.near w v (by rw[wC];exact ht _ (by simp[ties])) (by omega)
  simp only [List.length_cons]
  omega
theorem CJ {n b:Int}{E:List Tie}{f:Int->Int}(F:Far n E b f) (hE:∀t∈E,inr n t):∀ (d:Nat) (v:Int) (q:List Int),0<=v/\v<n->f v=(d:Int)->(v::q).getLast? =some b->(∀t∈ties (v::q),t∈E)->q.length<=d->
  q.length=d/\¬pM (v::q) (down n E f d v)
 |0,v,[],_,_,_,_,_=>⟨rfl,by simp[down,pM]⟩
 |0,v,_::_,_,_,_,_,h=>by simp at h
 |d+1,v,[],hv,hf,h,_,_=>by
  have:v=b:=by simpa using h
  rw[this,F.zero]at hf;omega
 |d+1,v,w::q,hv,hf,h,ht,hl=>by
  obtain⟨x,e,htx,hx,hr,hmin⟩:=F.step hE hv hf
  rw[List.getLast?_cons_cons]at h
  have hw:=F.walk q w h (fun t k=>ht t (by simp[ties,k]))
  have htw:kH v w∈E:=ht _ (by simp[ties])
  have h2:=F.near w v (by rw[wC];exact htw) (by omega)
  have hfw:f w=(d:Int):=by simp only [List.length_cons]at hl;omega
  obtain⟨a,b2⟩:=CJ F hE d w q (nX (hE _ htw)).2.1 hfw h (fun t k=>ht t (by simp[ties,k])) (by simp only [List.length_cons]at hl;omega)
  refine⟨by simp[a],?_⟩
  unfold down
  rw[e]
  simp only [Option.getD_some]
  intro k
  have hm:=hmin w htw hfw
  obtain⟨r,e1,_⟩:=uM F hE d x hr hx
  rcases k with k|⟨_,k⟩
  ·omega
  by_cases c:w=x
  ·subst c;exact b2 k
  rw[e1]at k
  rcases k with k|k
  ·omega
  exact c k.1
def um (n:Int) (E:List Tie) (f:Int->Int) (a:Int):List Int:=down n E f (f a).toNat a
theorem Far.first {n a b:Int}{E:List Tie}{f:Int->Int}(F:Far n E b f) (hE:∀t∈E,inr n t) (ha:0<=a/\a<n) (h:0<=f a):qf E a b (um n E f a)/\∀q,qf E a b q->¬wlt q (um n E f a):=by
 obtain⟨r,e1,e2,e3,e4,e5,e6⟩:=uM F hE (f a).toNat a ha (by omega)
 unfold um
 refine⟨⟨by rw[e1];rfl,by rw[e1];exact e3,by rw[e1];exact e4,by rw[e1];exact e6⟩,fun q hq k=>?_⟩
 cases q with
 |nil=>have:=hq.head;simp at this
 |cons x q=>
  have:x=a:=by have:=hq.head;simpa using this
  subst this
  have hl:q.length<=(f x).toNat:=by
   rw[e1]at k
   rcases k with k|k
   ·simp only [List.length_cons,e2]at k;omega
   have:=k.1;simp only [List.length_cons,e2]at this;omega
  obtain⟨l1,l2⟩:=CJ F hE (f x).toNat x q ha (by omega) hq.last hq.ties hl
  rcases k with k|k
  ·rw[e1]at k;simp only [List.length_cons,e2]at k;omega
  exact l2 k.2
theorem Far.conn {n a b:Int}{E:List Tie}{f:Int->Int}(F:Far n E b f) (hE:∀t∈E,inr n t) (ha:0<=a/\a<n):0<=f a↔lD E a b:=by
 constructor
 ·intro h;exact Aw (n:=n) (F.first hE ha h).1
 intro h
 refine h.symm.closed (fun x=>0<=f x) (by rw[F.zero];omega) (fun x y hx ht=>(F.near x y ht hx).1)
theorem CS {n a b:Int}{E:List Tie}{f:Int->Int}(F:Far n E b f) (h8:n<=8) (hE:∀t∈E,inr n t) (ha:0<=a/\a<n) (h:0<=f a):∃r,rP n E a b=um n E f a::r:=
 EZ h8 hE ha (F.first hE ha h).1 (F.first hE ha h).2
theorem GD {n a b:Int}{E:List Tie}{f:Int->Int}(F:Far n E b f) (h8:n<=8) (hE:∀t∈E,inr n t) (ha:0<=a/\a<n) (h:¬0<=f a):rP n E a b=[]:=by
 rw[List.eq_nil_iff_forall_not_mem]
 intro p hp
 exact h ((F.conn hE ha).2 (Aw (n:=n) ((zo h8 hE ha).1 hp)))
end Go.Proofs.Ytgeonpciodepgaa.G
namespace Go.Proofs.Ytgeonpciodepgaa.G
open Go.RowKit Go.Proofs.YtgeonpciodepgaaW.PrintWords
def uY (E:List Tie) (b:Int):Nat->Int->Prop
 |0,v=>v=b
 |k+1,v=>∃w,kH v w∈E/\uY E b k w
theorem vP {P:Nat->Prop}(h:∃k,P k):∃k,P k/\∀j,P j->k<=j:=by
 obtain⟨k,hk⟩:=h
 induction k using Nat.strongRecOn with
 |_ k ih=>
  by_cases c:∃j,j<k/\P j
  ·obtain⟨j,hj,hp⟩:=c
   exact ih j hj hp
  refine⟨k,hk,fun j hj=>?_⟩
  rcases Nat.lt_or_ge j k with h|h
  ·exact absurd ⟨j,h,hj⟩ c
  exact h
open Classical in
noncomputable def qY (E:List Tie) (b v:Int):Int:=if h:∃k,uY E b k v then((Classical.choose (vP h):Nat):Int) else -1
theorem xn {E:List Tie}{b v:Int}{k:Nat}(h:uY E b k v):0<=qY E b v/\qY E b v<=k:=by
 classical
 unfold qY
 rw[dif_pos ⟨k,h⟩]
 have:=(Classical.choose_spec (vP (⟨k,h⟩:∃k,uY E b k v))).2 k h
 omega
theorem xm {E:List Tie}{b v:Int}(h:0<=qY E b v):uY E b (qY E b v).toNat v:=by
 classical
 unfold qY at*
 by_cases c:∃k,uY E b k v
 ·rw[dif_pos c]at*
  exact(Classical.choose_spec (vP c)).1
 rw[dif_neg c]at h;omega
theorem Gy (n:Int) (E:List Tie) (b:Int):Far n E b (qY E b) where
 zero:=by have:=xn (E:=E) (b:=b) (v:=b) (k:=0) rfl;omega
 only:=fun v _ _ h=>by
  have:=xm (E:=E) (b:=b) (v:=v) (by omega)
  rw[h]at this;exact this
 down:=fun v _ _ h=>by
  have h1:=xm (E:=E) (b:=b) (v:=v) (by omega)
  obtain⟨k,e⟩:∃k:Nat,(qY E b v).toNat=k+1:=⟨(qY E b v).toNat - 1,by omega⟩
  rw[e]at h1
  obtain⟨w,ht,hw⟩:=h1
  have h2:=xn hw
  have h3:=xm h2.1
  have h4:=xn (k:=(qY E b w).toNat+1) (v:=v) ⟨w,ht,h3⟩
  exact⟨w,ht,by omega⟩
 near:=fun v w ht h=>by
  have h1:=xm h
  have h2:=xn (k:=(qY E b v).toNat+1) (v:=w) ⟨v,by rw[wC];exact ht,h1⟩
  omega
 lo:=fun v _ _=>by
  unfold qY
  split<;>omega
def found (n:Int) (E:List Tie) (a b:Int):List Int×Bool:=match rP n E a b with
 |[]=>([],false)
 |p::_=>(p,true)
theorem GJ {n a b:Int}{E:List Tie}{f:Int->Int}(F:Far n E b f) (h8:n<=8) (hE:∀t∈E,inr n t) (ha:0<=a/\a<n):found n E a b=if 0<=f a then(um n E f a,true) else([],false):=by
 unfold found
 by_cases c:0<=f a
 ·obtain⟨r,e⟩:=CS F h8 hE ha c
  rw[e,if_pos c]
 rw[GD F h8 hE ha c,if_neg c]
theorem GM {n a b:Int}{E:List Tie}(h8:n<=8) (hE:∀t∈E,inr n t) (ha:0<=a/\a<n) (h:lD E a b):∃p r,rP n E a b=p::r/\found n E a b=(p,true)/\qf E a b p:=by
 have F:=Gy n E b
 have c:=(F.conn hE ha).2 h
 obtain⟨r,e⟩:=CS F h8 hE ha c
 refine⟨_,r,e,?_,(F.first hE ha c).1⟩
 unfold found
 rw[e]
theorem GK {n a b:Int}{E:List Tie}(h8:n<=8) (hE:∀t∈E,inr n t) (ha:0<=a/\a<n) (h:(found n E a b).2=true):qf E a b (found n E a b).1:=by
 unfold found at*
 cases e:rP n E a b with
 |nil=>rw[e]at h;simp at h
 |cons p r=>exact(zo h8 hE ha).1 (by rw[e];simp)
end Go.Proofs.Ytgeonpciodepgaa.G
namespace Go.Proofs.Ytgeonpciodepgaa.G
theorem Eh:∀ (xs:List Int) (y a:Int),ties (xs++[y,a])=ties (xs++[y])++[kH y a]
 |[],y,a=>rfl
 |[x],y,a=>rfl
 |x::z::r,y,a=>by
  have:=Eh (z::r) y a
  show kH x z::ties (z::r++[y,a])=kH x z::ties (z::r++[y])++[kH y a]
  rw[this];rfl
def rO (ks:List Int) (v:Int):List Int:=if v∈ks then ks else ks++[v]
def nA (ks:List Int) (row:List Int):List Int:=row.foldl rO ks
theorem Ij (ks:List Int) (v x:Int):x∈rO ks v↔x∈ks\/x=v:=by
 unfold rO;split
 ·rename_i h;exact⟨Or.inl,fun k=>k.elim id (fun e=>e▸h)⟩
 simp
theorem Ip {ks:List Int}(v:Int) (h:ks.Nodup):(rO ks v).Nodup:=by
 unfold rO;split
 ·exact h
 rename_i k
 rw[List.nodup_append]
 exact⟨h,by simp,fun x hx y hy e=>by rw[List.mem_singleton]at hy;subst hy;subst e;exact k hx⟩
theorem rY:∀ (row ks:List Int) (x:Int),x∈nA ks row↔x∈ks\/x∈row
 |[],ks,x=>by simp[nA]
 |v::r,ks,x=>by
  show x∈nA (rO ks v) r↔_
  rw[rY r,Ij];simp[or_assoc]
theorem Du:∀ (row:List Int) {ks:List Int},ks.Nodup->(nA ks row).Nodup
 |[],_,h=>h
 |v::r,_,h=>Du r (Ip v h)
theorem EX (ks p q:List Int):nA ks (p++q)=nA (nA ks p) q:=by unfold nA;rw[List.foldl_append]
theorem Au:∀ (row ks:List Int),(nA ks row).length<=ks.length+row.length
 |[],ks=>by simp[nA]
 |v::r,ks=>by
  have h:=Au r (rO ks v)
  have:(rO ks v).length<=ks.length+1:=by unfold rO;split<;>simp
  show(nA (rO ks v) r).length<=_
  simp only [List.length_cons];omega
def Dp (row:List Int):List Int:=(row.drop 1).dropLast
def xw (row:List Int):Int:=row.getD 0 0
def mI (row:List Int):Int:=row.getLastD 0
structure Kl (n:Int) (E taken:List Tie) (ks:List Int) (first:Bool) (row:List Int):Prop where
 len:2<=row.length
 ma:∀v∈row,0<=v/\v<n
 tied:∀t∈ties row,t∈E
 ring:first=true->xw row=mI row
 ends:first=false->xw row∈ks/\mI row∈ks
 long:xw row=mI row->4<=row.length
 mid:(Dp row).Nodup
 apart:∀v∈Dp row,v∉ks/\v≠xw row
 new:∀t∈ties row,t∉taken
theorem xL {t:Tie}:∀ (r:List Int),t∈ties r->t.f0∈r/\t.f1∈r
 |[],h=>by simp[ties]at h
 |[a],h=>by simp[ties]at h
 |a::b::r,h=>by
  simp only [ties,List.mem_cons]at h
  rcases h with rfl|h
  ·unfold kH;split<;>simp
  have:=xL (b::r) h
  exact⟨List.mem_cons_of_mem _ this.1,List.mem_cons_of_mem _ this.2⟩
theorem zJ:∀ (p:List Int) (v w:Int) (s:List Int),ties (p++v::w::s)=ties (p++[v])++kH v w::ties (w::s)
 |[],v,w,s=>by simp[ties]
 |[a],v,w,s=>by simp[ties]
 |a::b::r,v,w,s=>by
  have:=zJ (b::r) v w s
  simp only [List.cons_append,ties]at this⊢
  rw[this]
def blt (a b:List Int):Prop:=a.length<b.length\/a.length=b.length/\(mI a<mI b\/mI a=mI b/\pM a b)
instance(a b:List Int):Decidable (blt a b):=by unfold blt;infer_instance
theorem AU (a:List Int):¬blt a a:=by
 rintro(h|⟨_,h|⟨_,h⟩⟩)
 ·omega
 ·omega
 exact zl a h
theorem AV {a b c:List Int}(h:blt a b) (k:blt b c):blt a c:=by
 rcases h with h|⟨h1,h⟩
 ·rcases k with k|⟨k1,k⟩
  ·exact .inl (by omega)
  exact .inl (by omega)
 rcases k with k|⟨k1,k⟩
 ·exact .inl (by omega)
 refine .inr ⟨by omega,?_⟩
 rcases h with h|⟨h2,h⟩
 ·rcases k with k|⟨k2,k⟩
  ·exact .inl (by omega)
  exact .inl (by omega)
 rcases k with k|⟨k2,k⟩
 ·exact .inl (by omega)
 exact .inr ⟨by omega,zm h k⟩
theorem AX (a b:List Int):blt a b\/a=b\/blt b a:=by
 rcases Nat.lt_trichotomy a.length b.length with h|h|h
 ·exact .inl (.inl h)
 ·rcases Int.lt_trichotomy (mI a) (mI b) with k|k|k
  ·exact .inl (.inr ⟨h,.inl k⟩)
  ·rcases zn a b with g|g|g
   ·exact .inl (.inr ⟨h,.inr ⟨k,g⟩⟩)
   ·exact .inr (.inl g)
   exact .inr (.inr (.inr ⟨h.symm,.inr ⟨k.symm,g⟩⟩))
  exact .inr (.inr (.inr ⟨h.symm,.inl k⟩))
 exact .inr (.inr (.inl h))
structure oN (E:List Tie) (R:List Int) (v:Int) (p:List Int):Prop where
 head:p.head? =some v
 ties:∀t∈ties p,t∈E
 nodup:p.Nodup
 inner:∀x∈p.dropLast,x∉R
 last:mI p∈R
def sW (E:List Tie) (R:List Int) (v:Int) (p:List Int):Prop:=oN E R v p/\∀q,oN E R v q->¬blt q p
theorem Fg {E:List Tie}{R:List Int}{v:Int}{p q:List Int}(h:sW E R v p) (k:sW E R v q):p=q:=by
 rcases AX p q with g|g|g
 ·exact absurd g (k.2 p h.1)
 ·exact g
 exact absurd g (h.2 q k.1)
def oJ (n:Int) (E:List Tie) (R:List Int):Nat->List Int->Int->List (List Int)
 |0,_,_=>[]
 |d+1,pre,v=>if v∈R then[pre++[v]] else((next n E v).filter fun k=> !decide (k∈pre++[v])).flatMap fun k=>oJ n E R d (pre++[v]) k
theorem Dj (v k:Int) (r:List Int):mI (v::k::r)=mI (k::r):=by unfold mI;rfl
theorem vN (v k:Int) (r:List Int):(v::k::r).dropLast=v::(k::r).dropLast:=rfl
theorem Dl {n:Int}{E:List Tie}{R:List Int}(hE:∀t∈E,inr n t):∀ (d:Nat) (pre:List Int) (v:Int) (p:List Int),p∈oJ n E R d pre v->(pre++[v]).Nodup->
  ∃ext,p=pre++v::ext/\(∀t∈ties (v::ext),t∈E)/\(∀x∈(v::ext).dropLast,x∉R)/\mI (v::ext)∈R/\p.Nodup
 |0,pre,v,p,h,_=>by simp[oJ]at h
 |d+1,pre,v,p,h,hn=>by
  unfold oJ at h
  by_cases c:v∈R
  ·rw[if_pos c,List.mem_singleton]at h
   exact⟨[],h,by simp[ties],by simp,c,h▸hn⟩
  rw[if_neg c,List.mem_flatMap]at h
  obtain⟨k,hk,h⟩:=h
  rw[List.mem_filter,p8 hE]at hk
  have hk2:k∉pre++[v]:=by simpa using hk.2
  have hn2:((pre++[v])++[k]).Nodup:=by
   rw[List.nodup_append]
   exact⟨hn,by simp,fun a ha b hb e=>by rw[List.mem_singleton]at hb;subst hb;subst e;exact hk2 ha⟩
  obtain⟨ext,e,ht,hi,hl,hd⟩:=Dl hE d (pre++[v]) k p h hn2
  refine⟨k::ext,by rw[e];simp,fun t ht2=>?_,fun x hx=>?_,by rw[Dj];exact hl,hd⟩
  ·simp only [ties,List.mem_cons]at ht2
   rcases ht2 with rfl|ht2
   ·exact hk.1
   exact ht t ht2
  rw[vN]at hx
  rcases List.mem_cons.1 hx with rfl|hx
  ·exact c
  exact hi x hx
theorem Bb {n:Int}{E:List Tie}{R:List Int}(hE:∀t∈E,inr n t):∀ (d:Nat) (pre:List Int) (v:Int) (ext:List Int),(∀t∈ties (v::ext),t∈E)->(∀x∈(v::ext).dropLast,x∉R)->mI (v::ext)∈R->(pre++v::ext).Nodup->ext.length<d->
  pre++v::ext∈oJ n E R d pre v
 |0,_,_,_,_,_,_,_,h=>absurd h (Nat.not_lt_zero _)
 |d+1,pre,v,[],_,_,hl,_,_=>by
  have:v∈R:=hl
  unfold oJ
  rw[if_pos this];simp
 |d+1,pre,v,k::ext,ht,hi,hl,hn,hd=>by
  have c:v∉R:=hi v (by rw[vN];simp)
  unfold oJ
  rw[if_neg c,List.mem_flatMap]
  have e:pre++v::k::ext=(pre++[v])++k::ext:=by simp
  refine⟨k,?_,?_⟩
  ·rw[List.mem_filter,p8 hE]
   refine⟨ht _ (by simp[ties]),?_⟩
   rw[e,List.nodup_append]at hn
   have:k∉pre++[v]:=fun h=>hn.2.2 k h k (by simp) rfl
   simpa using this
  rw[e]at hn⊢
  exact Bb hE d (pre++[v]) k ext (fun t h=>ht t (by simp[ties,h])) (fun x hx=>hi x (by rw[vN];exact List.mem_cons_of_mem _ hx)) (by rw[←Dj v];exact hl) hn (by simp at hd;omega)
theorem yE {n v:Int}{E:List Tie}{R:List Int}(hE:∀t∈E,inr n t) (hv:0<=v/\v<n) {p:List Int}(h:oN E R v p):∀x∈p,0<=x/\x<n:=by
 cases p with
 |nil=>simp
 |cons x r=>
  have:x=v:=by have:=h.head;simpa using this
  subst this
  exact zK hE r x hv h.ties
theorem xz {n v:Int}{E:List Tie}{R:List Int}(h8:n<=8) (hE:∀t∈E,inr n t) (hv:0<=v/\v<n) {p:List Int}:p∈oJ n E R 9 [] v↔oN E R v p:=by
 constructor
 ·intro h
  obtain⟨ext,e,ht,hi,hl,hn⟩:=Dl hE 9 [] v p h (by simp)
  rw[List.nil_append]at e
  subst e
  exact⟨rfl,ht,hn,hi,hl⟩
 intro h
 have hk:=tL h.nodup (fun x hx=>qj.2 (yE hE hv h x hx))
 rw[pX]at hk
 cases p with
 |nil=>have:=h.head;simp at this
 |cons x r=>
  have:x=v:=by have:=h.head;simpa using this
  subst this
  exact Bb hE 9 [] x r h.ties h.inner h.last h.nodup (by simp at hk;omega)
def ol (best w:List Int):List Int:=if best=[]\/blt w best then w else best
theorem CY:∀ (l:List (List Int)) (b:List Int),(∀x∈l,x≠[])->(b=[]->l=[]->l.foldl ol b=[])/\
  (b≠[]->(l.foldl ol b=b\/l.foldl ol b∈l)/\¬blt b (l.foldl ol b)/\∀q∈l,¬blt q (l.foldl ol b))/\
  (b=[]->l≠[]->l.foldl ol b∈l/\∀q∈l,¬blt q (l.foldl ol b))
 |[],b,_=>⟨fun h _=>h,fun _=>⟨.inl rfl,AU b,by simp⟩,fun _ h=>absurd rfl h⟩
 |x::l,b,hx=>by
  have hx0:=hx x List.mem_cons_self
  obtain⟨_,i2,_⟩:=CY l (ol b x) (fun y hy=>hx y (List.mem_cons_of_mem _ hy))
  have np:ol b x≠[]:=by
   unfold ol
   split
   ·exact hx0
   rename_i c;exact fun e=>c (.inl e)
  obtain⟨j1,j2,j3⟩:=i2 np
  rw[List.foldl_cons]
  generalize hr:l.foldl ol (ol b x)=r at*
  have hpx:¬blt x r:=by
   unfold ol at j2
   intro k
   split at j2
   ·exact j2 k
   rename_i c
   rcases AX b r with g|g|g
   ·exact j2 g
   ·exact c (.inr (g▸k))
   exact c (.inr (AV k g))
  refine⟨fun _ h=>by simp at h,fun hb=>⟨?_,?_,fun q hq=>?_⟩,fun hb _=>⟨?_,fun q hq=>?_⟩⟩
  ·rcases j1 with j|j
   ·rw[j]
    unfold ol
    split
    ·exact .inr List.mem_cons_self
    exact .inl rfl
   exact .inr (List.mem_cons_of_mem _ j)
  ·intro k
   unfold ol at j2
   split at j2
   ·rename_i c
    rcases c with c|c
    ·exact hb c
    exact j2 (AV c k)
   exact j2 k
  ·rcases List.mem_cons.1 hq with rfl|hq
   ·exact hpx
   exact j3 q hq
  ·rcases j1 with j|j
   ·rw[j]
    unfold ol
    rw[if_pos (.inl hb)]
    exact List.mem_cons_self
   exact List.mem_cons_of_mem _ j
  rcases List.mem_cons.1 hq with rfl|hq
  ·exact hpx
  exact j3 q hq
theorem IL {n v:Int}{E:List Tie}{R:List Int}(h8:n<=8) (hE:∀t∈E,inr n t) (hv:0<=v/\v<n) {p:List Int}(hp:oN E R v p):sW E R v ((oJ n E R 9 [] v).foldl ol []):=by
 have ne:oJ n E R 9 [] v≠[]:=fun e=>by have:=(xz h8 hE hv).2 hp;rw[e]at this;simp at this
 obtain⟨_,_,h3⟩:=CY (oJ n E R 9 [] v) [] (fun x hx e=>by
  have:=((xz h8 hE hv).1 hx).head
  rw[e]at this;simp at this)
 obtain⟨a,b⟩:=h3 rfl ne
 exact⟨(xz h8 hE hv).1 a,fun q hq=>b q ((xz h8 hE hv).2 hq)⟩
def but (E:List Tie) (R:List Int) (k:Int):List Tie:=E.filter fun t=>decide ((t.f0∈R->t.f0=k)/\(t.f1∈R->t.f1=k))
theorem zq {E:List Tie}{R:List Int}{k:Int}{t:Tie}:t∈but E R k↔t∈E/\(t.f0∈R->t.f0=k)/\(t.f1∈R->t.f1=k):=by
 unfold but
 rw[List.mem_filter,decide_eq_true_eq]
theorem Ib {p:List Int}{k:Int}(h:p.getLast? =some k):mI p=k:=by
 unfold mI
 rw[List.getLastD_eq_getLast?,h];rfl
theorem A_ {E:List Tie}{R:List Int}{v:Int}{p:List Int}(h:oN E R v p) (hv:v∉R):qf (but E R (mI p)) v (mI p) p where
 head:=h.head
 last:=by
  cases p with
  |nil=>have:=h.head;simp at this
  |cons x r=>unfold mI;rw[List.getLastD_eq_getLast?];cases g:(x::r).getLast? with
   |none=>simp at g
   |some z=>rfl
 ties:=fun t ht=>by
  refine zq.2 ⟨h.ties t ht,fun k=>?_,fun k=>?_⟩
  ·have hm:=(xL p ht).1
   refine Classical.byContradiction fun g=>?_
   rcases List.eq_nil_or_concat p with rfl|⟨q,u,rfl⟩
   ·simp at hm
   rw[List.concat_eq_append]at*
   rcases List.mem_append.1 hm with a|a
   ·exact h.inner _ (by rw[List.dropLast_concat];exact a) k
   rw[List.mem_singleton]at a
   exact g (by unfold mI;rw[List.getLastD_concat];exact a)
  have hm:=(xL p ht).2
  refine Classical.byContradiction fun g=>?_
  rcases List.eq_nil_or_concat p with rfl|⟨q,u,rfl⟩
  ·simp at hm
  rw[List.concat_eq_append]at*
  rcases List.mem_append.1 hm with a|a
  ·exact h.inner _ (by rw[List.dropLast_concat];exact a) k
  rw[List.mem_singleton]at a
  exact g (by unfold mI;rw[List.getLastD_concat];exact a)
 nodup:=h.nodup
theorem CL:∀ (p:List Int) (x:Int),x∈p.dropLast->∃y,kH x y∈ties p
 |[],x,h=>by simp at h
 |[_],x,h=>by simp at h
 |a::b::r,x,h=>by
  rw[vN]at h
  rcases List.mem_cons.1 h with rfl|h
  ·exact⟨b,by simp[ties]⟩
  obtain⟨y,hy⟩:=CL (b::r) x h
  exact⟨y,by simp[ties,hy]⟩
theorem JH {E:List Tie}{R:List Int}{v k:Int}{p:List Int}(h:qf (but E R k) v k p) (hk:k∈R):oN E R v p/\mI p=k:=by
 have hl:=Ib h.last
 refine⟨⟨h.head,fun t ht=>(zq.1 (h.ties t ht)).1,h.nodup,fun x hx hr=>?_,by rw[hl];exact hk⟩,hl⟩
 obtain⟨y,hy⟩:=CL p x hx
 have hb:=(zq.1 (h.ties _ hy)).2
 have hxk:x=k:=by
  unfold kH at hb
  split at hb
  ·exact hb.1 hr
  exact hb.2 hr
 subst hxk
 rcases List.eq_nil_or_concat p with rfl|⟨q,u,rfl⟩
 ·simp at hx
 rw[List.concat_eq_append]at*
 rw[List.dropLast_concat]at hx
 have hn:=h.nodup
 rw[List.nodup_append]at hn
 have hu:u=x:=by
  have:=hl
  unfold mI at this
  rw[List.getLastD_concat]at this
  exact this
 exact hn.2.2 x hx u (by simp) hu.symm
end Go.Proofs.Ytgeonpciodepgaa.G
namespace Go.Proofs.Ytgeonpciodepgaa.P
open Go.RowKit Go.Proofs.YtgeonpciodepgaaW.PrintWords Go.Proofs.Ytgeonpciodepgaa.G Go.Proofs.YtgeonpciodepgaaW.PrintWords.Kd
theorem v_ (pre:List S59) (t:S59) (suf:List S59):jQ (pre++t::suf) (pre.length:Int)=t:=by
 unfold jQ;exact tq pre t suf _
theorem Ee (a b:Int) (t:Tie):(a==t.f0&&(b==t.f1))=decide ((⟨a,b⟩:Tie)=t):=by
 obtain⟨c,d⟩:=t
 simp only [Tie.mk.injEq]
 by_cases h:a=c<;>by_cases k:b=d<;>simp[h,k]
theorem Hd (a b:Int):∀ (suf p:List S59),((p++suf).length:Int)<big->
  ∃r,Ev (fun k=>qm.l0 k (p++suf) ((p++suf).length:Int) (p.length:Int) a b) r/\(r>=0↔(⟨a,b⟩:Tie)∈suf):=by
 intro suf
 induction suf with
 |nil=>
  intro p hb
  refine⟨-1,Ev.step (fun k=>by simp only [qm.l0,oF,if_false]<;>exact rfl) (Ev.val rfl),by simp⟩
 |cons t suf ih=>
  intro p hb
  have hp:(p.length:Int)<big:=oL hb
  by_cases c:(⟨a,b⟩:Tie)=t
  ·refine⟨p.length,?_,?_⟩
   ·refine Ev.step (fun k=>by simp only [qm.l0,l9,nn,if_true,v_,mG (t:=t) hp,Ee,decide_eq_true_eq,if_pos c]<;>exact rfl) ?_
    exact Ev.val rfl
   simp[c]
  obtain⟨r,hr,hi⟩:=ih (p++[t]) (rf hb)
  refine⟨r,?_,?_⟩
  ·refine Ev.step (fun k=>by simp only [qm.l0,l9,nn,if_true,v_,mG (t:=t) hp,Ee,decide_eq_true_eq,if_neg c]<;>exact rfl) ?_
   rw[mF p t suf]
   exact hr
  rw[hi];simp[c]
theorem CF (E:List S59) (a b:Int) (hb:(E.length:Int)<big):Ev (fun k=>si.f k E a b) (decide ((⟨a,b⟩:Tie)∈E)):=by
 unfold si.f qm.f
 obtain⟨r,hr,hi⟩:=Hd a b E [] hb
 refine Ev.bind hr (Ev.val ?_)
 exact congrArg some (decide_eq_decide.2 hi)
theorem zI (a b:Int):qF.f a b=some ((kH a b).f0,(kH a b).f1):=by
 unfold qF.f kH mn mx
 rcases Int.lt_trichotomy a b with h|h|h
 ·simp[h];omega
 ·subst h;simp
 have:¬a<b:=by omega
 simp[this,h]
theorem xu (n a b:Int) (E:List S59) (hE:(E.length:Int)<big):Ev (fun k=>rF.f k n E a b) (decide (kH a b∈E)):=by
 unfold rF.f
 simp only [zI,Option.bind_some]
 exact Ev.bind (CF E _ _ hE) (Ev.val rfl)
def less (X gone:List Tie):List Tie:=X.filter fun s=> !decide (s∈gone)
theorem H5 (X:List Tie) (t:Tie):less X [t]=cut X t:=by
 unfold less cut
 refine List.filter_congr (fun s _=>?_)
 simp
theorem HZ (n m:Int) (gone:List S59) (hg:(gone.length:Int)<big):∀ (suf p q:List S59),((p++suf).length:Int)<=1048576->q.length<=p.length->
  Ev (fun k=>nE.l0 k gone (p++suf) ((p++suf).length:Int) (p.length:Int) m q) (m,q++less suf gone):=by
 intro suf
 induction suf with
 |nil=>
  intro p q hb hq
  refine Ev.step (fun k=>by simp only [nE.l0,oF,if_false]<;>exact rfl) ?_
  exact Ev.val (by simp[less])
 |cons t suf ih=>
  intro p q hb hq
  have hb':((p++t::suf).length:Int)<big:=by unfold big;omega
  have hp:(p.length:Int)<big:=oL hb'
  have hq8:q.length<8796093022208:=by rw[List.length_append]at hb;omega
  refine Ev.step (fun k=>by simp only [nE.l0,l9,nn,if_true,v_,mG (t:=t) hp,hq8]<;>exact rfl) ?_
  refine Ev.bind (CF gone _ _ hg) ?_
  by_cases c:t∈gone
  ·have c':(⟨t.f0,t.f1⟩:Tie)∈gone:=c
   simp only [c',decide_true,if_true]
   rw[mF p t suf]
   refine Ev.eq (ih (p++[t]) q (by rw[←mF];exact hb) (by simp;omega)) ?_
   simp[less,c]
  have c':¬ (⟨t.f0,t.f1⟩:Tie)∈gone:=c
  simp only [c',decide_false,Bool.false_eq_true,if_false]
  rw[mF p t suf]
  refine Ev.eq (ih (p++[t]) (q++[t]) (by rw[←mF];exact hb) (by simp;omega)) ?_
  simp[less,c]
theorem HY (n:Int) (E gone:List S59) (hE:(E.length:Int)<=1048576) (hg:(gone.length:Int)<big):Ev (fun k=>nE.f k n E gone) (n,less E gone):=by
 unfold nE.f
 exact HZ n n gone hg E [] [] hE (Nat.le_refl _)
theorem zk (n:Int) (E:List S59) (t:Tie) (hE:(E.length:Int)<=1048576):Ev (fun k=>nE.f k n E [t]) (n,cut E t):=by
 rw[←H5]
 exact HY n E [t] hE (by unfold big;simp)
end Go.Proofs.Ytgeonpciodepgaa.P
namespace Go.Proofs.Ytgeonpciodepgaa.G
open Go.RowKit Go.Proofs.YtgeonpciodepgaaW.PrintWords
theorem wh {f:List Int}{u v x:Int}(hu:0<=u) (hu2:u<(f.length:Int)) (hv:0<=v):rd (f.set u.toNat x) v=if u=v then x else rd f v:=by
 unfold rd
 rw[List.getD_eq_getElem?_getD,List.getD_eq_getElem?_getD,List.getElem?_set]
 by_cases c:u=v
 ·subst c
  rw[if_pos rfl,if_pos (by omega),if_pos rfl];rfl
 rw[if_neg (by omega),if_neg c]
def tot (f:List Int):Nat:=(f.map Int.toNat).sum
theorem zL:∀ {f:List Int}{i:Nat}{x:Int},i<f.length->0<=x->0<=f.getD i 0->(tot (f.set i x):Int)=tot f - f.getD i 0+x
 |[],i,_,h,_,_=>absurd h (Nat.not_lt_zero _)
 |b::f,0,x,h,hx,hb=>by
  have hb':0<=b:=hb
  simp[tot]
  omega
 |b::f,i+1,x,h,hx,hb=>by
  have ih:=zL (f:=f) (i:=i) (x:=x) (by simpa using h) hx (by simpa using hb)
  rw[List.set_cons_succ]
  simp[tot]at ih⊢
  omega
structure Lab (n:Int) (E:List Tie) (f:List Int):Prop where
 len:(f.length:Int)=n
 low:∀v,0<=v->v<n->0<=rd f v/\rd f v<=v
 conn:∀v,0<=v->v<n->lD E v (rd f v)
structure Parts (n:Int) (E:List Tie) (f:List Int):Prop where
 len:(f.length:Int)=n
 low:∀v,0<=v->v<n->0<=rd f v/\rd f v<=v
 conn:∀v,0<=v->v<n->lD E v (rd f v)
 same:∀u v,0<=u->u<n->0<=v->v<n->lD E u v->rd f u=rd f v
theorem Parts.iff {n:Int}{E:List Tie}{f:List Int}(h:Parts n E f) {u v:Int}(hu:0<=u/\u<n) (hv:0<=v/\v<n):rd f u=rd f v↔lD E u v:=
 ⟨fun e=>(h.conn u hu.1 hu.2).trans (e▸ (h.conn v hv.1 hv.2).symm),h.same u v hu.1 hu.2 hv.1 hv.2⟩
theorem Parts.least {n:Int}{E:List Tie}{f:List Int}(h:Parts n E f) {u v:Int}(hu:0<=u/\u<n) (hv:0<=v/\v<n) (hc:lD E u v):rd f u<=v:=by
 rw[h.same u v hu.1 hu.2 hv.1 hv.2 hc]
 exact(h.low v hv.1 hv.2).2
theorem Parts.unique {n:Int}{E:List Tie}{f g:List Int}(h:Parts n E f) (k:Parts n E g):f=g:=by
 apply List.ext_getElem?
 intro i
 have hf:=h.len
 have hg:=k.len
 by_cases hi:i<f.length
 ·have e:rd f i=rd g i:=by
   have h0:(0:Int)<=(i:Int):=by omega
   have h1:(i:Int)<n:=by omega
   have a:=h.low i h0 h1
   have b:=k.low i h0 h1
   have c:=h.least ⟨h0,h1⟩ ⟨b.1,by omega⟩ (k.conn i h0 h1)
   have d:=k.least ⟨h0,h1⟩ ⟨a.1,by omega⟩ (h.conn i h0 h1)
   omega
  unfold rd at e
  rw[List.getD_eq_getElem?_getD,List.getD_eq_getElem?_getD,Int.toNat_natCast,List.getElem?_eq_getElem hi,List.getElem?_eq_getElem (by omega)]at e
  rw[List.getElem?_eq_getElem hi,List.getElem?_eq_getElem (by omega)]
  simpa using e
 rw[List.getElem?_eq_none (by omega),List.getElem?_eq_none (by omega)]
theorem Lab.parts {n:Int}{E:List Tie}{f:List Int}(h:Lab n E f) (hE:∀t∈E,inr n t) (he:∀t∈E,rd f t.f0=rd f t.f1):Parts n E f:=by
 refine⟨h.len,h.low,h.conn,fun u v hu hu1 hv hv1 hc=>?_⟩
 refine hc.closed (fun x=>rd f u=rd f x) rfl (fun x y hx ht=>?_)
 have hr:=hE _ ht
 have e:=he _ ht
 rw[hx]
 unfold kH at e
 by_cases c:x<y
 ·rw[if_pos c]at e;exact e
 rw[if_neg c]at e;exact e.symm
end Go.Proofs.Ytgeonpciodepgaa.G
namespace Go.Proofs.Ytgeonpciodepgaa.P
open Go.RowKit Go.Proofs.YtgeonpciodepgaaW.PrintWords Go.Proofs.Ytgeonpciodepgaa.G Go.Proofs.YtgeonpciodepgaaW.PrintWords.Kd
theorem Ik (a b:Int):mn a b=if b<a then b else a:=rfl
theorem DD (n:Int) (E:List S59) (hE:ok n E):∀ (suf p:List S59) (f:List Int) (b:Bool),p++suf=E->Lab n E f->
  ∃f' b',Lab n E f'/\tot f'<=tot f/\(b'=false->b=false/\f'=f/\∀t∈suf,rd f t.f0=rd f t.f1)/\(b'=true->b=true\/tot f'<tot f)/\
   ∀r,Ev (fun k=>lm.l1 k f' b' n E) r->Ev (fun k=>lm.l2 k f b (p++suf) ((p++suf).length:Int) (p.length:Int) n E) r:=by
 intro suf
 have hEb:(E.length:Int)<big:=by have:=nG hE;unfold big;omega
 induction suf with
 |nil=>
  intro p f b he hL
  refine⟨f,b,hL,Nat.le_refl _,fun h=>⟨h,rfl,by simp⟩,fun h=> .inl h,fun r hr=>?_⟩
  refine Ev.step (fun k=>by simp only [lm.l2,oF,if_false]<;>exact rfl) hr
 |cons t suf ih=>
  intro p f b he hL
  have hp:(p.length:Int)<big:=oL (by rw[he];exact hEb)
  have ht:t∈E:=by rw[←he];simp
  have hr:=hE.2.2.1 t ht
  unfold inr at hr
  have b1:0<=t.f0:=hr.1
  have b2:t.f0<(f.length:Int):=by rw[hL.len];omega
  have b3:0<=t.f1:=by omega
  have b4:t.f1<(f.length:Int):=by rw[hL.len];omega
  by_cases c:rd f t.f0=rd f t.f1
  ·obtain⟨f',b',h1,h2,h3,h4,h5⟩:=ih (p++[t]) f b (by rw[←he];simp) hL
   refine⟨f',b',h1,h2,fun e=>?_,h4,fun r hr=>?_⟩
   ·obtain⟨x,y,z⟩:=h3 e
    refine⟨x,y,fun s hs=>?_⟩
    rcases List.mem_cons.1 hs with rfl|hs
    ·exact c
    exact z s hs
   refine Ev.step (fun k=>by simp only [lm.l2,l9,nn,if_true,v_,mG (t:=t) hp,b1,b2,b3,b4,if_pos c]<;>exact rfl) ?_
   rw[mF p t suf]
   exact h5 r hr
  have lo0:=hL.low t.f0 b1 (by omega)
  have lo1:=hL.low t.f1 b3 (by omega)
  have hm:0<=mn (rd f t.f0) (rd f t.f1)/\mn (rd f t.f0) (rd f t.f1)<=rd f t.f0/\mn (rd f t.f0) (rd f t.f1)<=rd f t.f1/\(mn (rd f t.f0) (rd f t.f1)=rd f t.f0\/mn (rd f t.f0) (rd f t.f1)=rd f t.f1):=by
   rw[Ik];split<;>omega
  generalize hg:mn (rd f t.f0) (rd f t.f1)=m at hm
  have hs:∀v,0<=v->rd ((f.set t.f0.toNat m).set t.f1.toNat m) v=if t.f1=v then m else if t.f0=v then m else rd f v:=fun v hv=>by
   rw[wh b3 (by rw[List.length_set];exact b4) hv,wh b1 b2 hv]
  have hconn01:lD E t.f0 t.f1:=lD.tie ht hr.2.1
  have hc0:=hL.conn t.f0 b1 (by omega)
  have hc1:=hL.conn t.f1 b3 (by omega)
  have hcm:lD E t.f0 m/\lD E t.f1 m:=by
   rcases hm.2.2.2 with e|e
   ·rw[e];exact⟨hc0,hconn01.symm.trans hc0⟩
   rw[e];exact⟨hconn01.trans hc1,hc1⟩
  have hL':Lab n E ((f.set t.f0.toNat m).set t.f1.toNat m):=by
   refine⟨by rw[List.length_set,List.length_set];exact hL.len,fun v h0 h1=>?_,fun v h0 h1=>?_⟩
   ·rw[hs v h0]
    have:=hL.low v h0 h1
    split
    ·subst_vars;omega
    split
    ·subst_vars;omega
    exact this
   rw[hs v h0]
   split
   ·subst_vars;exact hcm.2
   split
   ·subst_vars;exact hcm.1
   exact hL.conn v h0 h1
  have t0:(tot (f.set t.f0.toNat m):Int)=tot f - rd f t.f0+m:=zL (by omega) hm.1 lo0.1
  have e1:(f.set t.f0.toNat m).getD t.f1.toNat 0=rd f t.f1:=by
   have:=wh (f:=f) (u:=t.f0) (v:=t.f1) (x:=m) b1 b2 b3
   rw[if_neg (by omega)]at this
   exact this
  have t1:(tot ((f.set t.f0.toNat m).set t.f1.toNat m):Int)=tot (f.set t.f0.toNat m) - rd f t.f1+m:=by
   have:=zL (f:=f.set t.f0.toNat m) (i:=t.f1.toNat) (x:=m) (by rw[List.length_set];omega) hm.1 (by rw[e1];exact lo1.1)
   rw[e1]at this
   exact this
  have hlt:tot ((f.set t.f0.toNat m).set t.f1.toNat m)<tot f:=by omega
  obtain⟨f',b',h1,h2,h3,h4,h5⟩:=ih (p++[t]) ((f.set t.f0.toNat m).set t.f1.toNat m) true (by rw[←he];simp) hL'
  refine⟨f',b',h1,by omega,fun e=>?_,fun _=> .inr (by omega),fun r hr=>?_⟩
  ·have:=(h3 e).1
   simp at this
  refine Ev.step (fun k=>by simp only [lm.l2,l9,nn,if_true,v_,mG (t:=t) hp,b1,b2,b3,b4,if_neg c,hg]<;>exact rfl) ?_
  rw[mF p t suf]
  exact h5 r hr
theorem IK (n:Int) (E:List S59) (hE:ok n E):∀ (m:Nat) (f:List Int),tot f<=m->Lab n E f->∃f',Ev (fun k=>lm.l1 k f true n E) f'/\Parts n E f':=by
 intro m
 induction m with
 |zero=>
  intro f hm hL
  obtain⟨f',b',h1,h2,h3,h4,h5⟩:=DD n E hE E [] f false rfl hL
  cases b' with
  |true=>
   rcases h4 rfl with h|h
   ·simp at h
   omega
  |false=>
   obtain⟨_,rfl,h⟩:=h3 rfl
   refine⟨f',?_,h1.parts hE.2.2.1 h⟩
   refine Ev.step (fun k=>by simp only [lm.l1,if_true]<;>exact rfl) ?_
   refine h5 f' ?_
   refine Ev.step (fun k=>by simp only [lm.l1,Bool.false_eq_true,if_false]<;>exact rfl) ?_
   exact Ev.val rfl
 |succ m ih=>
  intro f hm hL
  obtain⟨f',b',h1,h2,h3,h4,h5⟩:=DD n E hE E [] f false rfl hL
  cases b' with
  |true=>
   rcases h4 rfl with h|h
   ·simp at h
   obtain⟨f2,e2,p2⟩:=ih f' (by omega) h1
   refine⟨f2,?_,p2⟩
   refine Ev.step (fun k=>by simp only [lm.l1,if_true]<;>exact rfl) ?_
   exact h5 f2 e2
  |false=>
   obtain⟨_,rfl,h⟩:=h3 rfl
   refine⟨f',?_,h1.parts hE.2.2.1 h⟩
   refine Ev.step (fun k=>by simp only [lm.l1,if_true]<;>exact rfl) ?_
   refine h5 f' ?_
   refine Ev.step (fun k=>by simp only [lm.l1,Bool.false_eq_true,if_false]<;>exact rfl) ?_
   exact Ev.val rfl
theorem DL {n v:Int}(h0:0<=v) (h1:v<n):rd (ma n) v=v:=by
 unfold rd ma
 rw[List.getD_eq_getElem?_getD,List.getElem?_map,List.getElem?_range (by omega)]
 simp[Int.toNat_of_nonneg h0]
theorem IJ (n:Int) (E:List S59) (h8:n<=8):∀ (d:Nat) (i:Int),0<=i->i+d=n->∀r,Ev (fun k=>lm.l1 k (ma n) true n E) r->
  Ev (fun k=>lm.l0 k (ma i) n i n E) r:=by
 intro d
 induction d with
 |zero=>
  intro i h0 hi r hr
  have hi':i=n:=by omega
  subst hi'
  have c:¬i<i:=by omega
  exact Ev.step (fun k=>by simp only [lm.l0,c,if_false]<;>exact rfl) hr
 |succ d ih=>
  intro i h0 hi r hr
  have c:i<n:=by omega
  have w:wrap64 (i+1)=i+1:=w64 (by omega) (by omega)
  have hl:(ma i).length<17592186044416:=by rw[pX];omega
  refine Ev.step (fun k=>by simp only [lm.l0,c,if_true,w,hl,←xy h0]<;>exact rfl) ?_
  exact ih (i+1) (by omega) (by omega) r hr
theorem DC (n:Int) (E:List S59) (hE:ok n E):∃f,Ev (fun k=>lm.f k n E) f/\Parts n E f:=by
 have hL:Lab n E (ma n):=by
  have h0:=hE.1
  refine⟨by rw[pX];omega,fun v h0 h1=>?_,fun v h0 h1=>?_⟩
  ·rw[DL h0 h1];exact⟨h0,Int.le_refl _⟩
  rw[DL h0 h1];exact .refl _
 obtain⟨f,h1,h2⟩:=IK n E hE _ (ma n) (Nat.le_refl _) hL
 refine⟨f,?_,h2⟩
 unfold lm.f
 have h0:=hE.1
 exact IJ n E hE.2.1 n.toNat 0 (Int.le_refl 0) (by omega) f h1
end Go.Proofs.Ytgeonpciodepgaa.P
namespace Go.Proofs.Ytgeonpciodepgaa.G
open Go.RowKit Go.Proofs.YtgeonpciodepgaaW.PrintWords
def D8 (l:List Int) (g:Int->Int):Int:=(l.map g).sum
def F6 (l:List Int) (g:Int->Int->Int):Int:=D8 l fun u=>D8 l (g u)
def mM (x:List Int) (u v:Int):Int:=rd x (8*u+v)
def in8 (u:Int):Prop:=0<=u/\u<8
def cap (x:List Int) (n:Int) (S:Int->Bool):Int:=F6 (ma n) fun u v=>if S u=true/\S v=false then mM x u v else 0
structure Mat (x:List Int):Prop where
 len:(x.length:Int)=64
 low:∀u v,in8 u->in8 v->0<=mM x u v
 two:∀u v,in8 u->in8 v->mM x u v+mM x v u<=2
theorem FU {F:List Tie}{a b:Int}(h:lD F a b) (S:Int->Bool) (ha:S a=true) (hb:S b=false):∃p q,kH p q∈F/\S p=true/\S q=false:=by
 refine Classical.byContradiction fun no=>?_
 have:=h.closed (fun u=>S u=true) ha (fun x y hx ht=>by
  cases e:S y with
  |true=>rfl
  |false=>exact absurd ⟨x,y,ht,hx,e⟩ no)
 rw[hb]at this
 cases this
theorem CE {F:List Tie}{x y:Int}(h:lD F (kH x y).f0 (kH x y).f1):lD F x y:=by
 unfold kH at h
 split at h
 ·exact h
 exact h.symm
end Go.Proofs.Ytgeonpciodepgaa.G
namespace Go.Proofs.Ytgeonpciodepgaa.G
structure tJ (n:Int) (C:List Tie) (K:List Int) (a b:Int):Prop where
 here:a∈K
 tie:kH a b∈C
 least:∀a' b',a'∈K->kH a' b'∈C->a<=a'/\(a'=a->b<=b')
theorem Ht {n:Int}{C:List Tie}{K:List Int}{a b a' b':Int}(h:tJ n C K a b) (k:tJ n C K a' b'):a=a'/\b=b':=by
 have h1:=h.least a' b' k.here k.tie
 have k1:=k.least a b h.here h.tie
 have e:a=a':=by omega
 have:=h1.2 e.symm
 have:=k1.2 e
 omega
def oP (C:List Tie) (row:List Int):List Tie:=C.filter fun t=> !decide (t∈ties row)
theorem Dm {C:List Tie}{row:List Int}{t:Tie}:t∈oP C row↔t∈C/\t∉ties row:=by
 unfold oP
 rw[List.mem_filter]
 simp
def sI (n:Int):List Tie->List Int->List (List Int)->Prop
 |C,_,[]=>C=[]
 |C,K,row::rest=>C≠[]/\(∃a b p,tJ n C K a b/\sW (cut C (kH a b)) K b p/\row=a::p)/\sI n (oP C row) (nA K row) rest
theorem zb {n:Int}:∀ (r s:List (List Int)) (C:List Tie) (K:List Int),sI n C K r->sI n C K s->r=s
 |[],[],_,_,_,_=>rfl
 |[],_::_,_,_,h,k=>absurd h k.1
 |_::_,[],_,_,h,k=>absurd k h.1
 |x::r,y::s,C,K,h,k=>by
  obtain⟨_,⟨a,b,p,h1,h2,h3⟩,h4⟩:=h
  obtain⟨_,⟨a',b',p',k1,k2,k3⟩,k4⟩:=k
  obtain⟨rfl,rfl⟩:=Ht h1 k1
  have:=Fg h2 k2
  subst this
  subst h3
  subst k3
  rw[zb r s _ _ h4 k4]
structure tZ (n:Int) (E C:List Tie) (K:List Int):Prop where
 sub:∀t∈C,t∈E
 gone:∀t∈E,t∉C->t.f0∈K/\t.f1∈K
 zero:(0:Int)∈K
 rng:∀v∈K,0<=v/\v<n
theorem tZ.next {n:Int}{E C:List Tie}{K row:List Int}(h:tZ n E C K) (hr:∀v∈row,0<=v/\v<n):tZ n E (oP C row) (nA K row) where
 sub:=fun t ht=>h.sub t (Dm.1 ht).1
 gone:=fun t ht hn=>by
  by_cases c:t∈C
  ·have:t∈ties row:=Classical.byContradiction fun k=>hn (Dm.2 ⟨c,k⟩)
   have:=xL row this
   exact⟨(rY _ _ _).2 (Or.inr this.1),(rY _ _ _).2 (Or.inr this.2)⟩
  have:=h.gone t ht c
  exact⟨(rY _ _ _).2 (Or.inl this.1),(rY _ _ _).2 (Or.inl this.2)⟩
 zero:=(rY _ _ _).2 (Or.inl h.zero)
 rng:=fun v hv=>((rY _ _ _).1 hv).elim (h.rng v) (hr v)
theorem Dz {n:Int}{E C:List Tie}{K:List Int}(hE:∀t∈E,inr n t) (hc:∀u∈ma n,∀v∈ma n,lD E u v) (h:tZ n E C K) (hC:C≠[]):∃a b,a∈K/\kH a b∈C:=by
 cases C with
 |nil=>exact absurd rfl hC
 |cons t C=>
  have ht:=h.sub t List.mem_cons_self
  have hi:=hE t ht
  by_cases k:t.f0∈K
  ·exact⟨t.f0,t.f1,k,by rw[Jz hi];exact List.mem_cons_self⟩
  have z:=h.rng 0 h.zero
  obtain⟨p,q,e,hp,hq⟩:=FU (hc 0 (qj.2 z) t.f0 (qj.2 ⟨hi.1,by have:=hi.2.1;have:=hi.2.2;omega⟩)) (fun v=>decide (v∈K)) (decide_eq_true h.zero) (decide_eq_false k)
  refine⟨p,q,of_decide_eq_true hp,Classical.byContradiction fun g=>?_⟩
  have:=h.gone _ e g
  have hq':=of_decide_eq_false hq
  unfold kH at this
  split at this
  ·exact hq' this.2
  exact hq' this.1
theorem Dh {n:Int}{C:List Tie}{K:List Int}(hC:∀t∈C,inr n t) {a b:Int}(ha:a∈K) (ht:kH a b∈C):∃a b,tJ n C K a b:=by
 obtain⟨i,⟨hi,bi,hbi⟩,hmin⟩:=vP (P:=fun i:Nat=>(i:Int)∈K/\∃b,kH (i:Int) b∈C) ⟨a.toNat,by
  have:=(nX (hC _ ht)).1
  rw[Int.toNat_of_nonneg this.1]
  exact⟨ha,b,ht⟩⟩
 obtain⟨j,hj,hmj⟩:=vP (P:=fun j:Nat=>kH (i:Int) (j:Int)∈C) ⟨bi.toNat,by
  have:=(nX (hC _ hbi)).2.1
  rw[Int.toNat_of_nonneg this.1]
  exact hbi⟩
 refine⟨i,j,hi,hj,fun a' b' ha' ht'=>?_⟩
 have e:=nX (hC _ ht')
 have h1:=hmin a'.toNat (by rw[Int.toNat_of_nonneg e.1.1];exact⟨ha',b',ht'⟩)
 refine⟨by omega,fun q=>?_⟩
 have h2:=hmj b'.toNat (by rw[Int.toNat_of_nonneg e.2.1.1,←q];exact ht')
 omega
theorem CW {c:List Int}:∀ (p:List Int),(∃x∈p,x∈c)->∃p1 v p2,p=p1++v::p2/\v∈c/\∀x∈p1,x∉c
 |[],h=>by obtain⟨x,hx,_⟩:=h;simp at hx
 |x::p,h=>by
  by_cases q:x∈c
  ·exact⟨[],x,p,rfl,q,by simp⟩
  obtain⟨p1,v,p2,e,h1,h2⟩:=CW p (by
   obtain⟨y,hy,hc⟩:=h
   rcases List.mem_cons.1 hy with rfl|hy
   ·exact absurd hc q
   exact⟨y,hy,hc⟩)
  refine⟨x::p1,v,p2,by rw[e];rfl,h1,fun z hz=>?_⟩
  rcases List.mem_cons.1 hz with rfl|hz
  ·exact q
  exact h2 z hz
theorem Ef:∀ (p:List Int) (v:Int),∀t∈ties (p++[v]),t.f0∈p\/t.f1∈p
 |[],v,t,h=>by simp[ties]at h
 |[x],v,t,h=>by
  simp[ties]at h
  subst h
  unfold kH
  split<;>simp
 |x::y::p,v,t,h=>by
  simp only [List.cons_append,ties,List.mem_cons]at h
  rcases h with h|h
  ·subst h
   unfold kH
   split<;>simp
  have:=Ef (y::p) v t h
  exact this.imp (List.mem_cons_of_mem _) (List.mem_cons_of_mem _)
theorem AZ {n:Int}{E C:List Tie}{K:List Int}(h8:n<=8) (hE:∀t∈E,inr n t) (hn:∀t∈E,lD (cut E t) t.f0 t.f1) (h:tZ n E C K) {a b:Int}(ha:a∈K) (ht:kH a b∈C):∃p,oN (cut C (kH a b)) K b p:=by
 by_cases k:b∈K
 ·exact⟨[b],rfl,by simp[ties],by simp,by simp,k⟩
 have hb:=(nX (hE _ (h.sub _ ht))).2.1
 obtain⟨p,_,_,_,hp⟩:=GM h8 (fun t q=>hE t (uR.1 q).1) hb (CE (hn _ (h.sub _ ht))).symm
 have hap:a∈p:=List.mem_of_getLast? hp.last
 obtain⟨p1,v,p2,e,hv,hd⟩:=CW (c:=K) p ⟨a,hap,ha⟩
 have e2:p=(p1++[v])++p2:=by rw[e];simp
 have sub:∀t∈ties (p1++[v]),t∈ties p:=fun t q=>by
  rw[e2]
  cases p2 with
  |nil=>rw[List.append_nil];exact q
  |cons y p2=>
   rw[show p1++[v]++y::p2=p1++v::y::p2 by simp,zJ]
   exact List.mem_append_left _ q
 refine⟨p1++[v],?_,fun t q=>?_,?_,?_,?_⟩
 ·have:=hp.head
  rw[e]at this
  cases p1 with
  |nil=>simpa using this
  |cons y p1=>simpa using this
 ·have c1:=uR.1 (hp.ties t (sub t q))
  refine uR.2 ⟨Classical.byContradiction fun g=>?_,c1.2⟩
  have:=h.gone t c1.1 g
  rcases Ef p1 v t q with r|r
  ·exact hd _ r this.1
  exact hd _ r this.2
 ·have:=hp.nodup
  rw[e2,List.nodup_append]at this
  exact this.1
 ·rw[List.dropLast_concat];exact hd
 unfold mI;rw[List.getLastD_concat];exact hv
end Go.Proofs.Ytgeonpciodepgaa.G
namespace Go.Proofs.Ytgeonpciodepgaa.P
open Go.RowKit Go.Proofs.YtgeonpciodepgaaW.PrintWords Go.Proofs.Ytgeonpciodepgaa.G Go.Proofs.YtgeonpciodepgaaW.PrintWords.Kd
theorem Ha (a:Int):∀ (suf p:List Int),((p++suf).length:Int)<big->
  ∃r,Ev (fun k=>qo.l0 k (p++suf) a ((p++suf).length:Int) (p.length:Int)) r/\(r>=0↔a∈suf):=by
 intro suf
 induction suf with
 |nil=>
  intro p hb
  refine⟨-1,Ev.step (fun k=>by simp only [qo.l0,oF,if_false]<;>exact rfl) (Ev.val rfl),by simp⟩
 |cons t suf ih=>
  intro p hb
  have hp:(p.length:Int)<big:=oL hb
  by_cases c:a=t
  ·refine⟨p.length,?_,?_⟩
   ·refine Ev.step (fun k=>by simp only [qo.l0,l9,nn,if_true,nZ,mG (t:=t) hp,if_pos c]<;>exact rfl) ?_
    exact Ev.val rfl
   simp[c]
  obtain⟨r,hr,hi⟩:=ih (p++[t]) (rf hb)
  refine⟨r,?_,?_⟩
  ·refine Ev.step (fun k=>by simp only [qo.l0,l9,nn,if_true,nZ,mG (t:=t) hp,if_neg c]<;>exact rfl) ?_
   rw[mF p t suf]
   exact hr
  rw[hi];simp[c]
theorem FW (l:List Int) (a:Int) (hb:(l.length:Int)<big):Ev (fun k=>tQ.f k l a) (decide (a∈l)):=by
 unfold tQ.f qo.f
 obtain⟨r,hr,hi⟩:=Ha a l [] hb
 refine Ev.bind hr (Ev.val ?_)
 exact congrArg some (decide_eq_decide.2 hi)
theorem r9 (pre:List S59) (t:S59) (suf:List S59):jQ (pre++t::suf) (pre.length:Int)=t:=by
  unfold jQ;exact tq pre t suf _
theorem xx (a b c:Int):oV.f a b c=some (decide (b<=a/\a<=c)):=by
  unfold oV.f
  by_cases h:b<=a<;>simp[h]
theorem HV (a b c d:Int):sP.f a b c d=some (decide (tlt ⟨a,b⟩ ⟨c,d⟩)):=by
  unfold sP.f tlt
  by_cases h:a<c
  · simp[h]
  by_cases h2:a=c<;>simp[h,h2]
theorem tK {α:Type}(p:List α) (q:α) (h:((p++[q]).length:Int)<big):wrap64 (((p++[q]).length:Int) - 1)=(p.length:Int):=by
  rw[w64 (by rw[List.length_append];omega) (by unfold big at h;omega)];simp
theorem xC {α:Type}(p:List α) (q:α) (suf:List α):p++[q]++suf=p++q::suf:=by simp
theorem Dk {α:Type}(p:List α) (q:α) (suf:List α):(p.length:Int)<((p++[q]++suf).length:Int):=by simp;omega
theorem Js (n:Int) (h0:0<=n) (h8:n<=8):∀ (suf p:List S59) (q:S59),(((p++[q])++suf).length:Int)<big->
    Ev (fun k=>lG.l0 k ((p++[q]).length:Int) n ((p++[q])++suf)) (decide ((∀t∈suf,inr n t)/\asc (q::suf))):=by
  intro suf
  induction suf with
  |nil=>
    intro p q hb
    refine Ev.step (fun k=>by simp only [lG.l0,oF,if_false]<;>exact rfl) ?_
    exact Ev.val (congrArg some (decide_eq_true (by simp[asc])).symm)
  |cons t suf ih=>
    intro p q hb
    have hp:((p++[q]).length:Int)<big:=oL hb
    have e1:((p++[q]).length:Int)>0:=by rw[List.length_append,List.length_singleton];omega
    refine Ev.step (fun k=>by simp only [lG.l0,l9,nn,if_true,r9,xx,HV,Option.bind_some,e1,tK p q hp,Dk,mG (t:=t) hp]<;>exact rfl) ?_
    have e2:jQ (p++[q]++t::suf) (p.length:Int)=q:=by rw[xC];exact r9 p q _
    simp only [e2,decide_eq_true_eq]
    rw[w64 (by omega) (by omega)]
    by_cases c1:0<=t.f0/\t.f0<=n - 1
    · simp only [if_pos c1]
      rw[w64 (by omega) (by omega)]
      by_cases c2:t.f0+1<=t.f1/\t.f1<=n - 1
      · simp only [if_pos c2]
        have ht:inr n t:=by unfold inr;omega
        by_cases c3:tlt q t
        · simp only [if_pos c3]
          rw[mF (p++[q]) t suf]
          refine Ev.eq (ih (p++[q]) t (rf hb)) ?_
          rw[decide_eq_decide]
          simp[asc,ht,c3]
        simp only [if_neg c3]
        exact Ev.val (by simp[asc,c3])
      simp only [if_neg c2]
      refine Ev.val ?_
      have:¬inr n t:=by unfold inr;omega
      simp[this]
    simp only [if_neg c1]
    refine Ev.val ?_
    have:¬inr n t:=by unfold inr;omega
    simp[this]
theorem sO (n:Int) (E:List S59) (hb:(E.length:Int)<big):Ev (fun k=>lG.f k n E) (decide (ok n E)):=by
  unfold lG.f
  simp only [xx,Option.bind_some,decide_eq_true_eq]
  by_cases c1:0<=n/\n<=8;rotate_left
  · simp only [if_neg c1]
    refine Ev.step (fun k=>by simp only [lG.j0,if_true]<;>exact rfl) ?_
    refine Ev.val ?_
    have:¬ok n E:=fun h=>c1 ⟨h.1,h.2.1⟩
    simp[this]
  simp only [if_pos c1]
  by_cases c2:(E.length:Int)>64
  · refine Ev.step (fun k=>by simp only [lG.j0,c2,decide_true,if_true]<;>exact rfl) ?_
    exact Ev.val (by rw[decide_eq_false (fun h=>by have:=nG h;omega)])
  refine Ev.step (fun k=>by simp only [lG.j0,c2,decide_false,Bool.false_eq_true,if_false]<;>exact rfl) ?_
  cases E with
  |nil=>
    refine Ev.step (fun k=>by simp[lG.l0]<;>exact rfl) ?_
    exact Ev.val (by simp[ok,asc,c1])
  |cons t suf=>
    have l1:(0:Int)<((t::suf).length:Int):=by rw[List.length_cons];omega
    have r1:jQ (t::suf) 0=t:=rfl
    have h0:(0:Int)<=0:=Int.le_refl 0
    have w1:wrap64 (0+1)=1:=w64 (by omega) (by omega)
    have g1:¬ (0:Int)>0:=by omega
    refine Ev.step (fun k=>by simp only [lG.l0,l1,h0,if_true,r1,xx,Option.bind_some,w1,g1,if_false,decide_eq_true_eq]<;>exact rfl) ?_
    rw[w64 (by omega) (by omega)]
    by_cases d1:0<=t.f0/\t.f0<=n - 1
    · simp only [if_pos d1]
      rw[w64 (by omega) (by omega)]
      by_cases d2:t.f0+1<=t.f1/\t.f1<=n - 1
      · simp only [if_pos d2]
        have ht:inr n t:=by unfold inr;omega
        refine Ev.eq (Js n c1.1 c1.2 suf [] t hb) ?_
        rw[decide_eq_decide]
        simp[ok,c1,ht]
      simp only [if_neg d2]
      refine Ev.val ?_
      have:¬inr n t:=by unfold inr;omega
      simp[this,ok]
    simp only [if_neg d1]
    refine Ev.val ?_
    have:¬inr n t:=by unfold inr;omega
    simp[this,ok]
def qE (x y:Int):Int:=if x<y then -1 else if y<x then 1 else 0
theorem cmp_eq (a b:Int):cmp_Compare_int.f a b=some (qE a b):=by
  unfold cmp_Compare_int.f qE
  simp only [cmp_isNaN_int.f,bne_self_eq_false,Option.bind_some,Bool.false_eq_true,if_false]
  repeat' split
  all_goals first|rfl|omega
def ord (a b c d:Int):Int:=if qE a c=0 then qE b d else qE a c
theorem Ir (a b c d:Int):ord a b c d>=0↔¬tlt ⟨a,b⟩ ⟨c,d⟩:=by
  unfold ord qE tlt
  simp only
  repeat' split
  all_goals omega
theorem Iq (x y:Int):Ev (fun k=>pW.f k [x,y]) (if x=0 then y else x):=by
  unfold pW.f
  have l:(([x,y]:List Int).length:Int)=2:=rfl
  have r0:rd [x,y] 0=x:=rfl
  have r1:rd [x,y] 1=y:=rfl
  have h0:(0:Int)<=0:=Int.le_refl 0
  have a1:(0:Int)<=1:=by omega
  have a2:(0:Int)<2:=by omega
  have a3:(1:Int)<2:=by omega
  have a4:¬ (2:Int)<2:=by omega
  have w1:wrap64 (0+1)=1:=w64 (by omega) (by omega)
  have w2:wrap64 (1+1)=2:=w64 (by omega) (by omega)
  refine Ev.step (fun k=>by simp only [pW.l0,l,r0,h0,a2,if_true,w1]<;>exact rfl) ?_
  by_cases c:x=0
  · simp only [if_pos c]
    refine Ev.step (fun k=>by simp only [pW.l0,l,r1,a1,a3,if_true,w2]<;>exact rfl) ?_
    by_cases d:y=0
    · simp only [if_pos d]
      refine Ev.step (fun k=>by simp only [pW.l0,a4,if_false]<;>exact rfl) ?_
      exact Ev.val (by rw[d])
    simp only [if_neg d]
    exact Ev.val rfl
  simp only [if_neg c]
  exact Ev.val rfl
theorem Iu (a b c d:Int):Ev (fun k=>pJ.f k a b c d) (ord a b c d):=by
  unfold pJ.f
  simp only [cmp_eq,Option.bind_some]
  exact Ev.bind (Iq _ _) (Ev.val rfl)
theorem Fb:∀ (suf p:List S59) (q:S59),(((p++[q])++suf).length:Int)<big->
    Ev (fun k=>nL.l0 k ((p++[q])++suf) ((p++[q]).length:Int)) (decide (asc (q::suf))):=by
  intro suf
  induction suf with
  |nil=>
    intro p q hb
    refine Ev.step (fun k=>by simp only [nL.l0,oF,if_false]<;>exact rfl) ?_
    exact Ev.val (congrArg some (decide_eq_true (by simp[asc])).symm)
  |cons t suf ih=>
    intro p q hb
    have hp:((p++[q]).length:Int)<big:=oL hb
    have e2:jQ (p++[q]++t::suf) (p.length:Int)=q:=by rw[xC];exact r9 p q _
    refine Ev.step (fun k=>by simp only [nL.l0,l9,nn,if_true,r9,tK p q hp,Dk,mG (t:=t) hp,e2]<;>exact rfl) ?_
    refine Ev.bind (Iu _ _ _ _) ?_
    simp only [Ir]
    by_cases c3:tlt q t
    · simp only [c3,not_true_eq_false,if_false]
      rw[mF (p++[q]) t suf]
      refine Ev.eq (ih (p++[q]) t (rf hb)) ?_
      rw[decide_eq_decide]
      simp[asc,c3]
    simp only [c3,not_false_eq_true,if_true]
    exact Ev.val (by simp[asc,c3])
theorem Fa (E:List S59) (hb:(E.length:Int)<big):Ev (fun k=>nL.f k E) (decide (asc E)):=by
  unfold nL.f
  cases E with
  |nil=>
    refine Ev.step (fun k=>by simp[nL.l0]<;>exact rfl) ?_
    exact Ev.val (congrArg some (decide_eq_true (by simp[asc])).symm)
  |cons t suf=>exact Fb suf [] t hb
theorem G_ (n:Int) (E:List S59) (hE:(E.length:Int)<big):∀ (suf p:List S59),((p++suf).length:Int)<big->
    Ev (fun k=>nR.l0 k (p++suf) ((p++suf).length:Int) (p.length:Int) n E) (decide ((∀t∈suf,inr n t)/\asc E)):=by
  intro suf
  induction suf with
  |nil=>
    intro p hb
    refine Ev.step (fun k=>by simp only [nR.l0,oF,if_false]<;>exact rfl) ?_
    refine Ev.bind (Fa E hE) ?_
    exact Ev.val (by simp)
  |cons t suf ih=>
    intro p hb
    have hp:(p.length:Int)<big:=oL hb
    refine Ev.step (fun k=>by simp only [nR.l0,l9,nn,if_true,r9,mG (t:=t) hp]<;>exact rfl) ?_
    by_cases c1:t.f0<0
    · simp only [if_pos c1]
      exact Ev.val (by have:¬inr n t:=by unfold inr;omega
                       simp[this])
    simp only [if_neg c1]
    by_cases c2:t.f0>=t.f1
    · simp only [if_pos c2]
      exact Ev.val (by have:¬inr n t:=by unfold inr;omega
                       simp[this])
    simp only [if_neg c2]
    by_cases c3:t.f1>=n
    · simp only [if_pos c3]
      exact Ev.val (by have:¬inr n t:=by unfold inr;omega
                       simp[this])
    simp only [if_neg c3]
    rw[mF p t suf]
    refine Ev.eq (ih (p++[t]) (rf hb)) ?_
    have:inr n t:=by unfold inr;omega
    rw[decide_eq_decide]
    simp[this]
theorem G9 (n:Int) (E:List S59) (hb:(E.length:Int)<big):Ev (fun k=>nR.f k n E) (decide (ok n E)):=by
  unfold nR.f
  by_cases c1:n<0
  · simp only [if_pos c1]
    refine Ev.step (fun k=>by simp only [nR.j0,if_true]<;>exact rfl) ?_
    exact Ev.val (by have:¬ok n E:=fun h=>by have:=h.1;omega
                     simp[this])
  simp only [if_neg c1]
  by_cases c2:n>8
  · refine Ev.step (fun k=>by simp only [nR.j0,c2,decide_true,if_true]<;>exact rfl) ?_
    exact Ev.val (by have:¬ok n E:=fun h=>by have:=h.2.1;omega
                     simp[this])
  refine Ev.step (fun k=>by simp only [nR.j0,c2,decide_false,Bool.false_eq_true,if_false]<;>exact rfl) ?_
  refine Ev.eq (G_ n E hb E [] hb) ?_
  rw[decide_eq_decide]
  unfold ok
  constructor
  · exact fun h=>⟨by omega,by omega,h.1,h.2⟩
  exact fun h=>⟨h.2.2.1,h.2.2.2⟩
theorem yx (l:List Int) (h:l.length<17592186044416):pO.f l=some l:=by
 unfold pO.f
 simp[h]
theorem Fs {n:Int}{p:List Int}{t:Int}{suf:List Int}(h:p++t::suf=ma n):t=(p.length:Int)/\(p.length:Int)<n:=by
 have e:(ma n)[p.length]? =some t:=by rw[←h];simp
 have hl:p.length<(ma n).length:=by rw[←h];simp
 rw[pX]at hl
 unfold ma at e
 rw[List.getElem?_map,List.getElem?_range hl]at e
 simp at e
 omega
theorem Fq {n:Int}{p:List Int}(h0:0<=n) (h:p++[]=ma n):(p.length:Int)=n:=by
 have:=pX n
 rw[←h]at this
 simp at this
 omega
theorem wV (p:List Int) (v:Int) (h:p.length<=100):wrap64 (((p++[v]).length:Int) - 1)=(p.length:Int):=by
 have e:(p++[v]).length=p.length+1:=by simp
 rw[w64 (by omega) (by omega)];omega
theorem H9:∀ (a b p:List Int),a.length=b.length->(p++a).length<=1000->
  ∃t,Ev (fun k=>oQ.l0 k (p++a) (p++b) (p++a) ((p++a).length:Int) (p.length:Int)) t/\(t<0↔pM a b):=by
 intro a
 induction a with
 |nil=>
  intro b p h _
  have hb:b=[]:=List.eq_nil_of_length_eq_zero h.symm
  subst hb
  refine⟨0,Ev.step (fun k=>by simp only [oQ.l0,oF,if_false]<;>exact rfl) (Ev.val (by simp)),by simp[pM]⟩
 |cons x a ih=>
  intro b p h hl
  cases b with
  |nil=>simp at h
  |cons y b=>
   have hq:=l9 p x a
   have hy:=l9 p y b
   have c:¬ (p.length:Int)>=((p++y::b).length:Int):=by omega
   have w:wrap64 ((p.length:Int)+1)=((p++[x]).length:Int):=mG (by simp at hl;unfold big;omega)
   have st:∀t,Ev (fun k=>if qE x y=0 then oQ.l0 k (p++x::a) (p++y::b) (p++x::a) ((p++x::a).length:Int) ((p++[x]).length:Int) else some (qE x y)) t->
     Ev (fun k=>oQ.l0 k (p++x::a) (p++y::b) (p++x::a) ((p++x::a).length:Int) (p.length:Int)) t:=fun t ht=>
    Ev.step (fun k=>by simp only [oQ.l0,if_pos hq,nn,if_true,if_neg c,if_pos hy,nZ,cmp_eq,Option.bind_some,w]<;>exact rfl) ht
   by_cases e:x=y
   ·subst e
    obtain⟨t,t1,t2⟩:=ih b (p++[x]) (by simpa using h) (by simpa using hl)
    refine⟨t,st t ?_,?_⟩
    ·have c0:qE x x=0:=by unfold qE;simp
     simp only [if_pos c0]
     rw[←mF,←mF]at t1
     exact t1
    rw[t2];simp[pM]
   have c0:¬qE x y=0:=by unfold qE;repeat' split<;>omega
   refine⟨qE x y,st _ ?_,?_⟩
   ·simp only [if_neg c0];exact Ev.val rfl
   unfold qE pM
   constructor
   ·intro q
    repeat' split at q
    all_goals first|exact .inl (by assumption)|omega
   intro q
   rcases q with q|q
   ·rw[if_pos q];omega
   exact absurd q.1 e
theorem H8 (a b:List Int) (h:a.length=b.length) (hl:a.length<=1000):∃t,Ev (fun k=>oQ.f k a b) t/\(t<0↔pM a b):=H9 a b [] h hl
theorem Fh (p q:List Int) (x y:Int) (hp:p.length<=100) (hq:q.length<=100):Ev (fun k=>rV.f k (p++[x]) (q++[y])) (decide (blt (p++[x]) (q++[y]))):=by
 have c1:=l9 p x []
 have c2:=l9 q y []
 have r1:rd (p++[x]) (p.length:Int)=x:=nZ p x []
 have r2:rd (q++[y]) (q.length:Int)=y:=nZ q y []
 have l1:mI (p++[x])=x:=by unfold mI;rw[List.getLastD_concat]
 have l2:mI (q++[y])=y:=by unfold mI;rw[List.getLastD_concat]
 unfold rV.f
 simp only [wV p x hp,wV q y hq,nn,if_true,if_pos c1,if_pos c2,r1,r2]
 by_cases e:((p++[x]).length:Int)=((q++[y]).length:Int);rotate_left
 ·simp only [if_neg e]
  refine Ev.val ?_
  congr 1
  rw[decide_eq_decide]
  unfold blt
  constructor
  ·exact fun k=> .inl (by omega)
  rintro(k|⟨k,_⟩)
  ·omega
  omega
 have e':(p++[x]).length=(q++[y]).length:=by omega
 simp only [if_pos e]
 by_cases f:x=y
 ·obtain⟨t,t1,t2⟩:=H8 (p++[x]) (q++[y]) e' (by simp;omega)
  simp only [if_pos f]
  refine Ev.bind t1 (Ev.val ?_)
  congr 1
  rw[decide_eq_decide,t2]
  unfold blt
  rw[l1,l2]
  constructor
  ·exact fun k=> .inr ⟨e',.inr ⟨f,k⟩⟩
  rintro(k|⟨_,k|k⟩)
  ·omega
  ·omega
  exact k.2
 simp only [if_neg f]
 refine Ev.val ?_
 congr 1
 rw[decide_eq_decide]
 unfold blt
 rw[l1,l2]
 constructor
 ·exact fun k=> .inr ⟨e',.inl k⟩
 rintro(k|⟨_,k|k⟩)
 ·omega
 ·exact k
 exact absurd k.1 f
theorem Ba (n:Int) (C:List Tie) (K:List Int):∀ (d:Nat) (pre:List Int) (v:Int),∀x∈oJ n C K d pre v,x.length<=pre.length+d
 |0,_,_,x,h=>by simp[oJ]at h
 |d+1,pre,v,x,h=>by
  unfold oJ at h
  split at h
  ·rw[List.mem_singleton]at h
   subst h
   rw[List.length_append,List.length_singleton];omega
  rw[List.mem_flatMap]at h
  obtain⟨k,_,h⟩:=h
  have:=Ba n C K d (pre++[v]) k x h
  simp at this
  omega
theorem CX {M:Nat}:∀ (l:List (List Int)) (b:List Int),b.length<=M->(∀x∈l,x.length<=M)->(l.foldl ol b).length<=M
 |[],_,h,_=>h
 |x::l,b,h,hx=>by
  rw[List.foldl_cons]
  refine CX l _ ?_ (fun y hy=>hx y (List.mem_cons_of_mem _ hy))
  unfold ol
  split
  ·exact hx x List.mem_cons_self
  exact h
def seen (n:Int) (lr:List Bool) (K:List Int):Prop:=(lr.length:Int)=n/\∀v,0<=v->v<n->(lW false lr v=true↔v∈K)
theorem Fw (n:Int) (C:List S59) (hC:ok n C) (lr:List Bool) (K:List Int) (hS:seen n lr K):∀ (d:Nat) (pre:List Int) (v:Int) (best:List Int),(pre++[v]).Nodup->(∀x∈pre++[v],0<=x/\x<n)->n<=(d:Int)+pre.length->pre.length+d<=20->best.length<=20->
  Ev (fun k=>lZ.f k (pre++[v]) lr best n C) ((oJ n C K d pre v).foldl ol best):=by
 have hEl:=nG hC
 have hEb:(C.length:Int)<big:=by unfold big;omega
 have len:∀ (pre:List Int) (v:Int),(pre++[v]).Nodup->(∀x∈pre++[v],0<=x/\x<n)->(pre.length:Int)+1<=n:=by
  intro pre v hn hr
  have:=tL hn (fun x hx=>qj.2 (hr x hx))
  rw[pX,List.length_append,List.length_singleton]at this
  have:=hC.1
  omega
 intro d
 induction d with
 |zero=>
  intro pre v best hn hr hd _ _
  have:=len pre v hn hr
  omega
 |succ d ih=>
  intro pre v best hn hr hd h9 hb
  have l1:=len pre v hn hr
  have h8:=hC.2.1
  have hw:=wV pre v (by omega)
  have c0:(0:Int)<=(pre.length:Int):=nn _
  have c1:(pre.length:Int)<((pre++[v]).length:Int):=by simp;omega
  have er:rd (pre++[v]) (pre.length:Int)=v:=nZ pre v []
  have lw:(pre++[v]).length<17592186044416:=by simp;omega
  have hwb:((pre++[v]).length:Int)<big:=by simp[big];omega
  have hv:=hr v (by simp)
  have c2:0<=v:=hv.1
  have c3:v<(lr.length:Int):=by rw[hS.1];exact hv.2
  have hs:=hS.2 v hv.1 hv.2
  by_cases c:v∈K
  ·have rt:lW false lr v=true:=hs.2 c
   have bg:oJ n C K (d+1) pre v=[pre++[v]]:=by unfold oJ;rw[if_pos c]
   rw[bg,List.foldl_cons,List.foldl_nil]
   by_cases b0:best=[]
   ·have cb:(best.length:Int)=0:=by rw[b0];rfl
    refine Ev.step (fun k=>by simp only [lZ.f,hw,if_pos c0,if_pos c1,er,if_pos c2,if_pos c3,if_pos rt,if_pos cb,yx _ lw]<;>exact rfl) (Ev.val ?_)
    unfold ol
    rw[if_pos (.inl b0)]
   have cb:¬ (best.length:Int)=0:=by
    have:=List.length_pos_iff.2 b0
    omega
   rcases List.eq_nil_or_concat best with e|⟨q,y,e⟩
   ·exact absurd e b0
   rw[List.concat_eq_append]at e
   subst e
   have be:=Fh pre q v y (by omega) (by simp at hb;omega)
   refine Ev.step (fun k=>by simp only [lZ.f,hw,if_pos c0,if_pos c1,er,if_pos c2,if_pos c3,if_pos rt,if_neg cb,yx _ lw]<;>exact rfl) (Ev.bind be ?_)
   by_cases g:blt (pre++[v]) (q++[y])
   ·simp only [decide_eq_true g,if_true]
    refine Ev.val ?_
    unfold ol
    rw[if_pos (.inr g)]
   simp only [decide_eq_false g,Bool.false_eq_true,if_false]
   refine Ev.val ?_
   unfold ol
   rw[if_neg (fun k=>k.elim b0 g)]
  have rt:¬lW false lr v=true:=fun k=>c (hs.1 k)
  refine Ev.step (fun k=>by simp only [lZ.f,hw,if_pos c0,if_pos c1,er,if_pos c2,if_pos c3,if_neg rt]<;>exact rfl) ?_
  have wg:oJ n C K (d+1) pre v=(((ma n).filter fun i=>decide (kH v i∈C)).filter fun k=> !decide (k∈pre++[v])).flatMap fun k=>oJ n C K d (pre++[v]) k:=by
   rw[oJ,if_neg c];rfl
  rw[wg]
  have loop:∀ (suf p:List Int) (best:List Int),p++suf=ma n->best.length<=20->
    Ev (fun k=>lZ.l0 k (pre++[v]) lr best v n (p.length:Int) n C) ((((suf.filter fun i=>decide (kH v i∈C)).filter fun k=> !decide (k∈pre++[v])).flatMap fun k=>oJ n C K d (pre++[v]) k).foldl ol best):=by
   intro suf
   induction suf with
   |nil=>
    intro p best hp _
    have e:=Fq hC.1 hp
    have e2:¬ (p.length:Int)<n:=by omega
    exact Ev.step (fun k=>by simp only [lZ.l0,if_neg e2]<;>exact rfl) (Ev.val (by simp))
   |cons t suf ih2=>
    intro p best hp hb
    obtain⟨et,hlt⟩:=Fs hp
    have hp2:(p++[t])++suf=ma n:=by rw[←hp];simp
    have ws:wrap64 ((p.length:Int)+1)=((p++[t]).length:Int):=by rw[w64 (by omega) (by omega)];simp
    refine Ev.step (fun k=>by simp only [lZ.l0,if_pos hlt]<;>exact rfl) ?_
    refine Ev.bind (xu n v (p.length:Int) C hEb) ?_
    rw[←et]
    by_cases ct:kH v t∈C;rotate_left
    ·simp only [ct,decide_false,Bool.false_eq_true,if_false]
     refine Ev.step (fun k=>by simp only [lZ.j1,Bool.false_eq_true,if_false]<;>exact rfl) ?_
     have:=ih2 (p++[t]) best hp2 hb
     rw[et,ws]
     have e2:((t::suf).filter fun i=>decide (kH v i∈C))=(suf.filter fun i=>decide (kH v i∈C)):=by
      simp only [List.filter_cons,ct,decide_false,Bool.false_eq_true,if_false]
     rw[←et,e2]
     exact this
    simp only [ct,decide_true,if_true]
    refine Ev.bind (FW (pre++[v]) t hwb) ?_
    by_cases cw:t∈pre++[v]
    ·refine Ev.step (fun k=>by simp only [lZ.j1,cw,decide_true,Bool.not_true,Bool.false_eq_true,if_false]<;>exact rfl) ?_
     have:=ih2 (p++[t]) best hp2 hb
     rw[et,ws]
     rw[et]at cw ct
     have e2:((t::suf).filter fun i=>decide (kH v i∈C)).filter (fun k=> !decide (k∈pre++[v]))=(suf.filter fun i=>decide (kH v i∈C)).filter (fun k=> !decide (k∈pre++[v])):=by
      rw[et]
      simp only [List.filter_cons,ct,decide_true,if_true,cw,Bool.not_true,Bool.false_eq_true,if_false]
     rw[←et,e2]
     exact this
    have nd:((pre++[v])++[t]).Nodup:=by
     rw[List.nodup_append]
     exact⟨hn,by simp,fun x hx y hy e=>by rw[List.mem_singleton]at hy;subst hy;subst e;exact cw hx⟩
    have rg:∀x∈(pre++[v])++[t],0<=x/\x<n:=by
     intro x hx
     rcases List.mem_append.1 hx with hx|hx
     ·exact hr x hx
     rw[List.mem_singleton]at hx;omega
    have g:=ih (pre++[v]) t best nd rg (by simp only [List.length_append,List.length_singleton];omega) (by simp only [List.length_append,List.length_singleton];omega) hb
    have lt:(pre++[v]).length+[t].length<17592186044416:=by simp;omega
    refine Ev.step (fun k=>by simp only [lZ.j1,cw,decide_false,Bool.not_false,if_true,yx _ lw,Option.bind_some,if_pos lt]<;>exact rfl) ?_
    refine Ev.bind g ?_
    have gl:=CX (M:=20) (oJ n C K d (pre++[v]) t) best hb (fun x hx=>by have:=Ba n C K d (pre++[v]) t x hx;simp at this;omega)
    have:=ih2 (p++[t]) _ hp2 gl
    rw[et,ws]
    have e2:((t::suf).filter fun i=>decide (kH v i∈C)).filter (fun k=> !decide (k∈pre++[v]))=t::(suf.filter fun i=>decide (kH v i∈C)).filter (fun k=> !decide (k∈pre++[v])):=by
     simp only [List.filter_cons,ct,decide_true,if_true,cw,decide_false,Bool.not_false]
    rw[←et,e2,List.flatMap_cons,List.foldl_append]
    exact this
  exact loop (ma n) [] best (by simp) hb
theorem Fv (n b:Int) (C:List S59) (hC:ok n C) (lr:List Bool) (K:List Int) (hS:seen n lr K) (hb:0<=b/\b<n) {p:List Int}(hp:oN C K b p):
  ∃q,sW C K b q/\Ev (fun k=>rU.f k n C b lr) q:=by
 refine⟨_,IL hC.2.1 hC.2.2.1 hb hp,?_⟩
 have:=Fw n C hC lr K hS 9 [] b [] (by simp) (by simpa using hb) (by have:=hC.2.1;simp;omega) (by simp) (by simp)
 exact this
end Go.Proofs.Ytgeonpciodepgaa.P
namespace Go.Proofs.Ytgeonpciodepgaa.G
open Go.RowKit Go.Proofs.YtgeonpciodepgaaW.PrintWords
def roots (n:Int) (f:List Int):List Int:=(ma n).filter fun v=>decide (rd f v=v)
theorem xA {n v:Int}{f:List Int}:v∈roots n f↔(0<=v/\v<n)/\rd f v=v:=by
 unfold roots
 rw[List.mem_filter,qj,decide_eq_true_eq]
theorem Je (n:Int) (f:List Int):(roots n f).Nodup:=(Hm n).sublist List.filter_sublist
theorem D5 {n:Int}{E:List Tie}{f:List Int}(h:Parts n E f) (h1:1<=n):1<=(roots n f).length:=by
 have:=h.low 0 (by omega) (by omega)
 exact List.length_pos_of_mem (xA.2 ⟨⟨by omega,by omega⟩,by omega⟩:(0:Int)∈roots n f)
end Go.Proofs.Ytgeonpciodepgaa.G
namespace Go.Proofs.Ytgeonpciodepgaa.P
open Go.RowKit Go.Proofs.YtgeonpciodepgaaW.PrintWords Go.Proofs.Ytgeonpciodepgaa.G Go.Proofs.YtgeonpciodepgaaW.PrintWords.Kd
theorem Jd (i:Int) (f:List Int):(roots i f).length<=i.toNat:=by
 rw[←pX i];exact List.length_filter_le _ _
theorem Jf {i:Int}(h0:0<=i) (f:List Int):roots (i+1) f=roots i f++if rd f i=i then[i] else[]:=by
 unfold roots
 rw[xy h0,List.filter_append]
 congr 1
 by_cases c:rd f i=i
 ·rw[if_pos c,List.filter_cons,if_pos (decide_eq_true c)];rfl
 rw[if_neg c,List.filter_cons,if_neg (by simpa using c)];rfl
theorem FY (f:List Int) (h8:(f.length:Int)<=8):∀ (d:Nat) (i:Int),0<=i->i+d=(f.length:Int)->
  Ev (fun k=>pz.l0 k ((roots i f).length:Int) f (f.length:Int) i) ((roots (f.length:Int) f).length:Int):=by
 intro d
 induction d with
 |zero=>
  intro i h0 hi
  have c:¬i<(f.length:Int):=by omega
  have e:i=(f.length:Int):=by omega
  exact Ev.step (fun k=>by simp only [pz.l0,if_neg c]<;>exact rfl) (Ev.val (by rw[e]))
 |succ d ih=>
  intro i h0 hi
  have c:i<(f.length:Int):=by omega
  have w:wrap64 (i+1)=i+1:=w64 (by omega) (by omega)
  have nx:=ih (i+1) (by omega) (by omega)
  have hl:=Jd i f
  have w2:wrap64 (((roots i f).length:Int)+1)=((roots i f).length:Int)+1:=w64 (by omega) (by omega)
  rw[Jf h0]at nx
  by_cases e:rd f i=i
  ·rw[if_pos e]at nx
   refine Ev.step (fun k=>by simp only [pz.l0,if_pos c,if_pos h0,if_pos e.symm,w,w2]<;>exact rfl) ?_
   simpa using nx
  rw[if_neg e]at nx
  refine Ev.step (fun k=>by simp only [pz.l0,if_pos c,if_pos h0,if_neg (fun h=>e (Eq.symm h)),w]<;>exact rfl) ?_
  simpa using nx
theorem FX (n:Int) (E:List S59) (hE:ok n E):∃f,Parts n E f/\Ev (fun k=>pz.f k n E) ((roots n f).length:Int):=by
 obtain⟨f,e,h⟩:=DC n E hE
 refine⟨f,h,?_⟩
 have h8:=hE.2.1
 have hl:=h.len
 unfold pz.f
 refine Ev.bind e ?_
 have:=FY f (by omega) f.length 0 (Int.le_refl 0) (by omega)
 rw[hl]at this⊢
 exact this
theorem rG (n a:Int) (E:List S59) (hE:(E.length:Int)<big):Ev (fun k=>om.f k n E a) (decide (ok n E/\0<=a/\a<n)):=by
 unfold om.f
 refine Ev.bind (sO n E hE) ?_
 by_cases c:ok n E
 ·simp only [c,decide_true,if_true,xx,Option.bind_some]
  rw[w64 (by have:=c.1;omega) (by have:=c.2.1;omega)]
  refine Ev.val (congrArg some (decide_eq_decide.2 ?_))
  exact⟨fun h=>⟨trivial,h.1,by omega⟩,fun h=>⟨h.2.1,by omega⟩⟩
 simp only [c,decide_false,Bool.false_eq_true,if_false]
 exact Ev.val (congrArg some (decide_eq_false (by simp)).symm)
theorem Jr (n a b:Int) (E:List S59) (hE:(E.length:Int)<big):Ev (fun k=>tV.f k n E a b) (decide (ok n E/\kH a b∈E)):=by
 unfold tV.f
 refine Ev.bind (sO n E hE) ?_
 by_cases c:ok n E
 ·simp only [c,decide_true,if_true]
  refine Ev.bind (De n a b E hE) ?_
  exact Ev.val (by simp)
 simp only [c,decide_false,Bool.false_eq_true,if_false]
 exact Ev.val (by simp)
theorem xh (n:Int) (E:List S59) (hE:(E.length:Int)<=1048576):pQ.f n E=some (n,E):=by
 unfold pQ.f
 have:([]:List S59).length+E.length<8796093022208:=by simp;omega
 simp only [Option.bind_some,this,if_true,List.nil_append]
theorem Io (n v:Int) (E:List S59) (hE:(E.length:Int)<big) (h8:n<=8):∀ (d:Nat) (i:Int),0<=i->i+d=n->
  Ev (fun k=>nI.l0 k v ((ma i).filter fun j=>decide (kH v j∈E)) i n E) (next n E v):=by
 intro d
 induction d with
 |zero=>
  intro i h0 hi
  have hi':i=n:=by omega
  subst hi'
  have c:¬i<i:=by omega
  refine Ev.step (fun k=>by simp only [nI.l0,c,if_false]<;>exact rfl) ?_
  exact Ev.val rfl
 |succ d ih=>
  intro i h0 hi
  have c:i<n:=by omega
  have w:wrap64 (i+1)=i+1:=w64 (by omega) (by omega)
  have hl:((ma i).filter fun j=>decide (kH v j∈E)).length<17592186044416:=by
   have:=List.length_filter_le (fun j=>decide (kH v j∈E)) (ma i)
   rw[pX]at this
   omega
  refine Ev.step (fun k=>by simp only [nI.l0,c,if_true,w,hl]<;>exact rfl) ?_
  refine Ev.bind (De n v i E hE) ?_
  have e:=ih (i+1) (by omega) (by omega)
  rw[xy h0,List.filter_append]at e
  by_cases d:kH v i∈E
  ·simp only [d,decide_true,if_true]
   simpa [d] using e
  simp only [d,decide_false,Bool.false_eq_true,if_false]
  simpa [d] using e
theorem uT (n v:Int) (E:List S59) (hE:ok n E):Ev (fun k=>nI.f k n E v) (next n E v):=by
 unfold nI.f
 have hb:(E.length:Int)<big:=by have:=nG hE;unfold big;omega
 exact Io n v E hb hE.2.1 n.toNat 0 (by omega) (by have:=hE.1;omega)
def cnt (f:List Bool):Nat:=(f.filter fun b=> !b).length
theorem DK {f:List Bool}{u v:Int}(hu:0<=u) (hu2:u<(f.length:Int)) (hv:0<=v):lW false (f.set u.toNat true) v=if u=v then true else lW false f v:=by
 unfold lW
 rw[List.getD_eq_getElem?_getD,List.getD_eq_getElem?_getD,List.getElem?_set]
 by_cases c:u=v
 ·subst c
  rw[if_pos rfl,if_pos (by omega),if_pos rfl];rfl
 rw[if_neg (by omega),if_neg c]
theorem y5:∀ {f:List Bool}{i:Nat},f.getD i false=false->i<f.length->cnt (f.set i true)+1=cnt f
 |[],i,_,h=>absurd h (Nat.not_lt_zero _)
 |b::f,0,h,_=>by
  have:b=false:=h
  subst this
  simp[cnt]
 |b::f,i+1,h,hl=>by
  have hl':i<f.length:=by simpa using hl
  have ih:=y5 (f:=f) (i:=i) (by simpa using h) hl'
  unfold cnt at*
  rw[List.set_cons_succ]
  cases b<;>simp at ih⊢<;>omega
structure Inv (n:Int) (E:List Tie) (a:Int) (f:List Bool) (q:List Int) (at_:Int->Prop):Prop where
 len:(f.length:Int)=n
 start:lW false f a=true
 conn:∀v,0<=v->v<n->lW false f v=true->lD E a v
 queue:∀x∈q,0<=x/\x<n/\lW false f x=true
 done:∀v,0<=v->v<n->lW false f v=true->v∈q\/at_ v\/∀w,kH v w∈E->lW false f w=true
theorem I6 (n:Int) (E:List S59) (a:Int) (c:Int) (hE:∀t∈E,inr n t) (hc:0<=c/\c<n) (hca:lD E a c):∀ (suf p:List Int) (f:List Bool) (q:List Int),
  ((p++suf).length:Int)<big->(∀x∈suf,kH c x∈E)->q.length+cnt f<=1000->Inv n E a f q (fun v=>v=c)->
  ∃f' q',Inv n E a f' q' (fun v=>v=c)/\(∀x∈suf,lW false f' x=true)/\(∀x,0<=x->lW false f x=true->lW false f' x=true)/\q'.length+cnt f'=q.length+cnt f/\cnt f'<=cnt f/\
   ∀r,Ev (fun k=>mU.l0 k f' q' n E) r->Ev (fun k=>mU.l1 k f q (p++suf) (p.length:Int) n E) r:=by
 intro suf
 induction suf with
 |nil=>
  intro p f q hb hs hm hI
  refine⟨f,q,hI,by simp,fun x _ h=>h,rfl,Nat.le_refl _,fun r hr=>?_⟩
  refine Ev.step (fun k=>by simp only [mU.l1,oF,if_false]<;>exact rfl) hr
 |cons t suf ih=>
  intro p f q hb hs hm hI
  have hp:(p.length:Int)<big:=oL hb
  have ht:kH c t∈E:=hs t (List.mem_cons_self)
  have htr:=(nX (hE _ ht)).2.1
  have b1:0<=t:=htr.1
  have b2:t<(f.length:Int):=by rw[hI.len];exact htr.2
  by_cases d:lW false f t=true
  ·obtain⟨f',q',h1,h2,h3,h4,h5,h6⟩:=ih (p++[t]) f q (rf hb) (fun x hx=>hs x (List.mem_cons_of_mem _ hx)) hm hI
   refine⟨f',q',h1,fun x hx=>?_,h3,h4,h5,fun r hr=>?_⟩
   ·rcases List.mem_cons.1 hx with rfl|hx
    ·exact h3 _ b1 d
    exact h2 x hx
   refine Ev.step (fun k=>by simp only [mU.l1,l9,nn,if_true,nZ,mG (t:=t) hp,b1,b2,d]<;>exact rfl) ?_
   rw[mF p t suf]
   exact h6 r hr
  have d':lW false f t=false:=by simpa using d
  have hcnt:=y5 (f:=f) (i:=t.toNat) d' (by omega)
  have hq:q.length<17592186044416:=by omega
  have hset:∀v,0<=v->lW false (f.set t.toNat true) v=if t=v then true else lW false f v:=fun v hv=>DK b1 b2 hv
  have hI':Inv n E a (f.set t.toNat true) (q++[t]) (fun v=>v=c):=by
   refine⟨by rw[List.length_set];exact hI.len,?_,?_,?_,?_⟩
   ·by_cases ha:0<=a
    ·rw[hset a ha,hI.start];simp
    have h0:=hI.start
    unfold lW at h0⊢
    rw[List.getD_eq_getElem?_getD]at h0⊢
    rw[List.getElem?_set]
    split
    ·split<;>simp_all
    exact h0
   ·intro v h0 h1 hv
    rw[hset v h0]at hv
    by_cases e:t=v
    ·subst e;exact hca.step ht
    rw[if_neg e]at hv;exact hI.conn v h0 h1 hv
   ·intro x hx
    rcases List.mem_append.1 hx with hx|hx
    ·obtain⟨x0,x1,x2⟩:=hI.queue x hx
     exact⟨x0,x1,by rw[hset x x0,x2];simp⟩
    rw[List.mem_singleton]at hx
    subst hx
    exact⟨b1,htr.2,by rw[hset _ b1];simp⟩
   intro v h0 h1 hv
   rw[hset v h0]at hv
   by_cases e:t=v
   ·subst e;exact .inl (by simp)
   rw[if_neg e]at hv
   rcases hI.done v h0 h1 hv with h|h|h
   ·exact .inl (by simp[h])
   ·exact .inr (.inl h)
   refine .inr (.inr (fun w hw=>?_))
   rw[hset w (nX (hE _ hw)).2.1.1,h w hw];simp
  obtain⟨f',q',h1,h2,h3,h4,h5,h6⟩:=ih (p++[t]) (f.set t.toNat true) (q++[t]) (rf hb) (fun x hx=>hs x (List.mem_cons_of_mem _ hx)) (by simp;omega) hI'
  refine⟨f',q',h1,fun x hx=>?_,fun x h0 hx=>h3 x h0 (by rw[hset x h0,hx];simp),by rw[h4];simp;omega,by omega,fun r hr=>?_⟩
  ·rcases List.mem_cons.1 hx with rfl|hx
   ·exact h3 _ b1 (by rw[hset _ b1];simp)
   exact h2 x hx
  refine Ev.step (fun k=>by simp only [mU.l1,l9,nn,if_true,nZ,mG (t:=t) hp,b1,b2,d',Bool.false_eq_true,if_false,hq]<;>exact rfl) ?_
  rw[mF p t suf]
  exact h6 r hr
theorem DT (n:Int) (E:List S59) (a:Int) (hE:ok n E) (f:List Bool) (hI:Inv n E a f [] (fun _=>False)):
  ∃f',Ev (fun k=>mU.l0 k f [] n E) f'/\(f'.length:Int)=n/\∀v,0<=v->v<n->(lW false f' v=true↔lD E a v):=by
 refine⟨f,Ev.step (fun k=>by simp[mU.l0]<;>exact rfl) (Ev.val rfl),hI.len,fun v h0 h1=>⟨hI.conn v h0 h1,fun hc=>?_⟩⟩
 have key:0<=v/\v<n/\lW false f v=true:=by
  refine hc.closed (fun x=>0<=x/\x<n/\lW false f x=true) ?_ ?_
  ·have:=hc.symm.range hE.2.2.1 ⟨h0,h1⟩
   exact⟨this.1,this.2,hI.start⟩
  intro x y hx ht
  have:=(nX (hE.2.2.1 _ ht)).2.1
  rcases hI.done x hx.1 hx.2.1 hx.2.2 with h|h|h
  ·simp at h
  ·exact h.elim
  exact⟨this.1,this.2,h y ht⟩
 exact key.2.2
theorem I5 (n:Int) (E:List S59) (a:Int) (hE:ok n E):∀ (m:Nat) (f:List Bool) (q:List Int),2*cnt f+q.length<=m->m<=1000->Inv n E a f q (fun _=>False)->
  ∃f',Ev (fun k=>mU.l0 k f q n E) f'/\(f'.length:Int)=n/\∀v,0<=v->v<n->(lW false f' v=true↔lD E a v):=by
 intro m
 induction m with
 |zero=>
  intro f q h1 h2 hI
  have:q=[]:=List.length_eq_zero_iff.1 (by omega)
  subst this
  exact DT n E a hE f hI
 |succ m ih=>
  intro f q h1 h2 hI
  cases q with
  |nil=>exact DT n E a hE f hI
  |cons c q=>
   have hc:=hI.queue c (List.mem_cons_self)
   have hcc:=hI.conn c hc.1 hc.2.1 hc.2.2
   have hI1:Inv n E a f q (fun v=>v=c):=by
    refine⟨hI.len,hI.start,hI.conn,fun x hx=>hI.queue x (List.mem_cons_of_mem _ hx),fun v h0 h1 hv=>?_⟩
    rcases hI.done v h0 h1 hv with h|h|h
    ·rcases List.mem_cons.1 h with rfl|h
     ·exact .inr (.inl rfl)
     exact .inl h
    ·exact h.elim
    exact .inr (.inr h)
   have hlen:(((next n E c)).length:Int)<big:=by
    have:=List.length_filter_le (fun i=>decide (kH c i∈E)) (ma n)
    have e:=pX n
    have h8:=hE.2.1
    unfold big;unfold next;omega
   simp only [List.length_cons]at h1
   obtain⟨f',q',i1,i2,i3,i4,i5,i6⟩:=I6 n E a c hE.2.2.1 ⟨hc.1,hc.2.1⟩ hcc (next n E c) [] f q hlen (fun x hx=>(p8 hE.2.2.1).1 hx) (by omega) hI1
   have hI2:Inv n E a f' q' (fun _=>False):=by
    refine⟨i1.len,i1.start,i1.conn,i1.queue,fun v h0 h1 hv=>?_⟩
    rcases i1.done v h0 h1 hv with h|h|h
    ·exact .inl h
    ·refine .inr (.inr (fun w hw=>?_))
     subst h
     exact i2 w ((p8 hE.2.2.1).2 hw)
    exact .inr (.inr h)
   obtain⟨f2,j1,j2⟩:=ih f' q' (by omega) (by omega) hI2
   refine⟨f2,?_,j2⟩
   have g1:((c::q).length:Int)>0:=by rw[List.length_cons];omega
   have g2:(0:Int)<((c::q).length:Int):=g1
   have g3:(1:Int)<=((c::q).length:Int):=by omega
   have g4:rd (c::q) 0=c:=rfl
   have g5:(c::q).drop ((1:Int)).toNat=q:=rfl
   refine Ev.step (fun k=>by simp only [mU.l0,g1,g2,g3,g4,g5,if_true]<;>exact rfl) ?_
   refine Ev.bind (uT n c E hE) ?_
   exact i6 f2 j1
theorem I4 (n:Int) (E:List S59) (a:Int) (hE:ok n E) (h0:0<=a) (h1:a<n):
  ∃f,Ev (fun k=>mU.f k n E a) f/\(f.length:Int)=n/\∀v,0<=v->v<n->(lW false f v=true↔lD E a v):=by
 have h8:=hE.2.1
 have hb:(E.length:Int)<big:=by have:=nG hE;unfold big;omega
 have hn:n.toNat<=281474976710656:=by omega
 have hl:((List.replicate n.toNat false).length:Int)=n:=by rw[List.length_replicate];omega
 have hcnt:cnt (List.replicate n.toNat false)=n.toNat:=by simp[cnt]
 have hrep:∀v:Int,lW false (List.replicate n.toNat false) v=false:=fun v=>by
  unfold lW
  rw[List.getD_eq_getElem?_getD,List.getElem?_replicate]
  split<;>rfl
 have hs:=y5 (f:=List.replicate n.toNat false) (i:=a.toNat) (hrep a) (by omega)
 have hset:∀v,0<=v->lW false ((List.replicate n.toNat false).set a.toNat true) v=if a=v then true else false:=fun v hv=>by
  rw[DK h0 (by omega) hv,hrep]
 have hI:Inv n E a ((List.replicate n.toNat false).set a.toNat true) [a] (fun _=>False):=by
  refine⟨by rw[List.length_set];exact hl,by rw[hset a h0];simp,?_,?_,?_⟩
  ·intro v v0 v1 hv
   rw[hset v v0]at hv
   by_cases e:a=v
   ·subst e;exact .refl _
   rw[if_neg e]at hv;simp at hv
  ·intro x hx
   rw[List.mem_singleton]at hx
   subst hx
   exact⟨h0,h1,by rw[hset _ h0];simp⟩
  intro v v0 v1 hv
  rw[hset v v0]at hv
  by_cases e:a=v
  ·subst e;exact .inl (by simp)
  rw[if_neg e]at hv;simp at hv
 obtain⟨f,r1,r2⟩:=I5 n E a hE 100 _ [a] (by simp only [List.length_singleton];omega) (by omega) hI
 refine⟨f,?_,r2⟩
 unfold mU.f
 refine Ev.bind (rG n a E hb) ?_
 have c:ok n E/\0<=a/\a<n:=⟨hE,h0,h1⟩
 have l2:a<((List.replicate n.toNat false).length:Int):=by omega
 simp only [c,and_self,decide_true,if_true,hE.1,hn,Option.bind_some,h0,l2]
 exact r1
def PL (n:Int) (E:List Tie) (a:List Int):Prop:=∀v,0<=v->v<(a.length:Int)->0<=rd a v/\rd a v<=v/\lD E v (rd a v)/\∀u,0<=u->u<n->lD E v u->rd a v<=u
theorem I1 {a:List Int}{x v:Int}(h0:0<=v) (h1:v<(a.length:Int)):rd (a++[x]) v=rd a v:=by
 unfold rd
 rw[List.getD_eq_getElem?_getD,List.getD_eq_getElem?_getD,List.getElem?_append_left (by omega)]
theorem IZ (a:List Int) (x:Int):rd (a++[x]) (a.length:Int)=x:=nZ a x []
theorem PL.parts {n:Int}{E:List Tie}{a:List Int}(h:PL n E a) (hl:(a.length:Int)=n):Parts n E a where
 len:=hl
 low:=fun v h0 h1=>⟨(h v h0 (by omega)).1,(h v h0 (by omega)).2.1⟩
 conn:=fun v h0 h1=>(h v h0 (by omega)).2.2.1
 same:=fun u v u0 u1 v0 v1 c=>by
  obtain⟨a1,a2,a3,a4⟩:=h u u0 (by omega)
  obtain⟨b1,b2,b3,b4⟩:=h v v0 (by omega)
  have:=a4 _ b1 (by omega) (c.trans b3)
  have:=b4 _ a1 (by omega) (c.symm.trans a3)
  omega
theorem JY (n i:Int) (E:List S59) (f:List Bool) (hf:(f.length:Int)=n) (h8:n<=8) (hfc:∀v,0<=v->v<n->(lW false f v=true↔lD E i v)) (i0:0<=i) (i1:i<n) (a:List Int) (hal:(a.length:Int)=i):
  ∀ (d:Nat) (v:Int),0<=v->v+d=i->(∀u,0<=u->u<v->¬lD E i u)->∃x,0<=x/\x<=i/\lD E i x/\(∀u,0<=u->u<x->¬lD E i u)/\
   ∀r,Ev (fun k=>nH.l0 k (a++[x]) (i+1) n E) r->Ev (fun k=>nH.l1 k a i f v n E) r:=by
 intro d
 have wi:wrap64 (i+1)=i+1:=w64 (by omega) (by omega)
 have al:a.length<17592186044416:=by omega
 induction d with
 |zero=>
  intro v h0 hd hu
  obtain rfl:v=i:=by omega
  have c:lW false f v=true:=(hfc v h0 i1).2 (.refl _)
  refine⟨v,h0,Int.le_refl _,.refl _,hu,fun r hr=>?_⟩
  have f1:v<(f.length:Int):=by omega
  refine Ev.step (fun k=>by simp only [nH.l1,if_pos h0,if_pos f1,if_pos c,if_pos al,wi]<;>exact rfl) hr
 |succ d ih=>
  intro v h0 hd hu
  have f1:v<(f.length:Int):=by omega
  have wv:wrap64 (v+1)=v+1:=w64 (by omega) (by omega)
  by_cases c:lW false f v=true
  ·refine⟨v,h0,by omega,(hfc v h0 (by omega)).1 c,hu,fun r hr=>?_⟩
   refine Ev.step (fun k=>by simp only [nH.l1,if_pos h0,if_pos f1,if_pos c,if_pos al,wi]<;>exact rfl) hr
  have nc:¬lD E i v:=fun q=>c ((hfc v h0 (by omega)).2 q)
  obtain⟨x,x0,x1,x2,x3,x4⟩:=ih (v+1) (by omega) (by omega) (fun u u0 u1=>by
   by_cases e:u=v
   ·subst e;exact nc
   exact hu u u0 (by omega))
  refine⟨x,x0,x1,x2,x3,fun r hr=>?_⟩
  refine Ev.step (fun k=>by simp only [nH.l1,if_pos h0,if_pos f1,if_neg c,wv]<;>exact rfl) (x4 r hr)
theorem JX (n:Int) (E:List S59) (hE:ok n E):∀ (d:Nat) (i:Int) (a:List Int),0<=i->i+d=n->(a.length:Int)=i->PL n E a->
  ∃f,Ev (fun k=>nH.l0 k a i n E) f/\Parts n E f:=by
 intro d
 induction d with
 |zero=>
  intro i a h0 h hl hp
  obtain rfl:i=n:=by omega
  exact⟨a,Ev.step (fun k=>by simp only [nH.l0,if_neg (Int.lt_irrefl _)]<;>exact rfl) (Ev.val rfl),hp.parts hl⟩
 |succ d ih=>
  intro i a h0 h hl hp
  have c:i<n:=by omega
  obtain⟨fl,e1,e2,e3⟩:=I4 n E i hE h0 c
  obtain⟨x,x0,x1,x2,x3,x4⟩:=JY n i E fl e2 hE.2.1 e3 h0 c a hl i.toNat 0 (Int.le_refl _) (by omega) (fun u u0 u1=>by omega)
  obtain⟨f,f1,f2⟩:=ih (i+1) (a++[x]) (by omega) (by omega) (by simp;omega) (fun v v0 v1=>by
   by_cases e:v=i
   ·subst e
    have:rd (a++[x]) v=x:=by rw[←hl];exact IZ a x
    rw[this]
    refine⟨x0,x1,x2,fun u u0 u1 cu=>?_⟩
    apply Classical.byContradiction
    intro q
    exact x3 u u0 (by omega) cu
   have v2:v<(a.length:Int):=by simp at v1;omega
   rw[I1 v0 v2]
   exact hp v v0 v2)
  exact⟨f,Ev.step (fun k=>by simp only [nH.l0,if_pos c]<;>exact rfl) (Ev.bind e1 (x4 f f1)),f2⟩
theorem Eo (n:Int) (E:List S59) (hE:ok n E):∃f,Ev (fun k=>nH.f k n E) f/\Parts n E f:=by
 have h0:=hE.1
 obtain⟨f,a,b⟩:=JX n E hE n.toNat 0 [] (Int.le_refl _) (by omega) rfl (fun v v0 v1=>by simp at v1;omega)
 refine⟨f,?_,b⟩
 unfold nH.f
 simp only [Option.bind_some]
 refine Ev.bind (sO n E (by have:=nG hE;unfold big;omega)) ?_
 simp only [decide_eq_true hE,if_true]
 exact a
theorem JC (s t:Tie):(!(s.f0==t.f0)||(!(s.f1==t.f1)))= !decide (s=t):=by
 obtain⟨a,b⟩:=s
 obtain⟨c,d⟩:=t
 simp only [Tie.mk.injEq]
 by_cases h:a=c<;>by_cases k:b=d<;>simp[h,k]
theorem Jo (n a b m:Int):∀ (suf p q:List S59),((p++suf).length:Int)<=1048576->q.length<=p.length->
  Ev (fun k=>mf.l0 k a b (p.length:Int) n (p++suf) m q) (m,q++cut suf (kH a b),true):=by
 intro suf
 induction suf with
 |nil=>
  intro p q hb hq
  refine Ev.step (fun k=>by simp only [mf.l0,oF,if_false]<;>exact rfl) ?_
  exact Ev.val (by simp[cut])
 |cons t suf ih=>
  intro p q hb hq
  have hb':((p++t::suf).length:Int)<big:=by unfold big;omega
  have hp:(p.length:Int)<big:=oL hb'
  have hq8:q.length<8796093022208:=by rw[List.length_append]at hb;omega
  refine Ev.step (fun k=>by simp only [mf.l0,l9,nn,if_true,zz,mG (t:=t) hp,uP,Option.bind_some,JC,hq8]<;>exact rfl) ?_
  by_cases c:t=kH a b
  ·have c':(!decide (t=kH a b))=false:=by rw[decide_eq_true c];rfl
   simp only [c',Bool.false_eq_true,if_false]
   rw[mF p t suf]
   refine Ev.eq (ih (p++[t]) q (by rw[←mF];exact hb) (by simp;omega)) ?_
   simp[cut,c]
  have c':(!decide (t=kH a b))=true:=by rw[decide_eq_false c];rfl
  simp only [c',if_true]
  rw[mF p t suf]
  refine Ev.eq (ih (p++[t]) (q++[t]) (by rw[←mF];exact hb) (by simp;omega)) ?_
  simp[cut,c]
theorem tT (n a b:Int) (E:List S59) (hE:(E.length:Int)<=1048576):
  Ev (fun k=>mf.f k n E a b) (if ok n E/\kH a b∈E then(n,cut E (kH a b),true) else(0,[],false)):=by
 unfold mf.f
 refine Ev.bind (Jr n a b E (by unfold big;omega)) ?_
 by_cases c:ok n E/\kH a b∈E
 ·simp only [if_pos c]
  simp only [c,and_self,decide_true,if_true]
  exact Jo n a b n E [] [] hE (Nat.le_refl _)
 simp only [if_neg c]
 simp only [c,decide_false,Bool.false_eq_true,if_false]
 exact Ev.val rfl
theorem JK (f:List Int) (hf:(f.length:Int)<=8):∀ (d:Nat) (i c:Int),0<=i->i+d=f.length->∃r,Ev (fun k=>nJ.l0 k f c i) r:=by
 intro d
 induction d with
 |zero=>
  intro i c h0 h
  have e:¬i<(f.length:Int):=by omega
  exact⟨c,Ev.step (fun k=>by simp only [nJ.l0,if_neg e]<;>exact rfl) (Ev.val rfl)⟩
 |succ d ih=>
  intro i c h0 h
  have e:i<(f.length:Int):=by omega
  have w:wrap64 (i+1)=i+1:=w64 (by omega) (by omega)
  by_cases q:rd f i=i
  ·obtain⟨r,hr⟩:=ih (i+1) (wrap64 (c+1)) (by omega) (by omega)
   exact⟨r,Ev.step (fun k=>by simp only [nJ.l0,if_pos e,if_pos h0,if_pos q,w]<;>exact rfl) hr⟩
  obtain⟨r,hr⟩:=ih (i+1) c (by omega) (by omega)
  exact⟨r,Ev.step (fun k=>by simp only [nJ.l0,if_pos e,if_pos h0,if_neg q,w]<;>exact rfl) hr⟩
theorem zM (n:Int) (E:List S59) (hE:ok n E):∃r,Ev (fun k=>nJ.f k n E) r:=by
 obtain⟨f,f1,f2⟩:=Eo n E hE
 have hl:=f2.len
 have h8:=hE.2.1
 obtain⟨r,hr⟩:=JK f (by omega) f.length 0 0 (Int.le_refl _) (by omega)
 refine⟨r,?_⟩
 unfold nJ.f
 refine Ev.bind (sO n E (by have:=nG hE;unfold big;omega)) ?_
 simp only [decide_eq_true hE,if_true]
 exact Ev.bind f1 hr
theorem Fz (n a b:Int) (E:List S59) (hE:ok n E):∃r,Ev (fun k=>oU.f k n E a b) r:=by
 have hl:=nG hE
 unfold oU.f
 by_cases c:ok n E/\kH a b∈E
 ·obtain⟨x,hx⟩:=zM n (cut E (kH a b)) (sM _ hE)
  obtain⟨y,hy⟩:=zM n E hE
  refine⟨decide (x>y),Ev.bind (tT n a b E (by omega)) ?_⟩
  simp only [if_pos c,if_true]
  exact Ev.bind hx (Ev.bind hy (Ev.val rfl))
 refine⟨false,Ev.bind (tT n a b E (by omega)) ?_⟩
 simp only [if_neg c,Bool.false_eq_true,if_false]
 exact Ev.val rfl
theorem FD (n:Int) (E:List S59) (hE:ok n E):∀ (suf p:List S59) (q:List S59),p++suf=E->q.length<=p.length->∃r,Ev (fun k=>mJ.l0 k q (p.length:Int) n E) r:=by
 have hl:=nG hE
 intro suf
 induction suf with
 |nil=>
  intro p q e hq
  rw[List.append_nil]at e
  subst e
  have c:¬ (p.length:Int)<(p.length:Int):=by omega
  exact⟨q,Ev.step (fun k=>by simp only [mJ.l0,if_neg c]<;>exact rfl) (Ev.val rfl)⟩
 |cons t suf ih=>
  intro p q e hq
  have c:(p.length:Int)<(E.length:Int):=by rw[←e];exact l9 p t suf
  have w:wrap64 ((p.length:Int)+1)=((p++[t]).length:Int):=mG (by unfold big;omega)
  have q8:q.length<8796093022208:=by omega
  obtain⟨b,hb⟩:=Fz n ((jQ E (p.length:Int)).f0) ((jQ E (p.length:Int)).f1) E hE
  cases b with
  |true=>
   obtain⟨r,hr⟩:=ih (p++[t]) (q++[⟨(jQ E (p.length:Int)).f0,(jQ E (p.length:Int)).f1⟩]) (by rw[←e];simp) (by simp;omega)
   refine⟨r,Ev.step (fun k=>by simp only [mJ.l0,if_pos c,nn,if_true,w]<;>exact rfl) (Ev.bind hb ?_)⟩
   simp only [if_true,if_pos q8]
   exact hr
  |false=>
   obtain⟨r,hr⟩:=ih (p++[t]) q (by rw[←e];simp) (by simp;omega)
   refine⟨r,Ev.step (fun k=>by simp only [mJ.l0,if_pos c,nn,if_true,w]<;>exact rfl) (Ev.bind hb ?_)⟩
   simp only [Bool.false_eq_true,if_false]
   exact hr
theorem FE (n:Int) (E:List S59) (hE:ok n E):∃r,Ev (fun k=>mJ.f k n E) r:=by
 obtain⟨r,hr⟩:=FD n E hE E [] [] rfl (Nat.le_refl _)
 refine⟨r,?_⟩
 unfold mJ.f
 simp only [Option.bind_some]
 refine Ev.bind (sO n E (by have:=nG hE;unfold big;omega)) ?_
 simp only [decide_eq_true hE,if_true]
 exact hr
theorem JM (n a m:Int) (E:List S59) (hE:(E.length:Int)<=64):∀ (suf p:List S59) (q:List S59),p++suf=E->q.Sublist p->∃F,Ev (fun k=>mR.l0 k a (p.length:Int) n E m q) (m,F)/\F.Sublist E:=by
 intro suf
 induction suf with
 |nil=>
  intro p q e hq
  rw[List.append_nil]at e
  subst e
  have c:¬ (p.length:Int)<(p.length:Int):=by omega
  exact⟨q,Ev.step (fun k=>by simp only [mR.l0,if_neg c]<;>exact rfl) (Ev.val rfl),hq⟩
 |cons t suf ih=>
  intro p q e hq
  have c:(p.length:Int)<(E.length:Int):=by rw[←e];exact l9 p t suf
  have w:wrap64 ((p.length:Int)+1)=((p++[t]).length:Int):=mG (by unfold big;omega)
  have q8:q.length<8796093022208:=by have:=hq.length_le;omega
  have rt:jQ E (p.length:Int)=t:=by unfold jQ;rw[←e];exact tq p t suf _
  have no:q.Sublist (p++[t]):=hq.trans (List.sublist_append_left _ _)
  by_cases c1:t.f0=a
  ·obtain⟨r,hr,hs⟩:=ih (p++[t]) q (by rw[←e];simp) no
   exact⟨r,Ev.step (fun k=>by simp only [mR.l0,if_pos c,nn,if_true,w,rt,if_pos c1]<;>exact rfl) hr,hs⟩
  by_cases c2:t.f1=a
  ·obtain⟨r,hr,hs⟩:=ih (p++[t]) q (by rw[←e];simp) no
   exact⟨r,Ev.step (fun k=>by simp only [mR.l0,if_pos c,nn,if_true,w,rt,if_neg c1,if_pos c2]<;>exact rfl) hr,hs⟩
  obtain⟨r,hr,hs⟩:=ih (p++[t]) (q++[⟨t.f0,t.f1⟩]) (by rw[←e];simp) (hq.append (List.Sublist.refl _))
  exact⟨r,Ev.step (fun k=>by simp only [mR.l0,if_pos c,nn,if_true,w,rt,if_neg c1,if_neg c2,if_pos q8]<;>exact rfl) hr,hs⟩
theorem JN (n a:Int) (E:List S59) (hE:ok n E):∃m F,Ev (fun k=>mR.f k n E a) (m,F)/\ok m F:=by
 have hl:=nG hE
 unfold mR.f
 by_cases c:ok n E/\0<=a/\a<n
 ·obtain⟨F,f1,f2⟩:=JM n a n E hl E [] [] rfl (List.Sublist.refl _)
  refine⟨n,F,Ev.bind (rG n a E (by unfold big;omega)) ?_,Dw hE f2⟩
  simp only [decide_eq_true c,if_true]
  exact f1
 refine⟨0,[],Ev.bind (rG n a E (by unfold big;omega)) ?_,⟨Int.le_refl _,by decide,by simp,by simp[asc]⟩⟩
 simp only [decide_eq_false c,Bool.false_eq_true,if_false]
 exact Ev.val rfl
theorem yt (n v:Int) (E:List S59) (hE:ok n E):Ev (fun k=>tX.f k n E v) (((next n E v).length:Int)==0):=by
 unfold tX.f
 exact Ev.bind (uT n v E hE) (Ev.val rfl)
def pI (f:List Int):Nat:=(f.filter fun x=>decide (x<0)).length
theorem yZ:∀ {f:List Int}{i:Nat}{x:Int},i<f.length->f.getD i 0<0->0<=x->pI (f.set i x)+1=pI f
 |[],i,_,h,_,_=>absurd h (Nat.not_lt_zero _)
 |b::f,0,x,_,h,hx=>by
  have h:b<0:=h
  have hx:¬x<0:=by omega
  simp[pI,h,hx]
 |b::f,i+1,x,hl,h,hx=>by
  have ih:=yZ (f:=f) (i:=i) (x:=x) (by simpa using hl) (by simpa using h) hx
  unfold pI at*
  rw[List.set_cons_succ,List.filter_cons,List.filter_cons]
  by_cases c:b<0
  ·simp only [c,decide_true,if_true,List.length_cons];omega
  simp only [c,decide_false,Bool.false_eq_true,if_false];exact ih
structure FI (n:Int) (E:List Tie) (b:Int) (f q:List Int) (d:Int) (busy:Int->Prop):Prop where
 base:0<=b
 len:(f.length:Int)=n
 zero:rd f b=0
 only:∀v,0<=v->v<n->rd f v=0->v=b
 lo:∀v,0<=v->v<n-> -1<=rd f v
 hi:∀v,0<=v->v<n->rd f v<=d+1
 bd:∀v,0<=v->v<n->rd f v+pI f+1<=n
 down:∀v,0<=v->v<n->0<rd f v->∃w,kH v w∈E/\rd f w=rd f v - 1
 pos:0<=d
 queue:∀x∈q,0<=x/\x<n/\d<=rd f x
 sorted:q.Pairwise fun x y=>rd f x<=rd f y
 done:∀v,0<=v->v<n->0<=rd f v->v∈q\/busy v\/∀w,kH v w∈E->0<=rd f w/\rd f w<=rd f v+1
theorem FI.see {n:Int}{E:List Tie}{b:Int}{f q:List Int}{d c t:Int}(hE:∀t∈E,inr n t) (h:FI n E b f q d (fun v=>v=c)) (hc:0<=c/\c<n) (hcd:rd f c=d) (ht:kH c t∈E) (hn:rd f t<0):
  FI n E b (f.set t.toNat (d+1)) (q++[t]) d (fun v=>v=c)/\pI (f.set t.toNat (d+1))+1=pI f/\(∀x,0<=x->0<=rd f x->rd (f.set t.toNat (d+1)) x=rd f x)/\rd (f.set t.toNat (d+1)) t=d+1:=by
 have hr:=(nX (hE _ ht)).2.1
 have hl:=h.len
 have rs:∀x,0<=x->rd (f.set t.toNat (d+1)) x=if t=x then d+1 else rd f x:=fun x hx=>wh hr.1 (by omega) hx
 have cs:pI (f.set t.toNat (d+1))+1=pI f:=yZ (by omega) (by unfold rd at hn;exact hn) (by have:=h.pos;omega)
 have keep:∀x,0<=x->0<=rd f x->rd (f.set t.toNat (d+1)) x=rd f x:=fun x hx h0=>by
  rw[rs x hx,if_neg (fun e=>by subst e;omega)]
 have b0:0<=b:=h.base
 have bt:b≠t:=fun e=>by have:=h.zero;rw[e]at this;omega
 refine⟨⟨h.base,by simp;exact hl,?_,?_,?_,?_,?_,?_,h.pos,?_,?_,?_⟩,cs,keep,by rw[rs t hr.1,if_pos rfl]⟩
 ·rw[rs b b0,if_neg (fun e=>bt e.symm)];exact h.zero
 ·intro v v0 v1 e
  rw[rs v v0]at e
  split at e
  ·have:=h.pos;omega
  exact h.only v v0 v1 e
 ·intro v v0 v1
  rw[rs v v0]
  split
  ·have:=h.pos;omega
  exact h.lo v v0 v1
 ·intro v v0 v1
  rw[rs v v0]
  split
  ·omega
  exact h.hi v v0 v1
 ·intro v v0 v1
  rw[rs v v0]
  split
  ·have:=h.bd c hc.1 hc.2;omega
  have:=h.bd v v0 v1;omega
 ·intro v v0 v1 e
  rw[rs v v0]at e⊢
  split at e
  ·rename_i q
   subst q
   refine⟨c,by rw[wC];exact ht,?_⟩
   rw[if_pos rfl,keep c hc.1 (by have:=h.pos;omega),hcd];omega
  rename_i q
  rw[if_neg q]
  obtain⟨w,w1,w2⟩:=h.down v v0 v1 e
  exact⟨w,w1,by rw[keep w (nX (hE _ w1)).2.1.1 (by omega),w2]⟩
 ·intro x hx
  rcases List.mem_append.1 hx with hx|hx
  ·obtain⟨a1,a2,a3⟩:=h.queue x hx
   exact⟨a1,a2,by rw[keep x a1 (by have:=h.pos;omega)];exact a3⟩
  rw[List.mem_singleton]at hx
  subst hx
  exact⟨hr.1,hr.2,by rw[rs x hr.1,if_pos rfl];omega⟩
 ·rw[List.pairwise_append]
  refine⟨?_,by simp,?_⟩
  ·refine List.Pairwise.imp_of_mem ?_ h.sorted
   intro x y hx hy e
   obtain⟨a1,a2,a3⟩:=h.queue x hx
   obtain⟨b1,b2,b3⟩:=h.queue y hy
   have:=h.pos
   rw[keep x a1 (by omega),keep y b1 (by omega)];exact e
  intro x hx y hy
  rw[List.mem_singleton]at hy
  subst hy
  obtain⟨a1,a2,a3⟩:=h.queue x hx
  have:=h.pos
  have:=h.hi x a1 a2
  rw[keep x a1 (by omega),rs y hr.1,if_pos rfl];omega
 intro v v0 v1 e
 by_cases q:t=v
 ·subst q;exact .inl (by simp)
 rw[rs v v0,if_neg q]at e⊢
 rcases h.done v v0 v1 e with k|k|k
 ·exact .inl (by simp[k])
 ·exact .inr (.inl k)
 refine .inr (.inr fun w hw=>?_)
 have:=k w hw
 rw[keep w (nX (hE _ hw)).2.1.1 this.1];exact this
theorem GA (n:Int) (E:List S59) (b c d:Int) (hE:∀t∈E,inr n t) (h8:n<=8) (hc:0<=c/\c<n):∀ (suf p f q:List Int),((p++suf).length:Int)<big->(∀x∈suf,kH c x∈E)->q.length+pI f<=1000->rd f c=d->FI n E b f q d (fun v=>v=c)->
  ∃f' q',FI n E b f' q' d (fun v=>v=c)/\rd f' c=d/\(∀x∈suf,0<=rd f' x)/\(∀x,0<=x->0<=rd f x->0<=rd f' x)/\q'.length+pI f'=q.length+pI f/\pI f'<=pI f/\
   ∀r,Ev (fun k=>lN.l1 k f' q' n E) r->Ev (fun k=>lN.l2 k f q c (p++suf) (p.length:Int) n E) r:=by
 intro suf
 induction suf with
 |nil=>
  intro p f q hb hs hm hcd hI
  exact⟨f,q,hI,hcd,by simp,fun x _ h=>h,rfl,Nat.le_refl _,fun r hr=>Ev.step (fun k=>by simp only [lN.l2,oF,if_false]<;>exact rfl) hr⟩
 |cons t suf ih=>
  intro p f q hb hs hm hcd hI
  have hp:(p.length:Int)<big:=oL hb
  have htE:=hs t (by simp)
  have hr:=(nX (hE _ htE)).2.1
  have hl:=hI.len
  have g0:0<=t:=hr.1
  have g1:t<(f.length:Int):=by omega
  have k0:0<=c:=hc.1
  have k1:c<(f.length:Int):=by omega
  have ql:q.length<17592186044416:=by omega
  have hs':∀x∈suf,kH c x∈E:=fun x hx=>hs x (List.mem_cons_of_mem _ hx)
  have hb':(((p++[t])++suf).length:Int)<big:=by rw[←mF];exact hb
  by_cases u:rd f t<0
  ·obtain⟨s1,s2,s3,s4⟩:=hI.see hE hc hcd htE u
   have bdc:=hI.bd c hc.1 hc.2
   have dp:=hI.pos
   have wd:wrap64 (rd f c+1)=d+1:=by rw[hcd];exact w64 (by omega) (by omega)
   obtain⟨f',q',i1,i2,i3,i4,i5,i6,i7⟩:=ih (p++[t]) _ (q++[t]) hb' hs' (by simp;omega) (by rw[s3 c hc.1 (by omega)];exact hcd) s1
   refine⟨f',q',i1,i2,fun x hx=>?_,fun x x0 hx=>i4 x x0 (by rw[s3 x x0 hx];exact hx),by simp at i5;omega,by omega,fun r hr2=>?_⟩
   ·rcases List.mem_cons.1 hx with rfl|hx
    ·exact i4 x g0 (by rw[s4];omega)
    exact i3 x hx
   have:=i7 r hr2
   rw[←mF]at this
   exact Ev.step (fun k=>by simp only [lN.l2,l9,nn,if_true,nZ,if_pos g0,if_pos g1,if_pos u,if_pos k0,if_pos k1,if_pos ql,wd,mG (t:=t) hp]<;>exact rfl) this
  obtain⟨f',q',i1,i2,i3,i4,i5,i6,i7⟩:=ih (p++[t]) f q hb' hs' hm hcd hI
  refine⟨f',q',i1,i2,fun x hx=>?_,i4,i5,i6,fun r hr2=>?_⟩
  ·rcases List.mem_cons.1 hx with rfl|hx
   ·exact i4 x g0 (by omega)
   exact i3 x hx
  have:=i7 r hr2
  rw[←mF]at this
  exact Ev.step (fun k=>by simp only [lN.l2,l9,nn,if_true,nZ,if_pos g0,if_pos g1,if_neg u,mG (t:=t) hp]<;>exact rfl) this
theorem Gz (n:Int) (E:List S59) (b:Int) (hE:ok n E):∀ (m:Nat) (f q:List Int) (d:Int),2*pI f+q.length<=m->m<=900->FI n E b f q d (fun _=>False)->
  ∃f',Ev (fun k=>lN.l1 k f q n E) f'/\(f'.length:Int)=n/\(∀v,0<=v->v<n->rd f' v<=n)/\Far n E b (rd f'):=by
 intro m
 induction m with
 |zero=>
  intro f q d hm h9 hI
  have e:q=[]:=List.eq_nil_of_length_eq_zero (by omega)
  subst e
  have c:¬ (([]:List Int).length:Int)>0:=by simp
  refine⟨f,Ev.step (fun k=>by simp only [lN.l1,if_neg c]<;>exact rfl) (Ev.val rfl),hI.len,fun v v0 v1=>by have:=hI.bd v v0 v1;omega,?_⟩
  exact⟨hI.zero,hI.only,hI.down,fun v w ht h0=>by
   have:=(nX (hE.2.2.1 _ ht)).1
   rcases hI.done v this.1 this.2 h0 with k|k|k
   ·simp at k
   ·exact k.elim
   exact k w ht,hI.lo⟩
 |succ m ih=>
  intro f q d hm h9 hI
  cases q with
  |nil=>
   have c:¬ (([]:List Int).length:Int)>0:=by simp
   refine⟨f,Ev.step (fun k=>by simp only [lN.l1,if_neg c]<;>exact rfl) (Ev.val rfl),hI.len,fun v v0 v1=>by have:=hI.bd v v0 v1;omega,?_⟩
   exact⟨hI.zero,hI.only,hI.down,fun v w ht h0=>by
    have:=(nX (hE.2.2.1 _ ht)).1
    rcases hI.done v this.1 this.2 h0 with k|k|k
    ·simp at k
    ·exact k.elim
    exact k w ht,hI.lo⟩
  |cons x q=>
   obtain⟨x0,x1,x2⟩:=hI.queue x (by simp)
   have hs:=List.pairwise_cons.1 hI.sorted
   have dp:=hI.pos
   have I2:FI n E b f q (rd f x) (fun v=>v=x):=⟨hI.base,hI.len,hI.zero,hI.only,hI.lo,fun v v0 v1=>by have:=hI.hi v v0 v1;omega,hI.bd,hI.down,by omega,fun y hy=>⟨(hI.queue y (by simp[hy])).1,(hI.queue y (by simp[hy])).2.1,hs.1 y hy⟩,hs.2,fun v v0 v1 h0=>by
    rcases hI.done v v0 v1 h0 with k|k|k
    ·rcases List.mem_cons.1 k with k|k
     ·exact .inr (.inl k)
     exact .inl k
    ·exact k.elim
    exact .inr (.inr k)⟩
   have nl:((next n E x).length:Int)<big:=by
    have:=List.length_filter_le (fun i=>decide (kH x i∈E)) (ma n)
    rw[pX]at this
    have:=hE.2.1
    unfold next big
    omega
   obtain⟨f',q',i1,i2,i3,i4,i5,i6,i7⟩:=GA n E b x (rd f x) hE.2.2.1 hE.2.1 ⟨x0,x1⟩ (next n E x) [] f q (by simpa using nl) (fun y hy=>(p8 hE.2.2.1).1 hy) (by simp at hm;omega) rfl I2
   have I3:FI n E b f' q' (rd f x) (fun _=>False):=⟨i1.base,i1.len,i1.zero,i1.only,i1.lo,i1.hi,i1.bd,i1.down,i1.pos,i1.queue,i1.sorted,fun v v0 v1 h0=>by
    rcases i1.done v v0 v1 h0 with k|k|k
    ·exact .inl k
    ·subst k
     refine .inr (.inr fun w hw=>?_)
     have wr:=(nX (hE.2.2.1 _ hw)).2.1
     exact⟨i3 w ((p8 hE.2.2.1).2 hw),by have:=i1.hi w wr.1 wr.2;omega⟩
    exact .inr (.inr k)⟩
   obtain⟨f2,e1,e2,e3,e4⟩:=ih f' q' (rd f x) (by simp at hm;omega) (by omega) I3
   refine⟨f2,?_,e2,e3,e4⟩
   have c1:((x::q).length:Int)>0:=by rw[List.length_cons];omega
   have c2:0<((x::q).length:Int):=c1
   have c3:1<=((x::q).length:Int):=by omega
   have er:rd (x::q) 0=x:=rfl
   refine Ev.step (fun k=>by simp only [lN.l1,if_pos c1,if_pos c2,er]<;>exact rfl) ?_
   refine Ev.bind (uT n x E hE) ?_
   simp only [if_pos c3]
   have ed:(x::q).drop (1:Int).toNat=q:=rfl
   rw[ed]
   exact i7 _ e1
theorem DN (m:Nat) (v:Int):rd (List.replicate m (-1)) v=if v.toNat<m then -1 else 0:=by
 unfold rd
 rw[List.getD_eq_getElem?_getD]
 by_cases c:v.toNat<m
 ·rw[if_pos c,List.getElem?_replicate,if_pos c];rfl
 rw[if_neg c,List.getElem?_replicate,if_neg c];rfl
theorem CU (n:Int) (E:List S59) (b:Int) (hE:ok n E) (hb:0<=b/\b<n):∃f,Ev (fun k=>lN.f k n E b) f/\(f.length:Int)=n/\(∀v,0<=v->v<n->rd f v<=n)/\Far n E b (rd f):=by
 have h8:=hE.2.1
 have hl:((List.replicate n.toNat (-1:Int)).length:Int)=n:=by simp;omega
 have rs:∀v,0<=v->v<n->rd ((List.replicate n.toNat (-1)).set b.toNat 0) v=if b=v then 0 else -1:=fun v v0 v1=>by
  rw[wh hb.1 (by omega) v0]
  by_cases q:b=v
  ·rw[if_pos q,if_pos q]
  rw[if_neg q,if_neg q,DN,if_pos (by omega)]
 have c0:pI (List.replicate n.toNat (-1:Int))=n.toNat:=by
  unfold pI
  rw[List.filter_eq_self.2]
  ·simp
  intro x hx;rw[List.eq_of_mem_replicate hx];rfl
 have cs:pI ((List.replicate n.toNat (-1:Int)).set b.toNat 0)+1=n.toNat:=by
  rw[yZ (by simp;omega) (by have:=DN n.toNat b;unfold rd at this;rw[this,if_pos (by omega)];omega) (by omega),c0]
 have I:FI n E b ((List.replicate n.toNat (-1)).set b.toNat 0) [b] 0 (fun _=>False):=by
  refine⟨hb.1,by simp;omega,by rw[rs b hb.1 hb.2,if_pos rfl],fun v v0 v1 e=>?_,fun v v0 v1=>?_,fun v v0 v1=>?_,fun v v0 v1=>?_,fun v v0 v1 e=>?_,Int.le_refl _,fun x hx=>?_,by simp,fun v v0 v1 e=>?_⟩
  ·rw[rs v v0 v1]at e
   split at e
   ·rename_i q;exact q.symm
   omega
  ·rw[rs v v0 v1];split<;>omega
  ·rw[rs v v0 v1];split<;>omega
  ·rw[rs v v0 v1];split<;>omega
  ·rw[rs v v0 v1]at e
   split at e<;>omega
  ·rw[List.mem_singleton]at hx
   subst hx
   exact⟨hb.1,hb.2,by rw[rs x hb.1 hb.2,if_pos rfl];omega⟩
  rw[rs v v0 v1]at e
  split at e
  ·rename_i q;exact .inl (by simp[q])
  omega
 obtain⟨f',e1,e2,e3,e4⟩:=Gz n E b hE 100 _ [b] 0 (by simp;omega) (by omega) I
 refine⟨f',?_,e2,e3,e4⟩
 unfold lN.f
 have go:∀ (d:Nat) (i:Int),0<=i->i+d=n->Ev (fun k=>lN.l0 k b (List.replicate i.toNat (-1)) i n E) f':=by
  intro d
  induction d with
  |zero=>
   intro i i0 hi
   have e:i=n:=by omega
   subst e
   have c:¬i<i:=by omega
   have b1:b<((List.replicate i.toNat (-1:Int)).length:Int):=by omega
   have b0:0<=b:=hb.1
   exact Ev.step (fun k=>by simp only [lN.l0,if_neg c,if_pos b0,if_pos b1]<;>exact rfl) e1
  |succ d ih=>
   intro i i0 hi
   have c:i<n:=by omega
   have l:(List.replicate i.toNat (-1:Int)).length<17592186044416:=by simp;omega
   have w:wrap64 (i+1)=i+1:=w64 (by omega) (by omega)
   have:=ih (i+1) (by omega) (by omega)
   have e:List.replicate (i+1).toNat (-1:Int)=List.replicate i.toNat (-1)++[-1]:=by
    rw[show(i+1).toNat=i.toNat+1 by omega,List.replicate_succ']
   rw[e]at this
   exact Ev.step (fun k=>by simp only [lN.l0,if_pos c,if_pos l,w]<;>exact rfl) this
 exact go n.toNat 0 (by omega) (by have:=hE.1;omega)
theorem GG (n b v x:Int) (E:List S59) (f out:List Int) (d:Nat) (hf:(f.length:Int)=n) (h8:n<=8) (hv:0<=v/\v<n) (hd:rd f v=(d+1:Nat)) (hd8:d<=100) (ho:out.length<=1000):∀ (suf p:List Int),((p++suf).length:Int)<big->(∀y∈suf,0<=y/\y<n)->suf.find? (fun w=>decide (rd f w=d))=some x->
  ∀r,Ev (fun k=>lX.l0 k b (out++[x]) f x n E) r->Ev (fun k=>lX.l1 k b out f v (p++suf) (p.length:Int) n E) r:=by
 intro suf
 induction suf with
 |nil=>intro p _ _ h;simp at h
 |cons t suf ih=>
  intro p hb hs h r hr
  have hp:(p.length:Int)<big:=oL hb
  obtain⟨t0,t1⟩:=hs t (by simp)
  have t2:t<(f.length:Int):=by omega
  have v0:0<=v:=hv.1
  have v1:v<(f.length:Int):=by omega
  have w:wrap64 (rd f v - 1)=d:=by rw[hd];rw[w64 (by omega) (by omega)];omega
  have lo:out.length<17592186044416:=by omega
  rw[List.find?_cons]at h
  by_cases c:rd f t=d
  ·simp only [c,decide_true]at h
   injection h with h
   subst h
   exact Ev.step (fun k=>by simp only [lX.l1,l9,nn,if_true,nZ,if_pos t0,if_pos t2,if_pos v0,if_pos v1,w,if_pos c,if_pos lo]<;>exact rfl) hr
  simp only [c,decide_false]at h
  have:=ih (p++[t]) (by rw[←mF];exact hb) (fun y hy=>hs y (by simp[hy])) h r hr
  rw[←mF]at this
  exact Ev.step (fun k=>by simp only [lX.l1,l9,nn,if_true,nZ,if_pos t0,if_pos t2,if_pos v0,if_pos v1,w,if_neg c,mG (t:=t) hp]<;>exact rfl) this
theorem CV (n b:Int) (E:List S59) (hE:ok n E) (f:List Int) (hf:(f.length:Int)=n) (F:Far n E b (rd f)):∀ (d:Nat) (v:Int) (out:List Int),d<=100->out.length+d<=1000->0<=v/\v<n->rd f v=(d:Int)->
  Ev (fun k=>lX.l0 k b out f v n E) (out++(down n E (rd f) d v).tail,true):=by
 intro d
 induction d with
 |zero=>
  intro v out _ _ hv hd
  have e:v=b:=F.only v hv.1 hv.2 hd
  exact Ev.step (fun k=>by simp only [lX.l0,if_pos e]<;>exact rfl) (Ev.val (by simp[down]))
 |succ d ih=>
  intro v out hd8 ho hv hd
  have c:v≠b:=fun e=>by rw[e,F.zero]at hd;omega
  obtain⟨x,ex,ht,hx,hr,_⟩:=F.step hE.2.2.1 hv hd
  refine Ev.step (fun k=>by simp only [lX.l0,if_neg c]<;>exact rfl) ?_
  refine Ev.bind (uT n v E hE) ?_
  have nl:((next n E v).length:Int)<big:=by
   have:=List.length_filter_le (fun i=>decide (kH v i∈E)) (ma n)
   rw[pX]at this
   have:=hE.2.1
   unfold next big
   omega
  refine GG n b v x E f out d hf hE.2.1 hv hd (by omega) (by omega) (next n E v) [] (by simpa using nl) (fun y hy=>(nX (hE.2.2.1 _ ((p8 hE.2.2.1).1 hy))).2.1) ex _ ?_
  have:=ih x (out++[x]) (by omega) (by simp;omega) hr hx
  obtain⟨r,e1,_⟩:=uM F hE.2.2.1 d x hr hx
  have e2:(down n E (rd f) (d+1) v).tail=x::r:=by
   rw[down,ex]
   exact e1
  rw[e1]at this
  rw[e2]
  simpa using this
open Classical in
theorem Jq (n a b:Int) (E:List S59) (hl:(E.length:Int)<big):Ev (fun k=>lX.f k n E a b) (if ok n E/\(0<=a/\a<n)/\(0<=b/\b<n) then found n E a b else([],false)):=by
 by_cases ca:ok n E/\0<=a/\a<n;rotate_left
 ·rw[if_neg (fun h=>ca ⟨h.1,h.2.1⟩)]
  unfold lX.f
  simp only [Option.bind_some]
  refine Ev.bind (rG n a E hl) ?_
  rw[decide_eq_false ca]
  simp only [Bool.false_eq_true,if_false]
  exact Ev.step (fun k=>by simp only [lX.j0,if_true]<;>exact rfl) (Ev.val rfl)
 by_cases cb:0<=b/\b<n
 ·have cc:ok n E/\0<=b/\b<n:=⟨ca.1,cb⟩
  obtain⟨f,f1,f2,f3,F⟩:=CU n E b ca.1 cb
  have a0:0<=a:=ca.2.1
  have a1:a<(f.length:Int):=by omega
  rw[if_pos ⟨ca.1,ca.2,cb⟩,GJ F ca.1.2.1 ca.1.2.2.1 ca.2]
  have fa:=f3 a ca.2.1 ca.2.2
  have h8:=ca.1.2.1
  obtain⟨res,hres⟩:∃r:List Int×Bool,r=(if 0<=rd f a then(um n E (rd f) a,true) else([],false)):=⟨_,rfl⟩
  rw[←hres]
  unfold lX.f
  simp only [Option.bind_some]
  refine Ev.bind (rG n a E hl) ?_
  rw[decide_eq_true ca]
  simp only [if_true]
  refine Ev.bind (rG n b E hl) ?_
  rw[decide_eq_true cc]
  refine Ev.step (fun k=>by simp only [lX.j0,Bool.not_true,Bool.false_eq_true,if_false]<;>exact rfl) ?_
  refine Ev.bind f1 ?_
  simp only [if_pos a0,if_pos a1]
  rw[hres]
  by_cases c:0<=rd f a
  ·have c':¬rd f a<0:=by omega
   rw[if_pos c]
   simp only [if_neg c',List.nil_append,List.length_nil,Nat.reduceLT,if_true]
   have:=CV n b E ca.1 f f2 F (rd f a).toNat a [a] (by omega) (by simp;omega) ca.2 (by omega)
   obtain⟨r,e1,_⟩:=uM F ca.1.2.2.1 (rd f a).toNat a ca.2 (by omega)
   unfold um
   rw[e1]at this⊢
   exact this
  have c':rd f a<0:=by omega
  rw[if_neg c]
  simp only [if_pos c']
  exact Ev.val rfl
 have cc:¬ (ok n E/\0<=b/\b<n):=fun h=>cb h.2
 rw[if_neg (fun h=>cb h.2.2)]
 unfold lX.f
 simp only [Option.bind_some]
 refine Ev.bind (rG n a E hl) ?_
 rw[decide_eq_true ca]
 simp only [if_true]
 refine Ev.bind (rG n b E hl) ?_
 rw[decide_eq_false cc]
 exact Ev.step (fun k=>by simp only [lX.j0,Bool.not_false,if_true]<;>exact rfl) (Ev.val rfl)
theorem xG (pre:List (List Int)) (t:List Int) (suf:List (List Int)):mQ (pre++t::suf) (pre.length:Int)=t:=by
 unfold mQ
 exact tq pre t suf _
def tot:List (List Int)->Nat
 |[]=>0
 |r::rs=>r.length+tot rs
theorem EY (ks p:List Int) (v:Int):nA ks (p++[v])=if v∈nA ks p then nA ks p else nA ks p++[v]:=by rw[EX];rfl
theorem Eg (q:List Int) (u v:Int):ties (q++[u])++[kH u v]=ties ((q++[u])++[v]):=by
 rw[show(q++[u])++[v]=q++[u,v] by simp,Eh]
theorem Hq (a:Int):∀ (suf p:List Int),((p++suf).length:Int)<big->a∉p->Ev (fun k=>ni.l0 k (p++suf) a (p.length:Int)) (decide (a∈p++suf)):=by
 intro suf
 induction suf with
 |nil=>
  intro p hb hp
  refine Ev.step (fun k=>by simp only [ni.l0,oF,if_false]<;>exact rfl) (Ev.val ?_)
  rw[decide_eq_false (by simpa using hp)]
 |cons t suf ih=>
  intro p hb hp
  have hl:(p.length:Int)<big:=oL hb
  by_cases c:t=a
  ·refine Ev.step (fun k=>by simp only [ni.l0,l9,nn,if_true,nZ,if_pos c]<;>exact rfl) (Ev.val ?_)
   rw[decide_eq_true (by simp[c])]
  refine Ev.step (fun k=>by simp only [ni.l0,l9,nn,if_true,nZ,if_neg c,mG (t:=t) hl]<;>exact rfl) ?_
  rw[mF p t suf]
  exact ih (p++[t]) (by rw[←mF];exact hb) (fun q=>by
   rcases List.mem_append.1 q with q|q
   ·exact hp q
   exact c (List.mem_singleton.1 q).symm)
theorem sK (S:List Int) (a:Int) (hb:(S.length:Int)<big):Ev (fun k=>ni.f k S a) (decide (a∈S)):=by
 unfold ni.f
 exact Hq a S [] hb (by simp)
def begins (x:Int) (b:List Int):Prop:=b.length<=9/\(b≠[]->∃r,b=x::r)
def uo (E:List Tie) (a:Int) (r:List Int×Bool):Prop:=r.1.length<=10/\(r.2=true->∃x s,r.1=a::x::s/\kH a x∈E)
theorem GH (n a b:Int) (E:List S59) (hl:(E.length:Int)<big):∃w,Ev (fun k=>lX.f k n E a b) w/\(w.2=true->begins a w.1):=by
 have no:Ev (fun k=>lX.j0 k a b [] true n E) ([],false):=Ev.step (fun k=>by simp only [lX.j0,if_true]<;>exact rfl) (Ev.val rfl)
 unfold lX.f
 simp only [Option.bind_some]
 have ka:=rG n a E hl
 have kb:=rG n b E hl
 by_cases ca:ok n E/\0<=a/\a<n;rotate_left
 ·rw[decide_eq_false ca]at ka
  refine⟨([],false),Ev.bind ka ?_,by simp⟩
  simp only [Bool.false_eq_true,if_false]
  exact no
 rw[decide_eq_true ca]at ka
 by_cases cc:ok n E/\0<=b/\b<n;rotate_left
 ·rw[decide_eq_false cc]at kb
  refine⟨([],false),Ev.bind ka ?_,by simp⟩
  simp only [if_true]
  exact Ev.bind kb no
 rw[decide_eq_true cc]at kb
 obtain⟨f,f1,f2,f3,F⟩:=CU n E b ca.1 cc.2
 have a0:0<=a:=ca.2.1
 have a1:a<(f.length:Int):=by omega
 have fa:=f3 a ca.2.1 ca.2.2
 have h8:=ca.1.2.1
 by_cases c:rd f a<0
 ·refine⟨([],false),Ev.bind ka ?_,by simp⟩
  simp only [if_true]
  refine Ev.bind kb (Ev.step (fun k=>by simp only [lX.j0,Bool.not_true,Bool.false_eq_true,if_false]<;>exact rfl) (Ev.bind f1 ?_))
  simp only [if_pos a0,if_pos a1,if_pos c]
  exact Ev.val rfl
 have hw:=CV n b E ca.1 f f2 F (rd f a).toNat a [a] (by omega) (by simp;omega) ca.2 (by omega)
 obtain⟨r,e1,e2,_⟩:=uM F ca.1.2.2.1 (rd f a).toNat a ca.2 (by omega)
 rw[e1]at hw
 refine⟨([a]++(a::r).tail,true),Ev.bind ka ?_,?_⟩
 ·simp only [if_true]
  refine Ev.bind kb (Ev.step (fun k=>by simp only [lX.j0,Bool.not_true,Bool.false_eq_true,if_false]<;>exact rfl) (Ev.bind f1 ?_))
  simp only [if_pos a0,if_pos a1,if_neg c,List.nil_append,List.length_nil,Nat.reduceLT,if_true]
  exact hw
 intro _
 exact⟨by simp;omega,fun _=>⟨r,by simp⟩⟩
theorem GQ (n a x:Int) (E C:List S59) (ks:List Int) (i:Int) (best:List Int) (hk:ks.length<=1000) (hb:begins x best)
  (next:∀b,begins x b->∃r,Ev (fun k=>lM.l0 k ks a x b (wrap64 (i+1)) n E n C) r/\uo E a r):∀ (suf p:List Int) (m:Int) (F:List S59),p++suf=ks->ok m F->
  ∃r,Ev (fun k=>lM.l1 k ks a x best i (p.length:Int) n E n C m F) r/\uo E a r:=by
 intro suf
 induction suf with
 |nil=>
  intro p m F e hF
  rw[List.append_nil]at e
  subst e
  have c:¬ (p.length:Int)<(p.length:Int):=by omega
  have hl:=nG hF
  obtain⟨w,wf,wb⟩:=GH m x i F (by unfold big;omega)
  obtain⟨r0,g1,g2⟩:=next best hb
  by_cases t:w.2=true
  ·have hbw:=wb t
   obtain⟨r1,h1,h2⟩:=next w.1 hbw
   by_cases z:(best.length:Int)=0
   ·refine⟨r1,Ev.step (fun k=>by simp only [lM.l1,if_neg c]<;>exact rfl) (Ev.bind wf ?_),h2⟩
    simp only [if_pos t,if_pos z];exact h1
   by_cases y:(w.1.length:Int)<(best.length:Int)
   ·refine⟨r1,Ev.step (fun k=>by simp only [lM.l1,if_neg c]<;>exact rfl) (Ev.bind wf ?_),h2⟩
    simp only [if_pos t,if_neg z,if_pos y];exact h1
   refine⟨r0,Ev.step (fun k=>by simp only [lM.l1,if_neg c]<;>exact rfl) (Ev.bind wf ?_),g2⟩
   simp only [if_pos t,if_neg z,if_neg y];exact g1
  refine⟨r0,Ev.step (fun k=>by simp only [lM.l1,if_neg c]<;>exact rfl) (Ev.bind wf ?_),g2⟩
  simp only [if_neg t];exact g1
 |cons v suf ih=>
  intro p m F e hF
  have c:(p.length:Int)<(ks.length:Int):=by rw[←e];exact l9 p v suf
  have w:wrap64 ((p.length:Int)+1)=((p++[v]).length:Int):=mG (by unfold big;omega)
  by_cases q:rd ks (p.length:Int)=i
  ·obtain⟨r,h1,h2⟩:=ih (p++[v]) m F (by rw[←e];simp) hF
   exact⟨r,Ev.step (fun k=>by simp only [lM.l1,if_pos c,nn,if_true,if_pos q,w]<;>exact rfl) h1,h2⟩
  obtain⟨m',F',f1,f2⟩:=JN m (rd ks (p.length:Int)) F hF
  obtain⟨r,h1,h2⟩:=ih (p++[v]) m' F' (by rw[←e];simp) f2
  exact⟨r,Ev.step (fun k=>by simp only [lM.l1,if_pos c,nn,if_true,if_neg q,w]<;>exact rfl) (Ev.bind f1 h1),h2⟩
theorem GN (n a x:Int) (E C:List S59) (hE:ok n E) (ks:List Int) (hk:ks.length<=1000) (hC:ok n C) (ht:kH a x∈E):∀ (d:Nat) (i:Int) (best:List Int),0<=i->i+d=n->begins x best->
  ∃r,Ev (fun k=>lM.l0 k ks a x best i n E n C) r/\uo E a r:=by
 intro d
 induction d with
 |zero=>
  intro i best h0 h hb
  have c:¬i<n:=by omega
  by_cases z:(best.length:Int)=0
  ·exact⟨([],false),Ev.step (fun k=>by simp only [lM.l0,if_neg c,if_pos z]<;>exact rfl) (Ev.val rfl),by simp[uo]⟩
  obtain⟨s,hs⟩:=hb.2 (fun e=>z (by rw[e];rfl))
  have hl:=hb.1
  have g:([a]:List Int).length+best.length<17592186044416:=by simp;omega
  refine⟨(a::best,true),Ev.step (fun k=>by simp only [lM.l0,if_neg c,if_neg z,Option.bind_some,if_pos g]<;>exact rfl) (Ev.val rfl),?_,fun _=>⟨x,s,by rw[hs],ht⟩⟩
  simp;omega
 |succ d ih=>
  intro i best h0 h hb
  have c:i<n:=by omega
  have h8:=hE.2.1
  have w:wrap64 (i+1)=i+1:=w64 (by omega) (by omega)
  have hh:=sK ks i (by unfold big;omega)
  have nxt:∀b,begins x b->∃r,Ev (fun k=>lM.l0 k ks a x b (wrap64 (i+1)) n E n C) r/\uo E a r:=fun b hb=>by rw[w];exact ih (i+1) b (by omega) (by omega) hb
  by_cases q:i∈ks
  ·rw[decide_eq_true q]at hh
   obtain⟨r,h1,h2⟩:=GQ n a x E C ks i best hk hb nxt ks [] n C rfl hC
   exact⟨r,Ev.step (fun k=>by simp only [lM.l0,if_pos c]<;>exact rfl) (Ev.bind hh (by simp only [if_true];exact h1)),h2⟩
  rw[decide_eq_false q]at hh
  obtain⟨r,h1,h2⟩:=nxt best hb
  exact⟨r,Ev.step (fun k=>by simp only [lM.l0,if_pos c]<;>exact rfl) (Ev.bind hh (by simp only [Bool.false_eq_true,if_false];exact h1)),h2⟩
theorem GR (n a:Int) (E:List S59) (hE:ok n E) (ks:List Int) (hk:ks.length<=1000):∃r,Ev (fun k=>lM.f k n E ks a) r/\uo E a r:=by
 have hl:=nG hE
 unfold lM.f
 have hn:=uT n a E hE
 cases e:next n E a with
 |nil=>
  rw[e]at hn
  exact⟨([],false),Ev.bind hn (by simp only [List.length_nil,Int.natCast_zero,if_true];exact Ev.val rfl),by simp[uo]⟩
 |cons x s=>
  rw[e]at hn
  have ht:kH a x∈E:=(p8 hE.2.2.1).1 (by rw[e];simp)
  have c0:¬ ((x::s).length:Int)=0:=by simp only [List.length_cons];omega
  have c1:0<((x::s).length:Int):=by simp only [List.length_cons];omega
  have r0:rd (x::s) 0=x:=rfl
  have hh:=sK ks x (by unfold big;omega)
  by_cases q:x∈ks
  ·rw[decide_eq_true q]at hh
   refine⟨([a,x],true),Ev.bind hn ?_,by simp,fun _=>⟨x,[],rfl,ht⟩⟩
   simp only [if_neg c0,if_pos c1,r0]
   exact Ev.bind hh (by simp only [if_true];exact Ev.val rfl)
  rw[decide_eq_false q]at hh
  obtain⟨r,h1,h2⟩:=GN n a x E (cut E (kH a x)) hE ks hk (sM _ hE) ht n.toNat 0 [] (Int.le_refl _) (by have:=hE.1;omega) ⟨by simp,by simp⟩
  refine⟨r,Ev.bind hn ?_,h2⟩
  simp only [if_neg c0,if_pos c1,r0]
  refine Ev.bind hh ?_
  simp only [Bool.false_eq_true,if_false]
  have hc:=tT n a x E (by omega)
  rw[if_pos ⟨hE,ht⟩]at hc
  exact Ev.bind hc h1
theorem Hw (n:Int) (T:List S59) (hT:(T.length:Int)<=1000):∀ (suf p:List S59) (X:List S59),p++suf=T->ok n X->∃F,Ev (fun k=>mK.l0 k T (p.length:Int) n X) (n,F)/\F.Sublist X:=by
 intro suf
 induction suf with
 |nil=>
  intro p X e hX
  rw[List.append_nil]at e
  subst e
  have c:¬ (p.length:Int)<(p.length:Int):=by omega
  exact⟨X,Ev.step (fun k=>by simp only [mK.l0,if_neg c]<;>exact rfl) (Ev.val rfl),List.Sublist.refl _⟩
 |cons t suf ih=>
  intro p X e hX
  have hl:=nG hX
  have c:(p.length:Int)<(T.length:Int):=by rw[←e];exact l9 p t suf
  have w:wrap64 ((p.length:Int)+1)=((p++[t]).length:Int):=mG (by unfold big;omega)
  obtain⟨a,ha⟩:∃a,a=(jQ T (p.length:Int)).f0:=⟨_,rfl⟩
  obtain⟨b,hb⟩:∃b,b=(jQ T (p.length:Int)).f1:=⟨_,rfl⟩
  have hc:=tT n a b X (by omega)
  by_cases q:ok n X/\kH a b∈X
  ·rw[if_pos q]at hc
   obtain⟨F,h1,h2⟩:=ih (p++[t]) (cut X (kH a b)) (by rw[←e];simp) (sM _ hX)
   refine⟨F,Ev.step (fun k=>by simp only [mK.l0,if_pos c,nn,if_true,w,←ha,←hb]<;>exact rfl) (Ev.bind hc (by simp only [if_true];exact h1)),h2.trans List.filter_sublist⟩
  rw[if_neg q]at hc
  obtain⟨F,h1,h2⟩:=ih (p++[t]) X (by rw[←e];simp) hX
  exact⟨F,Ev.step (fun k=>by simp only [mK.l0,if_pos c,nn,if_true,w,←ha,←hb]<;>exact rfl) (Ev.bind hc (by simp only [Bool.false_eq_true,if_false];exact h1)),h2⟩
theorem zH {n:Int}{t:Tie}(h:inr n t):kH t.f0 t.f1=t:=by
 have:=h.2.1
 unfold kH
 split
 ·rfl
 exact absurd this (by omega)
theorem Hy (n:Int) (E:List S59) (hE:ok n E) (t:Tie) (ht:t∈E) (T:List S59) (hT:(T.length:Int)<=900):∃F,Ev (fun k=>mK.f k n E (t::T)) (n,F)/\ok n F/\F.length<E.length:=by
 have hl:=nG hE
 have ts:=zH (hE.2.2.1 t ht)
 have hc:=tT n t.f0 t.f1 E (by omega)
 rw[ts,if_pos ⟨hE,ht⟩]at hc
 obtain⟨F,h1,h2⟩:=Hw n (t::T) (by simp;omega) T [t] (cut E t) rfl (sM _ hE)
 have cl:=F3 (E_ hE.2.2.2) t
 rw[if_pos ht]at cl
 have hle:=h2.length_le
 refine⟨F,?_,Dw (sM t hE) h2,by omega⟩
 unfold mK.f
 rw[xh n E (by omega)]
 simp only [Option.bind_some]
 have c:(0:Int)<((t::T).length:Int):=by simp only [List.length_cons];omega
 have r0:jQ (t::T) 0=t:=rfl
 have w:wrap64 ((0:Int)+1)=(([t]:List S59).length:Int):=by rw[w64 (by omega) (by omega)];rfl
 exact Ev.step (fun k=>by simp only [mK.l0,if_pos c,Int.le_refl,if_true,r0,w]<;>exact rfl) (Ev.bind hc (by simp only [if_true];exact h1))
def few (r:List (List Int)×Bool):Prop:=r.1.length<=64/\∀x∈r.1,2<=x.length/\x.length<=10
theorem F_ (n:Int) (E X:List S59) (out:List (List Int)) (ear:List Int) (he:ear.length<=10) (m:Nat) (hm:m<=900)
  (next:∀ks:List Int,ks.length<=m->∃r,Ev (fun k=>(mK.f k n X (ties ear)).bind fun bt=>if out.length<5864062014805 then kM.l0 k (out++[ear]) ks n E bt.1 bt.2 else none) r/\few r):
  ∀ (suf p:List Int) (ks:List Int),p++suf=ear->ks.length+suf.length<=m->∃r,Ev (fun k=>kM.l2 k out ks ear (ties p) (p.length:Int) n E n X) r/\few r:=by
 intro suf
 induction suf with
 |nil=>
  intro p ks e hk
  rw[List.append_nil]at e
  subst e
  have c:¬ (p.length:Int)<(p.length:Int):=by omega
  obtain⟨r,h1,h2⟩:=next ks (by simpa using hk)
  exact⟨r,Ev.step (fun k=>by simp only [kM.l2,if_neg c]<;>exact rfl) h1,h2⟩
 |cons v suf ih=>
  intro p ks e hk
  simp only [List.length_cons]at hk
  have c1:(p.length:Int)<(ear.length:Int):=by rw[←e];exact l9 p v suf
  have rv:rd ear (p.length:Int)=v:=by rw[←e];exact nZ p v suf
  have hpb:(p.length:Int)<big:=by unfold big;omega
  have hs:wrap64 ((p.length:Int)+1)=((p++[v]).length:Int):=mG hpb
  have hh:=sK ks v (by unfold big;omega)
  have hk8:ks.length<17592186044416:=by omega
  have e':(p++[v])++suf=ear:=by rw[←e];simp
  rcases List.eq_nil_or_concat p with rfl|⟨q,u,rfl⟩
  ·have c0:¬ (([]:List Int).length:Int)>0:=by simp
   have et:ties ([]:List Int)=ties ([]++[v]):=by simp[ties]
   by_cases m:v∈ks
   ·rw[decide_eq_true m]at hh
    obtain⟨r,h1,h2⟩:=ih ([]++[v]) ks e' (by omega)
    refine⟨r,Ev.step (fun k=>by simp only [kM.l2,if_pos c1,if_neg c0,nn,if_true,rv,hs]<;>exact rfl) (Ev.bind hh ?_),h2⟩
    simp only [if_true];rw[et];exact h1
   rw[decide_eq_false m]at hh
   obtain⟨r,h1,h2⟩:=ih ([]++[v]) (ks++[v]) e' (by simp;omega)
   refine⟨r,Ev.step (fun k=>by simp only [kM.l2,if_pos c1,if_neg c0,nn,if_true,rv,hs]<;>exact rfl) (Ev.bind hh ?_),h2⟩
   simp only [Bool.false_eq_true,if_false,if_pos hk8];rw[et];exact h1
  rw[List.concat_eq_append]at*
  have c0:((q++[u]).length:Int)>0:=by simp
  have c2:0<=wrap64 (((q++[u]).length:Int) - 1):=by rw[tK q u hpb];exact nn _
  have c3:wrap64 (((q++[u]).length:Int) - 1)<(ear.length:Int):=by rw[tK q u hpb];simp at c1;omega
  have ru:rd ear (wrap64 (((q++[u]).length:Int) - 1))=u:=by rw[tK q u hpb,←e,xC];exact nZ q u (v::suf)
  have h5:(ties (q++[u])).length<8796093022208:=by rw[wD];omega
  have et:ties (q++[u])++[(⟨(kH u v).f0,(kH u v).f1⟩:S59)]=ties ((q++[u])++[v]):=by rw[←Eg]
  by_cases m:v∈ks
  ·rw[decide_eq_true m]at hh
   obtain⟨r,h1,h2⟩:=ih ((q++[u])++[v]) ks e' (by omega)
   refine⟨r,Ev.step (fun k=>by simp only [kM.l2,if_pos c1,if_pos c0,if_pos c2,if_pos c3,nn,if_true,ru,rv,hs,uP,Option.bind_some,if_pos h5,et]<;>exact rfl) (Ev.bind hh ?_),h2⟩
   simp only [if_true];exact h1
  rw[decide_eq_false m]at hh
  obtain⟨r,h1,h2⟩:=ih ((q++[u])++[v]) (ks++[v]) e' (by simp;omega)
  refine⟨r,Ev.step (fun k=>by simp only [kM.l2,if_pos c1,if_pos c0,if_pos c2,if_pos c3,nn,if_true,ru,rv,hs,uP,Option.bind_some,if_pos h5,et]<;>exact rfl) (Ev.bind hh ?_),h2⟩
  simp only [Bool.false_eq_true,if_false,if_pos hk8];exact h1
theorem F9 (n:Int) (E X:List S59) (hX:ok n X) (out:List (List Int)) (ks:List Int) (hk:ks.length<=900) (next:∀at_:Int,∃r,Ev (fun k=>kM.j3 k out ks at_ n E n X) r/\few r):∀ (d:Nat) (i:Int),0<=i->i+d=n->
  ∃r,Ev (fun k=>kM.l1 k out ks i n E n X) r/\few r:=by
 have h8:=hX.2.1
 intro d
 induction d with
 |zero=>
  intro i h0 h
  have c:¬i<n:=by omega
  obtain⟨r,h1,h2⟩:=next i
  exact⟨r,Ev.step (fun k=>by simp only [kM.l1,if_neg c]<;>exact rfl) h1,h2⟩
 |succ d ih=>
  intro i h0 h
  have c:i<n:=by omega
  have w:wrap64 (i+1)=i+1:=w64 (by omega) (by omega)
  have hh:=sK ks i (by unfold big;omega)
  obtain⟨r,h1,h2⟩:=ih (i+1) (by omega) (by omega)
  by_cases q:i∈ks
  ·rw[decide_eq_true q]at hh
   have ha:=yt n i X hX
   obtain⟨b,hb⟩:∃b,b=(((G.next n X i).length:Int)==0):=⟨_,rfl⟩
   rw[←hb]at ha
   cases b with
   |true=>exact⟨r,Ev.step (fun k=>by simp only [kM.l1,if_pos c]<;>exact rfl) (Ev.bind hh (by simp only [if_true];exact Ev.bind ha (by simp only [if_true,w];exact h1))),h2⟩
   |false=>
    obtain⟨r',g1,g2⟩:=next i
    exact⟨r',Ev.step (fun k=>by simp only [kM.l1,if_pos c]<;>exact rfl) (Ev.bind hh (by simp only [if_true];exact Ev.bind ha (by simp only [Bool.false_eq_true,if_false];exact g1))),g2⟩
  rw[decide_eq_false q]at hh
  exact⟨r,Ev.step (fun k=>by simp only [kM.l1,if_pos c]<;>exact rfl) (Ev.bind hh (by simp only [Bool.false_eq_true,if_false,w];exact h1)),h2⟩
theorem F8 (n:Int) (E:List S59):∀ (m:Nat) (X:List S59) (ks:List Int) (out:List (List Int)),X.length<=m->ok n X->ks.length+10*m<=800->out.length+m<=64->(∀x∈out,2<=x.length/\x.length<=10)->
  ∃r,Ev (fun k=>kM.l0 k out ks n E n X) r/\few r:=by
 intro m
 induction m with
 |zero=>
  intro X ks out hm hX hk ho hr
  have c:¬ (X.length:Int)>0:=by omega
  exact⟨(out,true),Ev.step (fun k=>by simp only [kM.l0,if_neg c]<;>exact rfl) (Ev.val rfl),by simpa using ho,hr⟩
 |succ m ih=>
  intro X ks out hm hX hk ho hr
  by_cases c:(X.length:Int)>0;rotate_left
  ·exact⟨(out,true),Ev.step (fun k=>by simp only [kM.l0,if_neg c]<;>exact rfl) (Ev.val rfl),by simp only;omega,hr⟩
  have nxt:∀at_:Int,∃r,Ev (fun k=>kM.j3 k out ks at_ n E n X) r/\few r:=by
   intro at_
   obtain⟨⟨ear,t⟩,f1,f2,f3⟩:=GR n at_ X hX ks (by omega)
   cases t with
   |false=>exact⟨([],false),Ev.step (fun k=>by simp only [kM.j3]<;>exact rfl) (Ev.bind f1 (by simp only [Bool.false_eq_true,if_false];exact Ev.val rfl)),by simp[few]⟩
   |true=>
    obtain⟨x,s,e,ht⟩:=f3 rfl
    simp only at e f2
    obtain⟨F,g1,g2,g3⟩:=Hy n X hX (kH at_ x) ht (ties (x::s)) (by rw[wD];rw[e]at f2;simp only [List.length_cons]at*;omega)
    have te:ties ear=kH at_ x::ties (x::s):=by rw[e];rfl
    rw[←te]at g1
    have o5:out.length<5864062014805:=by omega
    obtain⟨r,h1,h2⟩:=F_ n E X out ear f2 (ks.length+10) (by omega) (fun ks' hk'=>by
     obtain⟨r,h1,h2⟩:=ih F ks' (out++[ear]) (by omega) g2 (by omega) (by simp;omega) (fun y hy=>by
      rcases List.mem_append.1 hy with hy|hy
      ·exact hr y hy
      rw[List.mem_singleton]at hy;rw[hy];exact⟨by rw[e];simp,f2⟩)
     exact⟨r,Ev.bind g1 (by simp only [if_pos o5];exact h1),h2⟩) ear [] ks rfl (by omega)
    exact⟨r,Ev.step (fun k=>by simp only [kM.j3]<;>exact rfl) (Ev.bind f1 (by simp only [if_true];exact h1)),h2⟩
  obtain⟨r,h1,h2⟩:=F9 n E X hX out ks (by omega) nxt n.toNat 0 (Int.le_refl _) (by have:=hX.1;omega)
  exact⟨r,Ev.step (fun k=>by simp only [kM.l0,if_pos c]<;>exact rfl) h1,h2⟩
theorem Ga (n:Int) (E:List S59) (hb:(E.length:Int)<big):∃r,Ev (fun k=>kM.f k n E) r/\few r:=by
 have no:Ev (fun k=>kM.j0 k [] true n E) ([],false):=Ev.step (fun k=>by simp only [kM.j0,if_true]<;>exact rfl) (Ev.val rfl)
 have fw:few ([],false):=by simp[few]
 unfold kM.f
 simp only [Option.bind_some]
 have hk:=sO n E hb
 by_cases c:ok n E
 ·rw[decide_eq_true c]at hk
  have hl:=nG c
  by_cases d:n<3
  ·exact⟨_,Ev.bind hk (by simp only [if_true,if_pos d];exact no),fw⟩
  obtain⟨w,hw⟩:=zM n E c
  by_cases e:w=1
  ·obtain⟨L,hL⟩:=FE n E c
   obtain⟨b,hb'⟩:∃b,b=decide ((L.length:Int)>0):=⟨_,rfl⟩
   cases b with
   |true=>exact⟨_,Ev.bind hk (by simp only [if_true,if_neg d];exact Ev.bind hw (by simp only [if_pos e];exact Ev.bind hL (by rw[←hb'];exact no))),fw⟩
   |false=>
    obtain⟨r,h1,h2⟩:=F8 n E E.length E [0] [] (Nat.le_refl _) c (by simp;omega) (by simp;omega) (by simp)
    refine⟨r,Ev.bind hk (by simp only [if_true,if_neg d];exact Ev.bind hw (by simp only [if_pos e];exact Ev.bind hL (by rw[←hb'];exact Ev.step (fun k=>by simp only [kM.j0,Bool.false_eq_true,if_false,xh n E (by omega),Option.bind_some]<;>exact rfl) h1))),h2⟩
  exact⟨_,Ev.bind hk (by simp only [if_true,if_neg d];exact Ev.bind hw (by simp only [if_neg e];exact no)),fw⟩
 rw[decide_eq_false c]at hk
 exact⟨_,Ev.bind hk (by simp only [Bool.false_eq_true,if_false];exact no),fw⟩
theorem GI {n a b:Int}{E:List Tie}(h8:n<=8) (hE:∀t∈E,inr n t) (ha:0<=a/\a<n) (h:(found n E a b).2=true):qf E a b (found n E a b).1/\∀q,qf E a b q->¬wlt q (found n E a b).1:=by
 refine⟨GK h8 hE ha h,fun q hq=>?_⟩
 unfold found at*
 cases e:rP n E a b with
 |nil=>rw[e]at h;simp at h
 |cons p r=>
  have:=Jm (l:=su n E b 9 [] a) (show uz _=p::r from e)
  exact this.2 q ((xB h8 hE ha).2 hq)
theorem GL {n a b:Int}{E:List Tie}(h8:n<=8) (hE:∀t∈E,inr n t) (ha:0<=a/\a<n) (h:(found n E a b).2=false):∀q,¬qf E a b q:=by
 intro q hq
 have:=(zo h8 hE ha).2 hq
 unfold found at h
 cases e:rP n E a b with
 |nil=>rw[e]at this;simp at this
 |cons p r=>rw[e]at h;simp at h
def wok (F:List Tie) (v:Int):List Tie:=F.filter fun t=>decide (t.f0≠v/\t.f1≠v)
theorem JP (n m a:Int) (E:List S59) (hl:(E.length:Int)<=64):∀ (suf p q:List S59),p++suf=E->q.length<=p.length->Ev (fun k=>mR.l0 k a (p.length:Int) n E m q) (m,q++wok suf a):=by
 intro suf
 induction suf with
 |nil=>
  intro p q e hq
  rw[List.append_nil]at e
  subst e
  have c:¬ (p.length:Int)<(p.length:Int):=by omega
  exact Ev.step (fun k=>by simp only [mR.l0,if_neg c]<;>exact rfl) (Ev.val (by simp[wok]))
 |cons t suf ih=>
  intro p q e hq
  have c:(p.length:Int)<(E.length:Int):=by rw[←e];exact l9 p t suf
  have w:wrap64 ((p.length:Int)+1)=((p++[t]).length:Int):=mG (by unfold big;omega)
  have rt:jQ E (p.length:Int)=t:=by rw[←e];exact r9 p t suf
  have q8:q.length<8796093022208:=by omega
  have e':(p++[t])++suf=E:=by rw[←e];simp
  by_cases c1:t.f0=a
  ·refine Ev.step (fun k=>by simp only [mR.l0,if_pos c,nn,if_true,rt,w,if_pos c1]<;>exact rfl) (Ev.eq (ih (p++[t]) q e' (by simp;omega)) ?_)
   simp[wok,c1]
  by_cases c2:t.f1=a
  ·refine Ev.step (fun k=>by simp only [mR.l0,if_pos c,nn,if_true,rt,w,if_neg c1,if_pos c2]<;>exact rfl) (Ev.eq (ih (p++[t]) q e' (by simp;omega)) ?_)
   simp[wok,c2]
  refine Ev.step (fun k=>by simp only [mR.l0,if_pos c,nn,if_true,rt,w,if_neg c1,if_neg c2,if_pos q8]<;>exact rfl) (Ev.eq (ih (p++[t]) (q++[t]) e' (by simp;omega)) ?_)
  simp[wok,c1,c2]
theorem JO (n a:Int) (E:List S59) (hE:ok n E) (ha:0<=a/\a<n):Ev (fun k=>mR.f k n E a) (n,wok E a):=by
 have hl:=nG hE
 unfold mR.f
 refine Ev.bind (rG n a E (by unfold big;omega)) ?_
 simp only [decide_eq_true (show ok n E/\0<=a/\a<n from⟨hE,ha⟩),if_true]
 exact JP n n a E hl E [] [] rfl (Nat.le_refl _)
theorem FM (C:List Tie) (p:List Int) (i:Int):but C (p++[i]) i=but C p i:=by
 unfold but
 refine List.filter_congr fun t _=>?_
 refine decide_eq_decide.2 ?_
 simp only [List.mem_append,List.mem_singleton]
 exact⟨fun h=>⟨fun k=>h.1 (Or.inl k),fun k=>h.2 (Or.inl k)⟩,fun h=>⟨fun k=>k.elim h.1 id,fun k=>k.elim h.2 id⟩⟩
theorem FL (C:List Tie) (p:List Int) {i v:Int}(h:v≠i):but C (p++[v]) i=wok (but C p i) v:=by
 unfold but wok
 rw[List.filter_filter]
 refine List.filter_congr fun t _=>?_
 rw[←Bool.decide_and]
 refine decide_eq_decide.2 ?_
 simp only [List.mem_append,List.mem_singleton]
 constructor
 ·intro k
  exact⟨⟨fun e=>h (e▸k.1 (Or.inr e)),fun e=>h (e▸k.2 (Or.inr e))⟩,fun g=>k.1 (Or.inl g),fun g=>k.2 (Or.inl g)⟩
 rintro⟨⟨k1,k2⟩,k3,k4⟩
 exact⟨fun g=>g.elim k3 (fun e=>absurd e k1),fun g=>g.elim k4 (fun e=>absurd e k2)⟩
theorem Bc (C:List Tie) (i:Int):but C [] i=C:=by
 unfold but
 exact List.filter_eq_self.2 (fun t _=>by simp)
theorem zt {n:Int}{C:List Tie}(h:ok n C) (p:List Int) (i:Int):ok n (but C p i):=uU _ h
theorem C8 (n a x:Int) (E C:List S59) (hC:ok n C) (ks:List Int) (hk:(ks.length:Int)<=1000) (hr:∀v∈ks,0<=v/\v<n) (i:Int) (hi:0<=i/\i<n) (hx:0<=x/\x<n) (best:List Int):∀ (suf p:List Int),p++suf=ks->∀r,
  Ev (fun k=>if(found n (but C ks i) x i).2=true then(if(best.length:Int)=0 then lM.l0 k ks a x (found n (but C ks i) x i).1 (wrap64 (i+1)) n E n C else(if((found n (but C ks i) x i).1.length:Int)<(best.length:Int) then lM.l0 k ks a x (found n (but C ks i) x i).1 (wrap64 (i+1)) n E n C else lM.l0 k ks a x best (wrap64 (i+1)) n E n C)) else lM.l0 k ks a x best (wrap64 (i+1)) n E n C) r->
  Ev (fun k=>lM.l1 k ks a x best i (p.length:Int) n E n C n (but C p i)) r:=by
 intro suf
 induction suf with
 |nil=>
  intro p e r h
  rw[List.append_nil]at e
  subst e
  have c:¬ (p.length:Int)<(p.length:Int):=by omega
  have hb:=zt hC p i
  have hl:=nG hb
  have hf:=Jq n x i (but C p i) (by unfold big;omega)
  rw[if_pos ⟨hb,hx,hi⟩]at hf
  exact Ev.step (fun k=>by simp only [lM.l1,if_neg c]<;>exact rfl) (Ev.bind hf h)
 |cons v suf ih=>
  intro p e r h
  have c:(p.length:Int)<(ks.length:Int):=by rw[←e];exact l9 p v suf
  have w:wrap64 ((p.length:Int)+1)=((p++[v]).length:Int):=mG (by unfold big;omega)
  have rv:rd ks (p.length:Int)=v:=by rw[←e];exact nZ p v suf
  have hv:=hr v (by rw[←e];simp)
  have nx:=ih (p++[v]) (by rw[←e];simp) r h
  by_cases q:v=i
  ·rw[q,FM]at nx
   rw[q]at w rv
   exact Ev.step (fun k=>by simp only [lM.l1,if_pos c,nn,if_true,rv,w]<;>exact rfl) nx
  rw[FL C p q]at nx
  exact Ev.step (fun k=>by simp only [lM.l1,if_pos c,nn,if_true,rv,if_neg q,w]<;>exact rfl) (Ev.bind (JO n v _ (zt hC p i) hv) nx)
def yz (C:List Tie) (K:List Int) (x i:Int) (best:List Int):Prop:=
 best=[]/\(∀q,oN C K x q->i<=mI q)\/(oN C K x best/\mI best<i/\∀q,oN C K x q->mI q<i->¬blt q best)
theorem AY {C:List Tie}{K:List Int}{x:Int}{q:List Int}(h:oN C K x q):q≠[]:=fun e=>by have:=h.head;rw[e]at this;simp at this
theorem GV (n a x:Int) (E C:List S59) (hC:ok n C) (ks:List Int) (hk:(ks.length:Int)<=1000) (hr:∀v∈ks,0<=v/\v<n) (hx:0<=x/\x<n) (hxk:x∉ks) (hs:∃q,oN C ks x q):∀ (d:Nat) (i:Int) (best:List Int),0<=i->i+d=n->best.length<=100->yz C ks x i best->
  ∃p,sW C ks x p/\Ev (fun k=>lM.l0 k ks a x best i n E n C) (a::p,true):=by
 have h8:=hC.2.1
 have hkb:(ks.length:Int)<big:=by unfold big;omega
 have short:∀q,oN C ks x q->q.length<=100:=fun q hq=>by
  have:=tL hq.nodup (fun y hy=>qj.2 (yE hC.2.2.1 hx hq y hy))
  rw[pX]at this
  omega
 intro d
 induction d with
 |zero=>
  intro i best h0 hi hb hB
  have c:¬i<n:=by omega
  obtain⟨q0,hq0⟩:=hs
  have r0:=hr _ hq0.last
  rcases hB with⟨_,k⟩|⟨b1,_,b3⟩
  ·have:=k q0 hq0;omega
  have z:¬ (best.length:Int)=0:=fun e=>AY b1 (List.eq_nil_of_length_eq_zero (by omega))
  have g:([a]:List Int).length+best.length<17592186044416:=by simp;omega
  refine⟨best,⟨b1,fun q hq=>b3 q hq (by have:=hr _ hq.last;omega)⟩,Ev.step (fun k=>by simp only [lM.l0,if_neg c,if_neg z,Option.bind_some,if_pos g]<;>exact rfl) (Ev.val rfl)⟩
 |succ d ih=>
  intro i best h0 hi hb hB
  have c:i<n:=by omega
  have w:wrap64 (i+1)=i+1:=w64 (by omega) (by omega)
  have hh:=sK ks i hkb
  by_cases q:i∈ks;rotate_left
  ·rw[decide_eq_false q]at hh
   have no:∀y,oN C ks x y->mI y≠i:=fun y hy e=>q (e▸hy.last)
   obtain⟨s,s1,s2⟩:=ih (i+1) best (by omega) (by omega) hb (hB.imp (fun k=>⟨k.1,fun y hy=>by have:=k.2 y hy;have:=no y hy;omega⟩) (fun k=>⟨k.1,by omega,fun y hy hl=>k.2.2 y hy (by have:=no y hy;omega)⟩))
   exact⟨s,s1,Ev.step (fun k=>by simp only [lM.l0,if_pos c]<;>exact rfl) (Ev.bind hh (by simp only [Bool.false_eq_true,if_false,w];exact s2))⟩
  rw[decide_eq_true q]at hh
  have hbE:=zt hC ks i
  by_cases t:(found n (but C ks i) x i).2=true;rotate_left
  ·have t':(found n (but C ks i) x i).2=false:=by simpa using t
   have none_:=GL h8 hbE.2.2.1 hx t'
   have no:∀y,oN C ks x y->mI y≠i:=fun y hy e=>none_ y (e▸A_ hy hxk)
   obtain⟨s,s1,s2⟩:=ih (i+1) best (by omega) (by omega) hb (hB.imp (fun k=>⟨k.1,fun y hy=>by have:=k.2 y hy;have:=no y hy;omega⟩) (fun k=>⟨k.1,by omega,fun y hy hl=>k.2.2 y hy (by have:=no y hy;omega)⟩))
   have g:=C8 n a x E C hC ks hk hr i ⟨h0,c⟩ hx best ks [] rfl (a::s,true) (by simp only [if_neg t,w];exact s2)
   rw[Bc]at g
   exact⟨s,s1,Ev.step (fun k=>by simp only [lM.l0,if_pos c]<;>exact rfl) (Ev.bind hh (by simp only [if_true];exact g))⟩
  obtain⟨p1,p2⟩:=GI h8 hbE.2.2.1 hx t
  obtain⟨p3,p4⟩:=JH p1 q
  generalize hp:(found n (but C ks i) x i).1=p at*
  have same:∀y,oN C ks x y->mI y=i->¬blt y p:=fun y hy he k=>by
   have yw:=A_ hy hxk
   rw[he]at yw
   refine p2 y yw ?_
   rcases k with k|⟨k1,k|⟨_,k⟩⟩
   ·exact .inl k
   ·omega
   exact .inr ⟨k1,k⟩
  have take:(∀y,oN C ks x y->mI y<i->¬blt y p)->yz C ks x (i+1) p:=fun g=> .inr ⟨p3,by omega,fun y hy hl=>by
   by_cases e:mI y=i
   ·exact same y hy e
   exact g y hy (by omega)⟩
  have keepB:∀g:yz C ks x (i+1) p,∃s,sW C ks x s/\Ev (fun k=>lM.l0 k ks a x p (wrap64 (i+1)) n E n C) (a::s,true):=fun g=>by rw[w];exact ih (i+1) p (by omega) (by omega) (short p p3) g
  have fin:∀r,Ev (fun k=>if(found n (but C ks i) x i).2=true then(if(best.length:Int)=0 then lM.l0 k ks a x p (wrap64 (i+1)) n E n C else(if(p.length:Int)<(best.length:Int) then lM.l0 k ks a x p (wrap64 (i+1)) n E n C else lM.l0 k ks a x best (wrap64 (i+1)) n E n C)) else lM.l0 k ks a x best (wrap64 (i+1)) n E n C) r->
    Ev (fun k=>lM.l0 k ks a x best i n E n C) r:=fun r h=>by
   have g:=C8 n a x E C hC ks hk hr i ⟨h0,c⟩ hx best ks [] rfl r (by rw[hp];exact h)
   rw[Bc]at g
   exact Ev.step (fun k=>by simp only [lM.l0,if_pos c]<;>exact rfl) (Ev.bind hh (by simp only [if_true];exact g))
  rcases hB with⟨e0,k⟩|⟨b1,b2,b3⟩
  ·obtain⟨s,s1,s2⟩:=keepB (take (fun y hy hl=>by have:=k y hy;omega))
   refine⟨s,s1,fin _ ?_⟩
   simp only [if_pos t,e0,List.length_nil,Int.natCast_zero,if_true]
   exact s2
  have z:¬ (best.length:Int)=0:=fun e=>AY b1 (List.eq_nil_of_length_eq_zero (by omega))
  by_cases y:(p.length:Int)<(best.length:Int)
  ·obtain⟨s,s1,s2⟩:=keepB (take (fun u hu hl g=>by
    have nb:=b3 u hu hl
    rcases g with g|⟨g,_⟩
    ·exact nb (.inl (by omega))
    exact nb (.inl (by omega))))
   refine⟨s,s1,fin _ ?_⟩
   simp only [if_pos t,if_neg z,if_pos y]
   exact s2
  obtain⟨s,s1,s2⟩:=ih (i+1) best (by omega) (by omega) hb (.inr ⟨b1,by omega,fun u hu hl g=>by
   by_cases e:mI u=i
   ·have np:=same u hu e
    rcases g with g|⟨g,g2|⟨g2,_⟩⟩
    ·exact np (.inl (by omega))
    ·omega
    omega
   exact b3 u hu (by omega) g⟩)
  refine⟨s,s1,fin _ ?_⟩
  simp only [if_pos t,if_neg z,if_neg y,w]
  exact s2
theorem GU (n a b:Int) (E:List S59) (hE:ok n E) (ks:List Int) (hk:(ks.length:Int)<=1000) (hr:∀v∈ks,0<=v/\v<n) (hp:tJ n E ks a b) (hs:∃q,oN (cut E (kH a b)) ks b q):
  ∃p,sW (cut E (kH a b)) ks b p/\Ev (fun k=>lM.f k n E ks a) (a::p,true):=by
 have hl:=nG hE
 have hn:=uT n a E hE
 have hb:b∈next n E a:=(p8 hE.2.2.1).2 hp.tie
 have hbr:=(nX (hE.2.2.1 _ hp.tie)).2.1
 unfold lM.f
 cases e:next n E a with
 |nil=>rw[e]at hb;simp at hb
 |cons x s=>
  have hx:x=b:=by
   have hxm:x∈next n E a:=by rw[e];simp
   have h1:=(hp.least a x hp.here ((p8 hE.2.2.1).1 hxm)).2 rfl
   have h2:=Dt n a E
   rw[e,List.pairwise_cons]at h2
   rw[e]at hb
   rcases List.mem_cons.1 hb with k|k
   ·exact k.symm
   have:=h2.1 b k;omega
  subst hx
  rw[e]at hn
  have c0:¬ ((x::s).length:Int)=0:=by simp only [List.length_cons];omega
  have c1:0<((x::s).length:Int):=by simp only [List.length_cons];omega
  have r0:rd (x::s) 0=x:=rfl
  have hh:=sK ks x (by unfold big;omega)
  by_cases q:x∈ks
  ·rw[decide_eq_true q]at hh
   refine⟨[x],⟨⟨rfl,by simp[ties],by simp,by simp,q⟩,fun y hy k=>?_⟩,Ev.bind hn ?_⟩
   ·have:y=[x]:=by
     have h1:=hy.head
     cases y with
     |nil=>simp at h1
     |cons u y=>
      simp at h1
      subst h1
      cases y with
      |nil=>rfl
      |cons z y=>exact absurd q (hy.inner u (by rw[vN];simp))
    subst this
    exact AU _ k
   simp only [if_neg c0,if_pos c1,r0]
   exact Ev.bind hh (by simp only [if_true];exact Ev.val rfl)
  rw[decide_eq_false q]at hh
  obtain⟨p,p1,p2⟩:=GV n a x E (cut E (kH a x)) (sM _ hE) ks hk hr hbr q hs n.toNat 0 [] (Int.le_refl _) (by have:=hE.1;omega) (by simp) (.inl ⟨rfl,fun y hy=>(hr _ hy.last).1⟩)
  refine⟨p,p1,Ev.bind hn ?_⟩
  simp only [if_neg c0,if_pos c1,r0]
  refine Ev.bind hh ?_
  simp only [Bool.false_eq_true,if_false]
  have hc:=tT n a x E (by omega)
  rw[if_pos ⟨hE,hp.tie⟩]at hc
  exact Ev.bind hc p2
def rW (X T:List Tie):List Tie:=X.filter fun t=> !decide (t∈T)
theorem Hu (X p:List Tie) (t:Tie):rW X (p++[t])=cut (rW X p) t:=by
 unfold rW cut
 rw[List.filter_filter]
 refine List.filter_congr fun s _=>?_
 simp
 by_cases h1:s∈p<;>by_cases h2:s=t<;>simp[h1,h2]
theorem FZ {X:List Tie}{t:Tie}(h:t∉X):cut X t=X:=by
 unfold cut
 refine List.filter_eq_self.2 fun s hs=>?_
 have:s≠t:=fun e=>h (e▸hs)
 simpa using this
theorem H7 (n:Int) (X T:List S59) (hX:ok n X) (hT:(T.length:Int)<=1000) (hr:∀t∈T,inr n t):∀ (suf p:List S59),p++suf=T->Ev (fun k=>mK.l0 k T (p.length:Int) n (rW X p)) (n,rW X T):=by
 intro suf
 induction suf with
 |nil=>
  intro p e
  rw[List.append_nil]at e
  subst e
  have c:¬ (p.length:Int)<(p.length:Int):=by omega
  exact Ev.step (fun k=>by simp only [mK.l0,if_neg c]<;>exact rfl) (Ev.val rfl)
 |cons t suf ih=>
  intro p e
  have c:(p.length:Int)<(T.length:Int):=by rw[←e];exact l9 p t suf
  have w:wrap64 ((p.length:Int)+1)=((p++[t]).length:Int):=mG (by unfold big;omega)
  have rt:jQ T (p.length:Int)=t:=by rw[←e];exact r9 p t suf
  have ts:=zH (hr t (by rw[←e];simp))
  have hP:ok n (rW X p):=uU _ hX
  have hl:=nG hP
  have hc:=tT n t.f0 t.f1 (rW X p) (by omega)
  rw[ts]at hc
  have nx:=ih (p++[t]) (by rw[←e];simp)
  rw[Hu]at nx
  by_cases q:t∈rW X p
  ·rw[if_pos ⟨hP,q⟩]at hc
   exact Ev.step (fun k=>by simp only [mK.l0,if_pos c,nn,if_true,rt,w]<;>exact rfl) (Ev.bind hc (by simp only [if_true];exact nx))
  rw[if_neg (fun k=>q k.2)]at hc
  rw[FZ q]at nx
  exact Ev.step (fun k=>by simp only [mK.l0,if_pos c,nn,if_true,rt,w]<;>exact rfl) (Ev.bind hc (by simp only [Bool.false_eq_true,if_false];exact nx))
theorem H6 (n:Int) (X T:List S59) (hX:ok n X) (hT:(T.length:Int)<=1000) (hr:∀t∈T,inr n t):Ev (fun k=>mK.f k n X T) (n,rW X T):=by
 have hl:=nG hX
 unfold mK.f
 rw[xh n X (by omega)]
 simp only [Option.bind_some]
 have:=H7 n X T hX hT hr T [] rfl
 rw[show rW X []=X from List.filter_eq_self.2 (fun t _=>by simp)]at this
 exact this
theorem Gl (n:Int) (E X:List S59) (out:List (List Int)) (ear ks:List Int) (he:ear.length<=20) (hk:ks.length<=900) (r:List (List Int)×Bool)
  (next:Ev (fun k=>(mK.f k n X (ties ear)).bind fun bt=>if out.length<5864062014805 then kM.l0 k (out++[ear]) (nA ks ear) n E bt.1 bt.2 else none) r):
  ∀ (suf p:List Int),p++suf=ear->Ev (fun k=>kM.l2 k out (nA ks p) ear (ties p) (p.length:Int) n E n X) r:=by
 intro suf
 induction suf with
 |nil=>
  intro p e
  rw[List.append_nil]at e
  subst e
  have c:¬ (p.length:Int)<(p.length:Int):=by omega
  exact Ev.step (fun k=>by simp only [kM.l2,if_neg c]<;>exact rfl) next
 |cons v suf ih=>
  intro p e
  have c1:(p.length:Int)<(ear.length:Int):=by rw[←e];exact l9 p v suf
  have rv:rd ear (p.length:Int)=v:=by rw[←e];exact nZ p v suf
  have hpb:(p.length:Int)<big:=by unfold big;omega
  have hs:wrap64 ((p.length:Int)+1)=((p++[v]).length:Int):=mG hpb
  have hal:=Au p ks
  have hpl:p.length<=20:=by rw[←e]at he;simp at he;omega
  have hh:=sK (nA ks p) v (by unfold big;omega)
  have hk8:(nA ks p).length<17592186044416:=by omega
  have e':(p++[v])++suf=ear:=by rw[←e];simp
  have nx:=ih (p++[v]) e'
  rw[EY]at nx
  rcases List.eq_nil_or_concat p with rfl|⟨q,u,rfl⟩
  ·have c0:¬ (([]:List Int).length:Int)>0:=by simp
   have et:ties ([]:List Int)=ties ([]++[v]):=by simp[ties]
   by_cases m:v∈nA ks []
   ·rw[decide_eq_true m]at hh
    rw[if_pos m]at nx
    refine Ev.step (fun k=>by simp only [kM.l2,if_pos c1,if_neg c0,nn,if_true,rv,hs]<;>exact rfl) (Ev.bind hh ?_)
    simp only [if_true];rw[et];exact nx
   rw[decide_eq_false m]at hh
   rw[if_neg m]at nx
   refine Ev.step (fun k=>by simp only [kM.l2,if_pos c1,if_neg c0,nn,if_true,rv,hs]<;>exact rfl) (Ev.bind hh ?_)
   simp only [Bool.false_eq_true,if_false,if_pos hk8];rw[et];exact nx
  rw[List.concat_eq_append]at*
  have c0:((q++[u]).length:Int)>0:=by simp
  have c2:0<=wrap64 (((q++[u]).length:Int) - 1):=by rw[tK q u hpb];exact nn _
  have c3:wrap64 (((q++[u]).length:Int) - 1)<(ear.length:Int):=by rw[tK q u hpb];simp at c1;omega
  have ru:rd ear (wrap64 (((q++[u]).length:Int) - 1))=u:=by rw[tK q u hpb,←e,xC];exact nZ q u (v::suf)
  have h5:(ties (q++[u])).length<8796093022208:=by rw[wD];omega
  have et:ties (q++[u])++[(⟨(kH u v).f0,(kH u v).f1⟩:S59)]=ties ((q++[u])++[v]):=by rw[←Eg]
  by_cases m:v∈nA ks (q++[u])
  ·rw[decide_eq_true m]at hh
   rw[if_pos m]at nx
   refine Ev.step (fun k=>by simp only [kM.l2,if_pos c1,if_pos c0,if_pos c2,if_pos c3,nn,if_true,ru,rv,hs,uP,Option.bind_some,if_pos h5,et]<;>exact rfl) (Ev.bind hh ?_)
   simp only [if_true];exact nx
  rw[decide_eq_false m]at hh
  rw[if_neg m]at nx
  refine Ev.step (fun k=>by simp only [kM.l2,if_pos c1,if_pos c0,if_pos c2,if_pos c3,nn,if_true,ru,rv,hs,uP,Option.bind_some,if_pos h5,et]<;>exact rfl) (Ev.bind hh ?_)
  simp only [Bool.false_eq_true,if_false,if_pos hk8];exact nx
theorem Gj (n:Int) (E X:List S59) (hX:ok n X) (out:List (List Int)) (ks:List Int) (hk:ks.length<=900) (a b:Int) (hp:tJ n X ks a b) (r:List (List Int)×Bool) (nxt:Ev (fun k=>kM.j3 k out ks a n E n X) r):∀ (d:Nat) (i:Int),0<=i->i+d=a->
  Ev (fun k=>kM.l1 k out ks i n E n X) r:=by
 have h8:=hX.2.1
 have ha:=(nX (hX.2.2.1 _ hp.tie)).1
 intro d
 induction d with
 |zero=>
  intro i h0 h
  have e:i=a:=by omega
  subst e
  have c:i<n:=ha.2
  have hh:=sK ks i (by unfold big;omega)
  rw[decide_eq_true hp.here]at hh
  have hl:=yt n i X hX
  have hb:b∈next n X i:=(p8 hX.2.2.1).2 hp.tie
  have:(((next n X i).length:Int)==0)=false:=by
   rw[beq_eq_false_iff_ne]
   have:=List.length_pos_of_mem hb
   omega
  rw[this]at hl
  exact Ev.step (fun k=>by simp only [kM.l1,if_pos c]<;>exact rfl) (Ev.bind hh (by simp only [if_true];exact Ev.bind hl (by simp only [Bool.false_eq_true,if_false];exact nxt)))
 |succ d ih=>
  intro i h0 h
  have c:i<n:=by omega
  have w:wrap64 (i+1)=i+1:=w64 (by omega) (by omega)
  have hh:=sK ks i (by unfold big;omega)
  have nx:=ih (i+1) (by omega) (by omega)
  by_cases q:i∈ks
  ·rw[decide_eq_true q]at hh
   have hl:=yt n i X hX
   have:(((next n X i).length:Int)==0)=true:=by
    rw[beq_iff_eq]
    cases e:next n X i with
    |nil=>rfl
    |cons y s=>
     have:=(hp.least i y q ((p8 hX.2.2.1).1 (by rw[e];simp))).1
     omega
   rw[this]at hl
   exact Ev.step (fun k=>by simp only [kM.l1,if_pos c]<;>exact rfl) (Ev.bind hh (by simp only [if_true];exact Ev.bind hl (by simp only [if_true,w];exact nx)))
  rw[decide_eq_false q]at hh
  exact Ev.step (fun k=>by simp only [kM.l1,if_pos c]<;>exact rfl) (Ev.bind hh (by simp only [Bool.false_eq_true,if_false,w];exact nx))
theorem CO {n:Int}{X:List Tie}{K:List Int}{a b:Int}{p:List Int}(hX:∀t∈X,inr n t) (ht:kH a b∈X) (hp:oN (cut X (kH a b)) K b p):
  (∀v∈a::p,0<=v/\v<n)/\(∀t∈ties (a::p),t∈X)/\kH a b∈ties (a::p)/\((a::p).length:Int)<=n+1:=by
 have hab:=nX (hX _ ht)
 have hk:=yE (fun t q=>hX t (uR.1 q).1) hab.2.1 hp
 have hl:=tL hp.nodup (fun y hy=>qj.2 (hk y hy))
 rw[pX]at hl
 cases p with
 |nil=>have:=hp.head;simp at this
 |cons y p=>
  have:y=b:=by have:=hp.head;simpa using this
  subst this
  refine⟨fun v hv=>?_,fun t q=>?_,by simp[ties],by simp only [List.length_cons]at*;omega⟩
  ·rcases List.mem_cons.1 hv with rfl|hv
   ·exact hab.1
   exact hk v hv
  simp only [ties,List.mem_cons]at q
  rcases q with rfl|q
  ·exact ht
  exact(uR.1 (hp.ties t q)).1
theorem Gi (n:Int) (E:List S59) (hE:ok n E) (hc:∀u∈ma n,∀v∈ma n,lD E u v) (hn:∀t∈E,lD (cut E t) t.f0 t.f1):∀ (m:Nat) (X:List S59) (ks:List Int) (out:List (List Int)),X.length<=m->ok n X->tZ n E X ks->ks.Nodup->out.length+m<=64->
  ∃rows,sI n X ks rows/\Ev (fun k=>kM.l0 k out ks n E n X) (out++rows,true):=by
 have h8:=hE.2.1
 intro m
 induction m with
 |zero=>
  intro X ks out hm hX hL hk ho
  have e:X=[]:=List.eq_nil_of_length_eq_zero (by omega)
  have c:¬ (X.length:Int)>0:=by omega
  exact⟨[],e,Ev.step (fun k=>by simp only [kM.l0,if_neg c]<;>exact rfl) (Ev.val (by simp))⟩
 |succ m ih=>
  intro X ks out hm hX hL hk ho
  by_cases e:X=[]
  ·have c:¬ (X.length:Int)>0:=by rw[e];simp
   exact⟨[],e,Ev.step (fun k=>by simp only [kM.l0,if_neg c]<;>exact rfl) (Ev.val (by simp))⟩
  have c:(X.length:Int)>0:=by
   have:=List.length_pos_iff.2 e
   omega
  have kl:=tL hk (fun v hv=>qj.2 (hL.rng v hv))
  rw[pX]at kl
  obtain⟨a0,b0,p1,p2⟩:=Dz hE.2.2.1 hc hL e
  obtain⟨a,b,hp⟩:=Dh hX.2.2.1 p1 p2
  obtain⟨p,g1,g2⟩:=GU n a b X hX ks (by omega) hL.rng hp (AZ h8 hE.2.2.1 hn hL hp.here hp.tie)
  obtain⟨r1,r2,r3,r4⟩:=CO hX.2.2.1 hp.tie g1.1
  have hlt:(oP X (a::p)).length<X.length:=by
   unfold oP
   have h1:=List.length_filter_le (fun t=> !decide (t∈ties (a::p))) X
   refine Nat.lt_of_le_of_ne h1 (fun q=>?_)
   rw[List.length_filter_eq_length_iff]at q
   have:=q _ hp.tie
   simp[r3]at this
  obtain⟨rows,i1,i2⟩:=ih (oP X (a::p)) (nA ks (a::p)) (out++[a::p]) (by omega) (uU _ hX) (hL.next r1) (Du _ hk) (by simp;omega)
  have o5:out.length<5864062014805:=by omega
  have hl:=H6 n X (ties (a::p)) hX (by rw[wD];omega) (fun t q=>hX.2.2.1 t (r2 t q))
  have l2:=Gl n E X out (a::p) ks (by omega) (by omega) (out++(a::p)::rows,true) (Ev.bind hl (by
   simp only [if_pos o5]
   rw[show out++(a::p)::rows=(out++[a::p])++rows by simp]
   exact i2)) (a::p) [] rfl
  have ha:=(nX (hX.2.2.1 _ hp.tie)).1
  refine⟨(a::p)::rows,⟨e,⟨a,b,p,hp,g1,rfl⟩,i1⟩,Ev.step (fun k=>by simp only [kM.l0,if_pos c]<;>exact rfl) ?_⟩
  refine Gj n E X hX out ks (by omega) a b hp _ ?_ a.toNat 0 (Int.le_refl 0) (by omega)
  exact Ev.step (fun k=>by simp only [kM.j3]<;>exact rfl) (Ev.bind g2 (by simp only [if_true];exact l2))
end Go.Proofs.Ytgeonpciodepgaa.P
namespace Go.Proofs.Ytgeonpciodepgaa.G
open Go.RowKit Go.Proofs.YtgeonpciodepgaaW.PrintWords
def conn (n:Int) (E:List Tie):Prop:=∀u∈ma n,∀v∈ma n,lD E u v
def nob (E:List Tie):Prop:=∀t∈E,lD (cut E t) t.f0 t.f1
theorem uX {n:Int}{E:List Tie}{f:List Int}(h:Parts n E f) (h1:1<=n):(roots n f).length=1↔conn n E:=by
 have r1:=D5 h h1
 constructor
 ·intro k u hu v hv
  have a:=qj.1 hu
  have b:=qj.1 hv
  have idem:∀w,0<=w->w<n->rd f w∈roots n f:=fun w w0 w1=>by
   have l:=h.low w w0 w1
   exact xA.2 ⟨⟨l.1,by omega⟩,(h.same w (rd f w) w0 w1 l.1 (by omega) (h.conn w w0 w1)).symm⟩
  match e:roots n f,k with
  |[x],_=>
   have i1:=idem u a.1 a.2
   have i2:=idem v b.1 b.2
   rw[e,List.mem_singleton]at i1 i2
   exact(h.iff a b).1 (i1.trans i2.symm)
 intro hc
 have r2:(roots n f).length<=1:=by
  obtain⟨u,hu⟩:=List.exists_mem_of_length_pos (show 0<(roots n f).length by omega)
  refine tL (m:=[u]) (Je n f) (fun v hv=>?_)
  have a:=xA.1 hu
  have b:=xA.1 hv
  have:=h.same u v a.1.1 a.1.2 b.1.1 b.1.2 (hc u (qj.2 a.1) v (qj.2 b.1))
  have:v=u:=by omega
  simp[this]
 omega
theorem FT {n:Int}{E:List Tie}(hE:∀t∈E,inr n t) (hc:conn n E) {t:Tie}(ht:t∈E):conn n (cut E t)↔lD (cut E t) t.f0 t.f1:=by
 have hi:=hE t ht
 constructor
 ·intro h
  exact h _ (qj.2 ⟨hi.1,by have:=hi.2.1;have:=hi.2.2;omega⟩) _ (qj.2 ⟨by have:=hi.1;have:=hi.2.1;omega,hi.2.2⟩)
 intro h u hu v hv
 refine(hc u hu v hv).closed (fun x=>lD (cut E t) u x) (.refl _) (fun x y hx hxy=>?_)
 by_cases e:kH x y=t
 ·rw[←e]at h
  rw[e]at h
  refine hx.trans ?_
  rw[←e]at h⊢
  exact CE h
 exact hx.trans (lD.one (uR.2 ⟨hxy,e⟩))
end Go.Proofs.Ytgeonpciodepgaa.G
namespace Go.Proofs.Ytgeonpciodepgaa.P
open Go.RowKit Go.Proofs.YtgeonpciodepgaaW.PrintWords Go.Proofs.Ytgeonpciodepgaa.G Go.Proofs.YtgeonpciodepgaaW.PrintWords.Kd
theorem Jg (i:Int) (f:List Int):(roots i f).length<=i.toNat:=by
 rw[←pX i];exact List.length_filter_le _ _
theorem Jh {i:Int}(h0:0<=i) (f:List Int):roots (i+1) f=roots i f++if rd f i=i then[i] else[]:=by
 unfold roots
 rw[xy h0,List.filter_append]
 congr 1
 by_cases c:rd f i=i
 ·rw[if_pos c,List.filter_cons,if_pos (decide_eq_true c)];rfl
 rw[if_neg c,List.filter_cons,if_neg (by simpa using c)];rfl
theorem JL (f:List Int) (h8:(f.length:Int)<=8):∀ (d:Nat) (i:Int),0<=i->i+d=(f.length:Int)->Ev (fun k=>nJ.l0 k f ((roots i f).length:Int) i) ((roots (f.length:Int) f).length:Int):=by
 intro d
 induction d with
 |zero=>
  intro i h0 hi
  have c:¬i<(f.length:Int):=by omega
  have e:i=(f.length:Int):=by omega
  exact Ev.step (fun k=>by simp only [nJ.l0,if_neg c]<;>exact rfl) (Ev.val (by rw[e]))
 |succ d ih=>
  intro i h0 hi
  have c:i<(f.length:Int):=by omega
  have w:wrap64 (i+1)=i+1:=w64 (by omega) (by omega)
  have nx:=ih (i+1) (by omega) (by omega)
  have hl:=Jg i f
  have w2:wrap64 (((roots i f).length:Int)+1)=((roots i f).length:Int)+1:=w64 (by omega) (by omega)
  rw[Jh h0]at nx
  by_cases e:rd f i=i
  ·rw[if_pos e]at nx
   refine Ev.step (fun k=>by simp only [nJ.l0,if_pos c,if_pos h0,if_pos e,w,w2]<;>exact rfl) ?_
   simpa using nx
  rw[if_neg e]at nx
  refine Ev.step (fun k=>by simp only [nJ.l0,if_pos c,if_pos h0,if_neg e,w]<;>exact rfl) ?_
  simpa using nx
theorem zN (n:Int) (E:List S59) (hE:ok n E):∃f,Parts n E f/\Ev (fun k=>nJ.f k n E) ((roots n f).length:Int):=by
 obtain⟨f,e,h⟩:=Eo n E hE
 have h8:=hE.2.1
 have hl:=h.len
 have he:=nG hE
 refine⟨f,h,?_⟩
 unfold nJ.f
 refine Ev.bind (sO n E (by unfold big;omega)) ?_
 simp only [decide_eq_true hE,if_true]
 refine Ev.bind e ?_
 have:=JL f (by omega) f.length 0 (Int.le_refl 0) (by omega)
 rw[hl]at this
 exact this
theorem Fy (n:Int) (E:List S59) (hE:ok n E) (h1:1<=n) (hc:conn n E) (t:Tie) (ht:t∈E):∃b,Ev (fun k=>oU.f k n E t.f0 t.f1) b/\(b=false↔lD (cut E t) t.f0 t.f1):=by
 have hl:=nG hE
 have hcut:=tT n t.f0 t.f1 E (by omega)
 rw[zH (hE.2.2.1 t ht),if_pos ⟨hE,ht⟩]at hcut
 obtain⟨f,f1,f2⟩:=zN n (cut E t) (sM t hE)
 obtain⟨g,g1,g2⟩:=zN n E hE
 have go:=(uX g1 h1).2 hc
 have fp:=D5 f1 h1
 refine⟨decide (((roots n f).length:Int)> ((roots n g).length:Int)),?_,?_⟩
 ·unfold oU.f
  refine Ev.bind hcut ?_
  simp only [if_true]
  exact Ev.bind f2 (Ev.bind g2 (Ev.val rfl))
 rw[←FT hE.2.2.1 hc ht,←uX f1 h1,decide_eq_false_iff_not]
 omega
theorem FJ (n:Int) (E:List S59) (hE:ok n E) (h1:1<=n) (hc:conn n E):∀ (suf p q:List S59),p++suf=E->q.length<=p.length->∃L,Ev (fun k=>mJ.l0 k q (p.length:Int) n E) L/\(L=[]↔q=[]/\∀t∈suf,lD (cut E t) t.f0 t.f1):=by
 have hl:=nG hE
 intro suf
 induction suf with
 |nil=>
  intro p q e hq
  rw[List.append_nil]at e
  subst e
  have c:¬ (p.length:Int)<(p.length:Int):=by omega
  exact⟨q,Ev.step (fun k=>by simp only [mJ.l0,if_neg c]<;>exact rfl) (Ev.val rfl),by simp⟩
 |cons t suf ih=>
  intro p q e hq
  have c:(p.length:Int)<(E.length:Int):=by rw[←e];exact l9 p t suf
  have w:wrap64 ((p.length:Int)+1)=((p++[t]).length:Int):=mG (by unfold big;omega)
  have rt:jQ E (p.length:Int)=t:=by rw[←e];exact r9 p t suf
  have ht:t∈E:=by rw[←e];simp
  have q8:q.length<8796093022208:=by omega
  obtain⟨b,b1,b2⟩:=Fy n E hE h1 hc t ht
  cases b with
  |true=>
   obtain⟨L,l1,l2⟩:=ih (p++[t]) (q++[t]) (by rw[←e];simp) (by simp;omega)
   refine⟨L,Ev.step (fun k=>by simp only [mJ.l0,if_pos c,nn,if_true,rt,w]<;>exact rfl) (Ev.bind b1 (by simp only [if_true,if_pos q8];exact l1)),?_⟩
   rw[l2]
   constructor
   ·intro k;simp at k
   intro k
   have:=b2.2 (k.2 t List.mem_cons_self)
   simp at this
  |false=>
   obtain⟨L,l1,l2⟩:=ih (p++[t]) q (by rw[←e];simp) (by simp;omega)
   refine⟨L,Ev.step (fun k=>by simp only [mJ.l0,if_pos c,nn,if_true,rt,w]<;>exact rfl) (Ev.bind b1 (by simp only [Bool.false_eq_true,if_false];exact l1)),?_⟩
   rw[l2]
   constructor
   ·intro k
    refine⟨k.1,fun s hs=>?_⟩
    rcases List.mem_cons.1 hs with rfl|hs
    ·exact b2.1 rfl
    exact k.2 s hs
   intro k
   exact⟨k.1,fun s hs=>k.2 s (List.mem_cons_of_mem _ hs)⟩
theorem FH (n:Int) (E:List S59) (hE:ok n E) (h1:1<=n) (hc:conn n E):∃L,Ev (fun k=>mJ.f k n E) L/\(L=[]↔nob E):=by
 have hl:=nG hE
 obtain⟨L,l1,l2⟩:=FJ n E hE h1 hc E [] [] rfl (Nat.le_refl _)
 refine⟨L,?_,by rw[l2];exact⟨fun k=>k.2,fun k=>⟨rfl,k⟩⟩⟩
 unfold mJ.f
 simp only [Option.bind_some]
 refine Ev.bind (sO n E (by unfold big;omega)) ?_
 simp only [decide_eq_true hE,if_true]
 exact l1
def ul (n:Int) (E:List Tie):Prop:=ok n E/\3<=n/\conn n E/\nob E
theorem Jp (n:Int) (E:List S59) (hb:(E.length:Int)<big):
  (ul n E->∃rows,sI n E [0] rows/\Ev (fun k=>kM.f k n E) (rows,true))/\(¬ul n E->Ev (fun k=>kM.f k n E) ([],false)):=by
 have no:Ev (fun k=>kM.j0 k [] true n E) ([],false):=Ev.step (fun k=>by simp only [kM.j0,if_true]<;>exact rfl) (Ev.val rfl)
 have hk:=sO n E hb
 unfold kM.f
 simp only [Option.bind_some]
 by_cases c:ok n E;rotate_left
 ·rw[decide_eq_false c]at hk
  exact⟨fun h=>absurd h.1 c,fun _=>Ev.bind hk (by simp only [Bool.false_eq_true,if_false];exact no)⟩
 rw[decide_eq_true c]at hk
 have hl:=nG c
 by_cases d:n<3
 ·refine⟨fun h=>by have:=h.2.1;omega,fun _=>Ev.bind hk (by simp only [if_true,if_pos d];exact no)⟩
 obtain⟨f,f1,f2⟩:=zN n E c
 by_cases e:conn n E
 ·have r1:=(uX f1 (by omega)).2 e
  have e1:((roots n f).length:Int)=1:=by omega
  obtain⟨L,l1,l2⟩:=FH n E c (by omega) e
  by_cases g:nob E
  ·have hL:L=[]:=l2.2 g
   have dz:decide ((L.length:Int)>0)=false:=by rw[hL];rfl
   refine⟨fun _=>?_,fun k=>absurd ⟨c,by omega,e,g⟩ k⟩
   obtain⟨rows,h1,h2⟩:=Gi n E c e g E.length E [0] [] (Nat.le_refl _) c ⟨fun t h=>h,fun t h k=>absurd h k,by simp,fun v hv=>by rw[List.mem_singleton]at hv;subst hv;omega⟩ (by simp) (by simp;omega)
   exact⟨rows,h1,Ev.bind hk (by simp only [if_true,if_neg d];exact Ev.bind f2 (by simp only [if_pos e1];exact Ev.bind l1 (by rw[dz];exact Ev.step (fun k=>by simp only [kM.j0,Bool.false_eq_true,if_false,xh n E (by omega),Option.bind_some]<;>exact rfl) h2)))⟩
  have hL:L≠[]:=fun k=>g (l2.1 k)
  have dz:decide ((L.length:Int)>0)=true:=by
   have:=List.length_pos_iff.2 hL
   rw[decide_eq_true_eq];omega
  exact⟨fun h=>absurd h.2.2.2 g,fun _=>Ev.bind hk (by simp only [if_true,if_neg d];exact Ev.bind f2 (by simp only [if_pos e1];exact Ev.bind l1 (by rw[dz];exact no)))⟩
 have r1:¬ ((roots n f).length:Int)=1:=fun k=>e ((uX f1 (by omega)).1 (by omega))
 exact⟨fun h=>absurd h.2.2.1 e,fun _=>Ev.bind hk (by simp only [if_true,if_neg d];exact Ev.bind f2 (by simp only [if_neg r1];exact no))⟩
theorem He (n a b:Int) (E:List S59) (hE:ok n E) (ha:0<=a/\a<n) (hb:0<=b/\b<n):∃c,Ev (fun k=>sG.f k n E a b) c/\(c=true↔lD E a b):=by
 obtain⟨f,e,h⟩:=DC n E hE
 have hl:=h.len
 have la:a<(f.length:Int):=by omega
 have lb:b<(f.length:Int):=by omega
 refine⟨rd f a==rd f b,?_,by rw[beq_iff_eq];exact h.iff ha hb⟩
 unfold sG.f
 refine Ev.bind e ?_
 simp only [if_pos ha.1,if_pos hb.1,if_pos la,if_pos lb]
 exact Ev.val rfl
theorem FC (n:Int) (E:List S59) (hE:ok n E):∀ (suf p q:List S59),p++suf=E->q.length<=p.length->∃L,Ev (fun k=>mY.l0 k q (p++suf) ((p++suf).length:Int) (p.length:Int) n E) L/\(L=[]↔q=[]/\∀t∈suf,lD (cut E t) t.f0 t.f1):=by
 have hl:=nG hE
 intro suf
 induction suf with
 |nil=>
  intro p q _ _
  exact⟨q,Ev.step (fun k=>by simp only [mY.l0,oF,if_false]<;>exact rfl) (Ev.val rfl),by simp⟩
 |cons t suf ih=>
  intro p q e hq
  have ht:t∈E:=by rw[←e];simp
  have hr:=hE.2.2.1 t ht
  unfold inr at hr
  have hp:(p.length:Int)<big:=oL (suf:=suf) (t:=t) (by rw[e];unfold big;omega)
  have c:=l9 p t suf
  have q8:q.length<8796093022208:=by rw[e]at c;omega
  have rt:jQ (p++t::suf) (p.length:Int)=t:=zz p t suf
  obtain⟨b,b1,b2⟩:=He n t.f0 t.f1 (cut E t) (sM t hE) ⟨hr.1,by omega⟩ ⟨by omega,hr.2.2⟩
  have st:∀L,Ev (fun k=>if b=true then mY.l0 k q (p++t::suf) ((p++t::suf).length:Int) ((p++[t]).length:Int) n E else mY.l0 k (q++[t]) (p++t::suf) ((p++t::suf).length:Int) ((p++[t]).length:Int) n E) L->
    Ev (fun k=>mY.l0 k q (p++t::suf) ((p++t::suf).length:Int) (p.length:Int) n E) L:=fun L hL=>by
   refine Ev.step (fun k=>by simp only [mY.l0,if_pos c,nn,if_true,rt,mG (t:=t) hp,if_pos q8]<;>exact rfl) (Ev.bind (zk n E t (by omega)) (Ev.bind b1 ?_))
   exact hL
  cases b with
  |true=>
   obtain⟨L,l1,l2⟩:=ih (p++[t]) q (by rw[←e];simp) (by simp;omega)
   rw[←mF]at l1
   refine⟨L,st L (by simpa using l1),?_⟩
   rw[l2]
   constructor
   ·intro k
    refine⟨k.1,fun s hs=>?_⟩
    rcases List.mem_cons.1 hs with rfl|hs
    ·exact b2.1 rfl
    exact k.2 s hs
   intro k
   exact⟨k.1,fun s hs=>k.2 s (List.mem_cons_of_mem _ hs)⟩
  |false=>
   obtain⟨L,l1,l2⟩:=ih (p++[t]) (q++[t]) (by rw[←e];simp) (by simp;omega)
   rw[←mF]at l1
   refine⟨L,st L (by simpa using l1),?_⟩
   rw[l2]
   constructor
   ·intro k;simp at k
   intro k
   have:=b2.2 (k.2 t List.mem_cons_self)
   simp at this
theorem FB (n:Int) (E:List S59) (hE:ok n E):∃L,Ev (fun k=>mY.f k n E) L/\(L=[]↔nob E):=by
 obtain⟨L,l1,l2⟩:=FC n E hE E [] [] rfl (Nat.le_refl _)
 refine⟨L,l1,by rw[l2];exact⟨fun k=>k.2,fun k=>⟨rfl,k⟩⟩⟩
theorem F7 (K:List Bool) (v x:Int) (h0:0<=v) (h1:v<(K.length:Int)) (x0:0<=x):lW false (K.set v.toNat true) x=if x=v then true else lW false K x:=by
 unfold lW
 rw[List.getD_eq_getElem?_getD,List.getD_eq_getElem?_getD,List.getElem?_set]
 by_cases e:x=v
 ·subst e
  have:x.toNat<K.length:=by omega
  simp[this]
 have:¬v.toNat=x.toNat:=by omega
 simp[this,e]
theorem D6 {n:Int}{lr:List Bool}{K K':List Int}{v:Int}(h:seen n lr K) (h0:0<=v) (h1:v<n) (hk:∀x,x∈K'↔x∈K\/x=v):seen n (lr.set v.toNat true) K':=by
 refine⟨by rw[List.length_set];exact h.1,fun x x0 x1=>?_⟩
 rw[F7 lr v x h0 (by rw[h.1];exact h1) x0,hk,←h.2 x x0 x1]
 by_cases e:x=v
 ·simp[e]
 simp[e]
theorem Ji {n:Int}{lr:List Bool}{K K':List Int}(h:seen n lr K) (hk:∀x,x∈K'↔x∈K):seen n lr K':=⟨h.1,fun x x0 x1=>by rw[hk];exact h.2 x x0 x1⟩
theorem Hz (C:List Tie) (p:List Int) (u w:Int):oP C ((p++[u])++[w])=cut (oP C (p++[u])) (kH u w):=by
 have e:ties ((p++[u])++[w])=ties (p++[u])++[kH u w]:=by
  rw[show(p++[u])++[w]=p++u::w::[] by simp,zJ]
  simp[ties]
 unfold oP cut
 rw[List.filter_filter,e]
 refine List.filter_congr fun s _=>?_
 simp
 by_cases h1:s∈ties (p++[u])<;>by_cases h2:s=kH u w<;>simp[h1,h2]
theorem Gf (n:Int) (E C:List S59) (hC:ok n C) (out:List (List Int)) (K ear:List Int) (he:ear.length<=20) (hr:∀v∈ear,0<=v/\v<n) (r:List (List Int)×Bool)
  (nxt:∀lr,seen n lr (nA K ear)->Ev (fun k=>if out.length<5864062014805 then kE.l0 k (out++[ear]) lr n E n (oP C ear) else none) r):∀ (suf p:List Int) (u:Int) (lr:List Bool),p++u::suf=ear->seen n lr (nA K (p++[u]))->
  Ev (fun k=>kE.l3 k out lr ear ((p++[u]).length:Int) n E n (oP C (p++[u]))) r:=by
 intro suf
 induction suf with
 |nil=>
  intro p u lr e hS
  subst e
  have c:¬ ((p++[u]).length:Int)<((p++[u]).length:Int):=by omega
  refine Ev.step (fun k=>by simp only [kE.l3,if_neg c]<;>exact rfl) (nxt lr hS)
 |cons w suf ih=>
  intro p u lr e hS
  have e1:ear=p++u::(w::suf):=e.symm
  have e2:ear=(p++[u])++w::suf:=by rw[←e];simp
  have hl:ear.length=p.length+1+1+suf.length:=by rw[←e];simp;omega
  have hl2:(p++[u]).length=p.length+1:=by simp
  have c:((p++[u]).length:Int)<(ear.length:Int):=by omega
  have c1:(p.length:Int)<(ear.length:Int):=by omega
  have hp:=wV p u (by omega)
  have r1:rd ear (p.length:Int)=u:=by rw[e1];exact nZ p u (w::suf)
  have r2:rd ear ((p++[u]).length:Int)=w:=by rw[e2];exact nZ (p++[u]) w suf
  have hw:=hr w (by rw[←e];simp)
  have w0:0<=w:=hw.1
  have w1:w<(lr.length:Int):=by rw[hS.1];exact hw.2
  have ws:wrap64 (((p++[u]).length:Int)+1)=(((p++[u])++[w]).length:Int):=mG (by unfold big;omega)
  have lc:=nG (uU (fun t=> !decide (t∈ties (p++[u]))) hC)
  have hle:=zk n (oP C (p++[u])) (kH u w) (by unfold oP;omega)
  rw[←Hz]at hle
  have nx:=ih (p++[u]) w (lr.set w.toNat true) (by rw[←e];simp) (D6 hS hw.1 hw.2 (fun x=>by
   rw[rY,rY,List.mem_append,List.mem_singleton,or_assoc]))
  refine Ev.step (fun k=>by simp only [kE.l3,if_pos c,hp,nn,if_true,if_pos c1,r1,r2,zI,Option.bind_some,ws]<;>exact rfl) (Ev.bind hle ?_)
  simp only [if_pos w0,if_pos w1]
  exact nx
theorem Gh (n:Int) (E C:List S59) (hC:ok n C) (out:List (List Int)) (lr:List Bool) (K:List Int) (hS:seen n lr K) (i:Int) (hi:0<=i/\i<n) (no:∀y,i∈K->¬kH i y∈C) (r:List (List Int)×Bool)
  (nxt:Ev (fun k=>kE.l1 k out lr [] (i+1) n E n C) r):∀ (d:Nat) (j:Int),0<=j->j+d=n->Ev (fun k=>kE.l2 k out lr [] i j n E n C) r:=by
 have hl:=nG hC
 have h8:=hC.2.1
 have wi:wrap64 (i+1)=i+1:=w64 (by omega) (by omega)
 have i0:0<=i:=hi.1
 have i1:i<(lr.length:Int):=by rw[hS.1];exact hi.2
 intro d
 induction d with
 |zero=>
  intro j h0 h
  have c:¬j<n:=by omega
  refine Ev.step (fun k=>by simp only [kE.l2,if_neg c]<;>exact rfl) ?_
  exact Ev.step (fun k=>by simp only [kE.j5,Bool.false_eq_true,if_false,wi]<;>exact rfl) nxt
 |succ d ih=>
  intro j h0 h
  have c:j<n:=by omega
  have wj:wrap64 (j+1)=j+1:=w64 (by omega) (by omega)
  have nx:=ih (j+1) (by omega) (by omega)
  have fin:Ev (fun k=>kE.j6 k out lr [] i j false n E n C) r:=Ev.step (fun k=>by simp only [kE.j6,Bool.false_eq_true,if_false,wj]<;>exact rfl) nx
  have c0:((([]:List Int).length:Int)==0)=true:=rfl
  refine Ev.step (fun k=>by simp only [kE.l2,if_pos c,c0]<;>exact rfl) ?_
  by_cases q:i∈K
  ·have rt:lW false lr i=true:=(hS.2 i hi.1 hi.2).2 q
   refine Ev.step (fun k=>by simp only [kE.j5,if_true,if_pos i0,if_pos i1,if_pos rt]<;>exact rfl) ?_
   have hh:=xu n i j C (by unfold big;omega)
   rw[decide_eq_false (no j q)]at hh
   exact Ev.bind hh fin
  have rt:¬lW false lr i=true:=fun k=>q ((hS.2 i hi.1 hi.2).1 k)
  exact Ev.step (fun k=>by simp only [kE.j5,if_true,if_pos i0,if_pos i1,if_neg rt]<;>exact rfl) fin
theorem Gg (n:Int) (E C:List S59) (out:List (List Int)) (lr:List Bool) (ear:List Int) (he:ear≠[]) (i j:Int) (r:List (List Int)×Bool) (nxt:Ev (fun k=>kE.l3 k out lr ear 1 n E n C) r):Ev (fun k=>kE.l2 k out lr ear i j n E n C) r:=by
 have c0:((ear.length:Int)==0)=false:=by
  rw[beq_eq_false_iff_ne]
  have:=List.length_pos_iff.2 he
  omega
 have f3:∀i,Ev (fun k=>kE.j3 k out lr ear i false n E n C) r:=fun i=>Ev.step (fun k=>by simp only [kE.j3,Bool.false_eq_true,if_false]<;>exact rfl) nxt
 have f1:∀i,Ev (fun k=>kE.l1 k out lr ear i n E n C) r:=fun i=>by
  by_cases c:i<n
  ·exact Ev.step (fun k=>by simp only [kE.l1,if_pos c,c0]<;>exact rfl) (f3 i)
  exact Ev.step (fun k=>by simp only [kE.l1,if_neg c]<;>exact rfl) (f3 i)
 have f5:Ev (fun k=>kE.j5 k out lr ear i j false n E n C) r:=Ev.step (fun k=>by simp only [kE.j5,Bool.false_eq_true,if_false]<;>exact rfl) (f1 _)
 by_cases c:j<n
 ·exact Ev.step (fun k=>by simp only [kE.l2,if_pos c,c0]<;>exact rfl) f5
 exact Ev.step (fun k=>by simp only [kE.l2,if_neg c]<;>exact rfl) f5
theorem Gb (n:Int) (E C:List S59) (hC:ok n C) (out:List (List Int)) (lr:List Bool) (K:List Int) (hS:seen n lr K) (a b:Int) (hp:tJ n C K a b) (q:List Int) (hq:q.length<=20) (hb:Ev (fun k=>rU.f k n (cut C (kH a b)) b lr) q) (r:List (List Int)×Bool)
  (nxt:Ev (fun k=>kE.l3 k out lr (a::q) 1 n E n C) r):∀ (d:Nat) (j:Int),0<=j->j+d=b->Ev (fun k=>kE.l2 k out lr [] a j n E n C) r:=by
 have hl:=nG hC
 have h8:=hC.2.1
 have hab:=nX (hC.2.2.1 _ hp.tie)
 have i0:0<=a:=hab.1.1
 have i1:a<(lr.length:Int):=by rw[hS.1];exact hab.1.2
 have rt:lW false lr a=true:=(hS.2 a hab.1.1 hab.1.2).2 hp.here
 have c0:((([]:List Int).length:Int)==0)=true:=rfl
 intro d
 induction d with
 |zero=>
  intro j h0 h
  have e:j=b:=by omega
  subst e
  have c:j<n:=hab.2.1.2
  have hh:=xu n a j C (by unfold big;omega)
  rw[decide_eq_true hp.tie]at hh
  have lim:[a].length+q.length<17592186044416:=by simp;omega
  refine Ev.step (fun k=>by simp only [kE.l2,if_pos c,c0]<;>exact rfl) ?_
  refine Ev.step (fun k=>by simp only [kE.j5,if_true,if_pos i0,if_pos i1,if_pos rt]<;>exact rfl) (Ev.bind hh ?_)
  refine Ev.step (fun k=>by simp only [kE.j6,if_true,zI,Option.bind_some]<;>exact rfl) (Ev.bind (zk n C (kH a j) (by omega)) (Ev.bind hb ?_))
  simp only [if_pos lim]
  exact Gg n E C out lr (a::q) (by simp) a _ r nxt
 |succ d ih=>
  intro j h0 h
  have c:j<n:=by have:=hab.2.1.2;omega
  have wj:wrap64 (j+1)=j+1:=w64 (by omega) (by omega)
  have nx:=ih (j+1) (by omega) (by omega)
  have fin:Ev (fun k=>kE.j6 k out lr [] a j false n E n C) r:=Ev.step (fun k=>by simp only [kE.j6,Bool.false_eq_true,if_false,wj]<;>exact rfl) nx
  have no:¬kH a j∈C:=fun k=>by
   have:=(hp.least a j hp.here k).2 rfl
   omega
  have hh:=xu n a j C (by unfold big;omega)
  rw[decide_eq_false no]at hh
  refine Ev.step (fun k=>by simp only [kE.l2,if_pos c,c0]<;>exact rfl) ?_
  exact Ev.step (fun k=>by simp only [kE.j5,if_true,if_pos i0,if_pos i1,if_pos rt]<;>exact rfl) (Ev.bind hh fin)
theorem Gd (n:Int) (E C:List S59) (hC:ok n C) (out:List (List Int)) (lr:List Bool) (K:List Int) (hS:seen n lr K) (a b:Int) (hp:tJ n C K a b) (q:List Int) (hq:q.length<=20) (hb:Ev (fun k=>rU.f k n (cut C (kH a b)) b lr) q) (r:List (List Int)×Bool)
  (nxt:Ev (fun k=>kE.l3 k out lr (a::q) 1 n E n C) r):∀ (d:Nat) (i:Int),0<=i->i+d=a->Ev (fun k=>kE.l1 k out lr [] i n E n C) r:=by
 have hab:=nX (hC.2.2.1 _ hp.tie)
 have c0:((([]:List Int).length:Int)==0)=true:=rfl
 intro d
 induction d with
 |zero=>
  intro i h0 h
  have e:i=a:=by omega
  subst e
  have c:i<n:=hab.1.2
  refine Ev.step (fun k=>by simp only [kE.l1,if_pos c,c0]<;>exact rfl) ?_
  exact Ev.step (fun k=>by simp only [kE.j3,if_true]<;>exact rfl) (Gb n E C hC out lr K hS i b hp q hq hb r nxt b.toNat 0 (Int.le_refl 0) (by have:=hab.2.1.1;omega))
 |succ d ih=>
  intro i h0 h
  have c:i<n:=by have:=hab.1.2;omega
  have nx:=ih (i+1) (by omega) (by omega)
  refine Ev.step (fun k=>by simp only [kE.l1,if_pos c,c0]<;>exact rfl) ?_
  refine Ev.step (fun k=>by simp only [kE.j3,if_true]<;>exact rfl) (Gh n E C hC out lr K hS i ⟨h0,c⟩ (fun y hy k=>?_) r nx n.toNat 0 (Int.le_refl 0) (by omega))
  have:=(hp.least i y hy k).1
  omega
theorem Gc (n:Int) (E:List S59) (hE:ok n E) (hc:∀u∈ma n,∀v∈ma n,lD E u v) (hn:∀t∈E,lD (cut E t) t.f0 t.f1):∀ (m:Nat) (X:List S59) (K:List Int) (lr:List Bool) (out:List (List Int)),X.length<=m->ok n X->tZ n E X K->seen n lr K->out.length+m<=64->
  ∃rows,sI n X K rows/\Ev (fun k=>kE.l0 k out lr n E n X) (out++rows,true):=by
 have h8:=hE.2.1
 intro m
 induction m with
 |zero=>
  intro X K lr out hm hX hL hS ho
  have e:X=[]:=List.eq_nil_of_length_eq_zero (by omega)
  have c:¬ (X.length:Int)>0:=by omega
  exact⟨[],e,Ev.step (fun k=>by simp only [kE.l0,if_neg c]<;>exact rfl) (Ev.val (by simp))⟩
 |succ m ih=>
  intro X K lr out hm hX hL hS ho
  by_cases e:X=[]
  ·have c:¬ (X.length:Int)>0:=by rw[e];simp
   exact⟨[],e,Ev.step (fun k=>by simp only [kE.l0,if_neg c]<;>exact rfl) (Ev.val (by simp))⟩
  have c:(X.length:Int)>0:=by
   have:=List.length_pos_iff.2 e
   omega
  obtain⟨a0,b0,p1,p2⟩:=Dz hE.2.2.1 hc hL e
  obtain⟨a,b,hp⟩:=Dh hX.2.2.1 p1 p2
  obtain⟨p0,hp0⟩:=AZ h8 hE.2.2.1 hn hL hp.here hp.tie
  have hab:=nX (hX.2.2.1 _ hp.tie)
  obtain⟨p,g1,g2⟩:=Fv n b (cut X (kH a b)) (sM _ hX) lr K hS hab.2.1 hp0
  obtain⟨r1,r2,r3,r4⟩:=CO hX.2.2.1 hp.tie g1.1
  have hlt:(oP X (a::p)).length<X.length:=by
   unfold oP
   have h1:=List.length_filter_le (fun t=> !decide (t∈ties (a::p))) X
   refine Nat.lt_of_le_of_ne h1 (fun q=>?_)
   rw[List.length_filter_eq_length_iff]at q
   have:=q _ hp.tie
   simp[r3]at this
  have o5:out.length<5864062014805:=by omega
  have pl:(a::p).length<=20:=by omega
  have pl2:p.length<=20:=by simp at pl;omega
  -- what comes behind is the same for each row that tells the same
  have key:∀lr',seen n lr' (nA K (a::p))->∃rows,sI n (oP X (a::p)) (nA K (a::p)) rows/\Ev (fun k=>kE.l0 k (out++[a::p]) lr' n E n (oP X (a::p))) ((out++[a::p])++rows,true):=fun lr' h'=>
   ih (oP X (a::p)) (nA K (a::p)) lr' (out++[a::p]) (by omega) (uU _ hX) (hL.next r1) h' (by simp;omega)
  have lrx:∃lr',seen n lr' (nA K (a::p)):=by
   refine⟨(ma n).map fun v=>decide (v∈nA K (a::p)),by rw[List.length_map,pX];have:=hE.1;omega,fun v v0 v1=>?_⟩
   have hv:(ma n)[v.toNat]? =some v:=by
    unfold ma
    rw[List.getElem?_map,List.getElem?_range (by omega)]
    simp;omega
   unfold lW
   rw[List.getD_eq_getElem?_getD,List.getElem?_map,hv]
   simp
  obtain⟨lr0,hlr0⟩:=lrx
  obtain⟨rows,i1,_⟩:=key lr0 hlr0
  refine⟨(a::p)::rows,⟨e,⟨a,b,p,hp,g1,rfl⟩,i1⟩,Ev.step (fun k=>by simp only [kE.l0,if_pos c]<;>exact rfl) ?_⟩
  have c0:seen n lr (nA K ([]++[a])):=Ji hS (fun x=>by
   rw[rY]
   simp
   rintro rfl
   exact hp.here)
  have l3:=Gf n E X hX out K (a::p) pl r1 (out++(a::p)::rows,true) (fun lr' h'=>by
   obtain⟨rows',j1,j2⟩:=key lr' h'
   have:=zb rows rows' _ _ i1 j1
   subst this
   simp only [if_pos o5]
   rw[show out++(a::p)::rows=(out++[a::p])++rows by simp]
   exact j2) p [] a lr rfl c0
  have l3':Ev (fun k=>kE.l3 k out lr (a::p) 1 n E n X) (out++(a::p)::rows,true):=by
   have e0:oP X ([]++[a])=X:=by
    unfold oP
    rw[List.filter_eq_self]
    intro t _
    simp[ties]
   rw[e0]at l3
   exact l3
  exact Gd n E X hX out lr K hS a b hp p pl2 g2 _ l3' a.toNat 0 (Int.le_refl 0) (by have:=hab.1.1;omega)
theorem G8 (n:Int) (E:List S59) (hb:(E.length:Int)<big):
  (ul n E->∃rows,sI n E [0] rows/\Ev (fun k=>kE.f k n E) (rows,true))/\(¬ul n E->Ev (fun k=>kE.f k n E) ([],false)):=by
 have no:Ev (fun k=>kE.j0 k true n E) ([],false):=Ev.step (fun k=>by simp only [kE.j0,if_true]<;>exact rfl) (Ev.val rfl)
 have hk:=G9 n E hb
 unfold kE.f
 by_cases c:ok n E;rotate_left
 ·rw[decide_eq_false c]at hk
  exact⟨fun h=>absurd h.1 c,fun _=>Ev.bind hk (by simp only [Bool.false_eq_true,if_false];exact no)⟩
 rw[decide_eq_true c]at hk
 have hl:=nG c
 by_cases d:n<3
 ·refine⟨fun h=>by have:=h.2.1;omega,fun _=>Ev.bind hk (by simp only [if_true,if_pos d];exact no)⟩
 obtain⟨f,f1,f2⟩:=FX n E c
 by_cases e:conn n E;rotate_left
 ·have r1:¬ ((roots n f).length:Int)=1:=fun k=>e ((uX f1 (by omega)).1 (by omega))
  exact⟨fun h=>absurd h.2.2.1 e,fun _=>Ev.bind hk (by simp only [if_true,if_neg d];exact Ev.bind f2 (by simp only [if_neg r1];exact no))⟩
 have r1:=(uX f1 (by omega)).2 e
 have e1:((roots n f).length:Int)=1:=by omega
 obtain⟨L,l1,l2⟩:=FB n E c
 by_cases g:nob E
 ·have hL:L=[]:=l2.2 g
  have dz:decide ((L.length:Int)>0)=false:=by rw[hL];rfl
  have n0:0<=n:=by omega
  have h8:=c.2.1
  have n1:n.toNat<=281474976710656:=by omega
  have n2:0<((List.replicate n.toNat false).length:Int):=by rw[List.length_replicate];omega
  have hS:seen n ((List.replicate n.toNat false).set (0:Int).toNat true) [0]:=D6 (K:=[]) ⟨by rw[List.length_replicate];omega,fun v v0 v1=>by
   unfold lW
   rw[List.getD_eq_getElem?_getD,List.getElem?_replicate]
   split<;>simp⟩ (Int.le_refl 0) (by omega) (fun x=>by simp)
  refine⟨fun _=>?_,fun k=>absurd ⟨c,by omega,e,g⟩ k⟩
  obtain⟨rows,h1,h2⟩:=Gc n E c e g E.length E [0] _ [] (Nat.le_refl _) c ⟨fun t h=>h,fun t h k=>absurd h k,by simp,fun v hv=>by rw[List.mem_singleton]at hv;subst hv;omega⟩ hS (by simp;omega)
  exact⟨rows,h1,Ev.bind hk (by simp only [if_true,if_neg d];exact Ev.bind f2 (by simp only [if_pos e1];exact Ev.bind l1 (by rw[dz];exact Ev.step (fun k=>by simp only [kE.j0,Bool.false_eq_true,if_false,if_pos n0,if_pos n1,Option.bind_some,if_pos n2]<;>exact rfl) h2)))⟩
 have hL:L≠[]:=fun k=>g (l2.1 k)
 have dz:decide ((L.length:Int)>0)=true:=by
  have:=List.length_pos_iff.2 hL
  rw[decide_eq_true_eq];omega
 exact⟨fun h=>absurd h.2.2.2 g,fun _=>Ev.bind hk (by simp only [if_true,if_neg d];exact Ev.bind f2 (by simp only [if_pos e1];exact Ev.bind l1 (by rw[dz];exact no)))⟩
theorem Fu (n:Int) (E:List S59) (hb:(E.length:Int)<big):∃rows,few rows/\Ev (fun k=>kM.f k n E) rows/\Ev (fun k=>kE.f k n E) rows/\(rows.2=true->ul n E/\sI n E [0] rows.1)/\(rows.2=false->¬ul n E/\rows.1=[]):=by
 obtain⟨r,r1,r2⟩:=Ga n E hb
 obtain⟨s1,s2⟩:=Jp n E hb
 obtain⟨i1,i2⟩:=G8 n E hb
 by_cases c:ul n E
 ·obtain⟨rows,a1,a2⟩:=s1 c
  obtain⟨rows',b1,b2⟩:=i1 c
  have:=zb rows rows' _ _ a1 b1
  subst this
  have:=Ev.unique r1 a2
  subst this
  exact⟨_,r2,a2,b2,fun _=>⟨c,a1⟩,by simp⟩
 have:=Ev.unique r1 (s2 c)
 subst this
 exact⟨_,r2,s2 c,i2 c,by simp,fun _=>⟨c,rfl⟩⟩
theorem IX (pre:List nu) (t:nu) (suf:List nu):tN (pre++t::suf) (pre.length:Int)=t:=by
 unfold tN;exact tq pre t suf _
theorem Ju (n:Int) (l:List nu) (a:Int) (h0:0<=a) (h1:a<=1048576) (hl:l.length<=9223372036854775807):
  tH.f n l a=some (if a - (l.length:Int)<0 then -1 else a - l.length):=by
 unfold tH.f uw.f
 rw[w64 (by omega) (by omega)]
 by_cases c:a - (l.length:Int)<0
 ·simp[c]
 simp[c]
theorem set_mid {α:Type}(pre:List α) (z t:α) (suf:List α):(pre++z::suf).set ((pre.length:Int)).toNat t=(pre++[t])++suf:=by
 simp[List.set_append]
theorem JG:∀ (suf pre:List nu),((pre++suf).length:Int)<big->
  Ev (fun k=>pK.l0 k (pre++suf) (pre++List.replicate suf.length z59) (pre.length:Int)) (pre++suf):=by
 intro suf
 induction suf with
 |nil=>
  intro pre hb
  refine Ev.step (fun k=>by simp only [pK.l0,oF,if_false]<;>exact rfl) ?_
  exact Ev.val (by simp)
 |cons t suf ih=>
  intro pre hb
  have hp:(pre.length:Int)<big:=oL hb
  have l2:(pre.length:Int)<((pre++List.replicate (t::suf).length z59).length:Int):=by
   rw[List.length_append,List.length_replicate,List.length_cons];omega
  refine Ev.step (fun k=>by simp only [pK.l0,uQ.f,l9,nn,if_true,IX,mG (t:=t) hp,l2,Option.bind_some]<;>exact rfl) ?_
  have e:(pre++List.replicate (t::suf).length z59).set ((pre.length:Int)).toNat (⟨t.f0,t.f1⟩:S59)=(pre++[t])++List.replicate suf.length z59:=set_mid pre _ t _
  rw[e,mF pre t suf]
  exact ih (pre++[t]) (rf hb)
theorem JF (l:List nu) (hb:(l.length:Int)<=1048576):Ev (fun k=>pK.f k l) l:=by
 unfold pK.f
 have h1:((l.length:Int)).toNat<=17592186044416:=by omega
 simp only [nn,if_true,h1,Int.toNat_natCast]
 have h2:l.length<=17592186044416:=by omega
 simp only [h2,if_true]
 exact JG l [] (by unfold big;simp;omega)
theorem xM (n:Int) (l:List nu) (hb:(l.length:Int)<=1048576):Ev (fun k=>qG.f k n l) (n,l):=by
 unfold qG.f
 exact Ev.bind (JF l hb) (Ev.val rfl)
theorem Gt:∀ (suf p1 p2:List S59),p1.length=p2.length->((p1++suf).length:Int)<big->
  Ev (fun k=>nS.l0 k (p1++suf) (p2++suf) (p1.length:Int)) true:=by
 intro suf
 induction suf with
 |nil=>
  intro p1 p2 e hb
  refine Ev.step (fun k=>by simp only [nS.l0,oF,if_false]<;>exact rfl) ?_
  exact Ev.val rfl
 |cons t suf ih=>
  intro p1 p2 e hb
  have hp:(p1.length:Int)<big:=oL hb
  have l2:(p1.length:Int)<((p2++t::suf).length:Int):=by rw[e];exact l9 _ _ _
  have r2:jQ (p2++t::suf) (p1.length:Int)=t:=by rw[e];exact r9 _ _ _
  refine Ev.step (fun k=>by simp only [nS.l0,ut.f,l9,nn,if_true,r9,mG (t:=t) hp,l2,r2,Option.bind_some]<;>exact rfl) ?_
  rw[mF p1 t suf,mF p2 t suf]
  exact ih (p1++[t]) (p2++[t]) (by simp[e]) (rf hb)
theorem Gu (l:List S59) (hb:(l.length:Int)<big):Ev (fun k=>nS.f k l l) true:=by
 unfold nS.f
 simp only [if_true]
 exact Gt l [] [] rfl hb
theorem Gs (n:Int) (l:List S59) (hb:(l.length:Int)<big):Ev (fun k=>tF.f k n l n l) true:=by
 unfold tF.f
 simp only [if_true]
 exact Ev.bind (Gu l hb) (Ev.val rfl)
theorem Gq:∀ (suf p1 p2:List Int),p1.length=p2.length->((p1++suf).length:Int)<big->
  Ev (fun k=>oO.l0 k (p1++suf) (p2++suf) (p1.length:Int)) true:=by
 intro suf
 induction suf with
 |nil=>
  intro p1 p2 e hb
  refine Ev.step (fun k=>by simp only [oO.l0,oF,if_false]<;>exact rfl) ?_
  exact Ev.val rfl
 |cons t suf ih=>
  intro p1 p2 e hb
  have hp:(p1.length:Int)<big:=oL hb
  have l2:(p1.length:Int)<((p2++t::suf).length:Int):=by rw[e];exact l9 _ _ _
  have r2:rd (p2++t::suf) (p1.length:Int)=t:=by rw[e];exact nZ _ _ _
  refine Ev.step (fun k=>by simp only [oO.l0,l9,nn,if_true,nZ,mG (t:=t) hp,l2,r2]<;>exact rfl) ?_
  rw[mF p1 t suf,mF p2 t suf]
  exact ih (p1++[t]) (p2++[t]) (by simp[e]) (rf hb)
theorem Gr (l:List Int) (hb:(l.length:Int)<big):Ev (fun k=>oO.f k l l) true:=by
 unfold oO.f
 simp only [if_true]
 exact Gq l [] [] rfl hb
theorem Gp:∀ (suf p1 p2:List (List Int)),p1.length=p2.length->((p1++suf).length:Int)<big->tot suf<=1048576->
  Ev (fun k=>oD.l0 k (p1++suf) (p2++suf) (p1.length:Int)) true:=by
 intro suf
 induction suf with
 |nil=>
  intro p1 p2 e hb ht
  refine Ev.step (fun k=>by simp only [oD.l0,oF,if_false]<;>exact rfl) ?_
  exact Ev.val rfl
 |cons t suf ih=>
  intro p1 p2 e hb ht
  simp only [tot]at ht
  have hp:(p1.length:Int)<big:=oL hb
  have l2:(p1.length:Int)<((p2++t::suf).length:Int):=by rw[e];exact l9 _ _ _
  have r2:mQ (p2++t::suf) (p1.length:Int)=t:=by rw[e];exact xG _ _ _
  refine Ev.step (fun k=>by simp only [oD.l0,l9,nn,if_true,xG,mG (t:=t) hp,l2,r2]<;>exact rfl) (Ev.bind (Gr t (by unfold big;omega)) ?_)
  simp only [if_true]
  rw[mF p1 t suf,mF p2 t suf]
  exact ih (p1++[t]) (p2++[t]) (by simp[e]) (rf hb) (by omega)
theorem y9 (l:List (List Int)) (hb:(l.length:Int)<big) (ht:tot l<=1048576):Ev (fun k=>oD.f k l l) true:=by
 unfold oD.f
 simp only [if_true]
 exact Gp l [] [] rfl hb ht
theorem Jl (pre:List S59) (z t:S59) (suf:List S59):(pre++z::suf).set ((pre.length:Int)).toNat t=pre++t::suf:=by simp
theorem IY (pre:List S59) (t:S59) (suf:List S59):jQ (pre++t::suf) (pre.length:Int)=t:=by
 unfold jQ;exact tq pre t suf _
theorem Ii:∀ (suf pre:List S59) (x:Int),((pre++suf).length:Int)<=1048576->0<=x->x+2*(suf.length:Int)<=4000000000->
  ∃l,Ev (fun k=>pY.l0 k (pre++suf) x (pre.length:Int)) (x+2*suf.length,l):=by
 intro suf
 induction suf with
 |nil=>
  intro pre x hb h0 h1
  refine⟨pre++[],Ev.step (fun k=>by simp only [pY.l0,oF,if_false]<;>exact rfl) (Ev.val (by simp))⟩
 |cons t suf ih=>
  intro pre x hb h0 h1
  have hb':((pre++t::suf).length:Int)<big:=by unfold big;omega
  have hp:(pre.length:Int)<big:=oL hb'
  simp only [List.length_cons]at h1
  have w1:wrap64 (x+1)=x+1:=w64 (by omega) (by omega)
  have w2:wrap64 (x+1+1)=x+2:=by rw[w64 (by omega) (by omega)];omega
  obtain⟨l,hl⟩:=ih (pre++[(⟨x,x+1⟩:S59)]) (x+2) (by rw[List.length_append,List.length_append]at*;simp at hb⊢;omega) (by omega) (by omega)
  refine⟨l,?_⟩
  refine Ev.step (fun k=>by simp only [pY.l0,l9,nn,if_true,Option.bind_some,IY,Jl,w1,w2,mG (t:=t) hp]<;>exact rfl) ?_
  have e1:((pre++[t]).length:Int)=((pre++[(⟨x,x+1⟩:S59)]).length:Int):=by simp
  rw[mF pre (⟨x,x+1⟩:S59) suf,e1]
  refine Ev.eq hl ?_
  simp only [List.length_cons,Prod.mk.injEq,and_true]
  omega
theorem Ih (n:Int) (E:List S59) (hE:(E.length:Int)<=1048576):∃l,Ev (fun k=>uu.f k n E 1) (1+2*(E.length:Int),l):=by
 unfold uu.f pY.f
 obtain⟨l,hl⟩:=Ii E [] 1 hE (by omega) (by omega)
 exact⟨l,Ev.bind hl (Ev.val rfl)⟩
def marks:Int->List Int->List Int
 |_,[]=>[]
 |x,_::r=>x::marks (x+1) r
theorem Jj (pre:List Int) (z t:Int) (suf:List Int):(pre++z::suf).set ((pre.length:Int)).toNat t=(pre++[t])++suf:=by simp
theorem Ig:∀ (suf pre:List Int) (x:Int),((pre++suf).length:Int)<=1048576->0<=x->x+(suf.length:Int)<=4000000000->
  Ev (fun k=>qi.l0 k (pre++suf) x (pre.length:Int)) (x+suf.length,pre++marks x suf):=by
 intro suf
 induction suf with
 |nil=>
  intro pre x hb h0 h1
  refine Ev.step (fun k=>by simp only [qi.l0,oF,if_false]<;>exact rfl) (Ev.val (by simp[marks]))
 |cons t suf ih=>
  intro pre x hb h0 h1
  have hb':((pre++t::suf).length:Int)<big:=by unfold big;omega
  have hp:(pre.length:Int)<big:=oL hb'
  simp only [List.length_cons]at h1
  have w1:wrap64 (x+1)=x+1:=w64 (by omega) (by omega)
  refine Ev.step (fun k=>by simp only [qi.l0,l9,nn,if_true,Jj,w1,mG (t:=x) hp]<;>exact rfl) ?_
  refine Ev.eq (ih (pre++[x]) (x+1) (by rw[List.length_append,List.length_append]at*;simp at hb⊢;omega) (by omega) (by omega)) ?_
  simp only [marks,List.append_assoc,List.cons_append,List.nil_append,List.length_cons,Prod.mk.injEq,and_true]
  omega
theorem G7:∀ (suf pre:List Int) (x:Int),((pre++suf).length:Int)<=1048576->0<=x->x+(suf.length:Int)<=4000000000->
  Ev (fun k=>qh.l0 k (pre++marks x suf) x (pre.length:Int)) (x+suf.length):=by
 intro suf
 induction suf with
 |nil=>
  intro pre x hb h0 h1
  refine Ev.step (fun k=>by simp only [qh.l0,marks,oF,if_false]<;>exact rfl) (Ev.val (by simp))
 |cons t suf ih=>
  intro pre x hb h0 h1
  have hp:(pre.length:Int)<big:=by rw[List.length_append]at hb;unfold big;omega
  simp only [List.length_cons]at h1
  have w1:wrap64 (x+1)=x+1:=w64 (by omega) (by omega)
  refine Ev.step (fun k=>by simp only [qh.l0,marks,l9,nn,if_true,nZ,w1,mG (t:=x) hp]<;>exact rfl) ?_
  rw[mF pre x (marks (x+1) suf)]
  refine Ev.eq (ih (pre++[x]) (x+1) (by rw[List.length_append,List.length_append]at*;simp at hb⊢;omega) (by omega) (by omega)) ?_
  simp only [List.length_cons]
  omega
def rX:Int->List (List Int)->List (List Int)
 |_,[]=>[]
 |x,r::rs=>marks x r::rX (x+r.length) rs
theorem Jk (pre:List (List Int)) (z t:List Int) (suf:List (List Int)):(pre++z::suf).set ((pre.length:Int)).toNat t=(pre++[t])++suf:=by simp
theorem Ie:∀ (suf pre:List (List Int)) (x:Int),((pre++suf).length:Int)<big->(∀r∈suf,(r.length:Int)<=1048576)->0<=x->x+(tot suf:Int)<=4000000000->
  Ev (fun k=>nN.l0 k (pre++suf) x (pre.length:Int)) (x+(tot suf:Int),pre++rX x suf):=by
 intro suf
 induction suf with
 |nil=>
  intro pre x hb hr h0 h1
  refine Ev.step (fun k=>by simp only [nN.l0,oF,if_false]<;>exact rfl) (Ev.val (by simp[rX,tot]))
 |cons t suf ih=>
  intro pre x hb hr h0 h1
  have hp:(pre.length:Int)<big:=oL hb
  simp only [tot]at h1
  have m:=Ig t [] x (hr t List.mem_cons_self) h0 (by omega)
  simp only [List.nil_append,List.length_nil]at m
  refine Ev.step (fun k=>by simp only [nN.l0,qi.f,l9,nn,if_true,xG,mG (t:=marks x t) hp]<;>exact rfl) (Ev.bind m ?_)
  simp only [Jk]
  refine Ev.eq (ih (pre++[marks x t]) (x+t.length) (by rw[List.length_append,List.length_append]at*;simp at hb⊢;omega) (fun r h=>hr r (List.mem_cons_of_mem _ h)) (by omega) (by omega)) ?_
  simp only [rX,tot,List.append_assoc,List.cons_append,List.nil_append,Prod.mk.injEq,and_true]
  omega
theorem G6:∀ (suf pre:List (List Int)) (x:Int),((pre++suf).length:Int)<big->(∀r∈suf,(r.length:Int)<=1048576)->0<=x->x+(tot suf:Int)<=4000000000->
  Ev (fun k=>oK.l0 k (pre++rX x suf) x (pre.length:Int)) (x+(tot suf:Int)):=by
 intro suf
 induction suf with
 |nil=>
  intro pre x hb hr h0 h1
  refine Ev.step (fun k=>by simp only [oK.l0,rX,oF,if_false]<;>exact rfl) (Ev.val (by simp[tot]))
 |cons t suf ih=>
  intro pre x hb hr h0 h1
  have hp:(pre.length:Int)<big:=oL hb
  simp only [tot]at h1
  have m:=G7 t [] x (hr t List.mem_cons_self) h0 (by omega)
  simp only [List.nil_append,List.length_nil]at m
  have q0:¬x+(t.length:Int)<0:=by omega
  refine Ev.step (fun k=>by simp only [oK.l0,qh.f,rX,l9,nn,if_true,xG,mG (t:=marks x t) hp]<;>exact rfl) (Ev.bind m ?_)
  simp only [if_neg q0]
  rw[mF pre (marks x t) (rX (x+t.length) suf)]
  refine Ev.eq (ih (pre++[marks x t]) (x+t.length) (by rw[List.length_append,List.length_append]at*;simp at hb⊢;omega) (fun r h=>hr r (List.mem_cons_of_mem _ h)) (by omega) (by omega)) ?_
  simp only [tot]
  omega
theorem Ic (l:List (List Int)) (hl:(l.length:Int)<big) (hr:∀r∈l,(r.length:Int)<=1048576) (ht:(tot l:Int)<=3000000000):Ev (fun k=>nN.f k l 1) (1+(tot l:Int),rX 1 l):=by
 unfold nN.f
 exact Ie l [] 1 hl hr (by omega) (by omega)
theorem C9 (l:List (List Int)) (hl:(l.length:Int)<big) (hr:∀r∈l,(r.length:Int)<=1048576) (ht:(tot l:Int)<=3000000000):Ev (fun k=>oK.f k (rX 1 l) 1) (1+(tot l:Int)):=by
 unfold oK.f
 exact G6 l [] 1 hl hr (by omega) (by omega)
theorem Ei:∀ {r:List (List Int)}(h:∀x∈r,x.length<=10),tot r<=10*r.length
 |[],_=>by simp[tot]
 |x::r,h=>by
  have h1:=h x List.mem_cons_self
  have h2:=Ei (r:=r) (fun y hy=>h y (List.mem_cons_of_mem _ hy))
  simp only [tot,List.length_cons]
  omega
theorem Ez (n:Int) (l:List nu) (hl:l.length<=9223372036854775807):∃k,nM.f k n l=some true:=by
 refine Ev.rounds ?_
 unfold nM.f
 simp only [Ju n l 1048576 (by omega) (by omega) hl,Option.bind_some]
 by_cases d:1048576 - (l.length:Int)<0
 ·simp only [if_pos d];exact Ev.val rfl
 simp only [if_neg d]
 have hL:(l.length:Int)<=1048576:=by omega
 have hLb:(l.length:Int)<big:=by unfold big;omega
 obtain⟨⟨rows,b⟩,w,s1,s2,_,_⟩:=Fu n l hLb
 have w1:=w.1
 have w2:=w.2
 simp only at w1 w2
 have hT:=Ei (r:=rows) (fun x hx=>(w2 x hx).2)
 have hrb:(rows.length:Int)<big:=by unfold big;omega
 have hr20:∀r∈rows,(r.length:Int)<=1048576:=fun r hr=>by have:=(w2 r hr).2;omega
 have hT1:tot rows<=1048576:=by omega
 have hT2:(tot rows:Int)<=3000000000:=by omega
 obtain⟨ml,hml⟩:=Ih n l hL
 refine Ev.bind (xM n l hL) ?_
 refine Ev.bind s1 ?_
 refine Ev.bind (xM n l hL) ?_
 refine Ev.bind s2 ?_
 refine Ev.bind (y9 rows hrb hT1) ?_
 simp only [if_true]
 have bb:(b !=b)=false:=by simp
 refine Ev.step (fun k=>by simp only [nM.j0,bb,Bool.false_eq_true,if_false]<;>exact rfl) ?_
 refine Ev.bind (xM n l hL) ?_
 refine Ev.bind (Gs n l hLb) ?_
 simp only [if_true]
 refine Ev.bind hml ?_
 have m0:¬1+2*(l.length:Int)<0:=by omega
 simp only [if_neg m0]
 refine Ev.bind (y9 rows hrb hT1) ?_
 simp only [if_true]
 refine Ev.step (fun k=>by simp only [nM.j1,bb,Bool.false_eq_true,if_false]<;>exact rfl) ?_
 refine Ev.bind (Ic rows hrb hr20 hT2) ?_
 refine Ev.bind (C9 rows hrb hr20 hT2) ?_
 have q0:¬1+(tot rows:Int)<0:=by omega
 simp only [if_neg q0,if_true]
 refine Ev.bind (xM n l hL) ?_
 refine Ev.bind s2 ?_
 refine Ev.bind (y9 rows hrb hT1) ?_
 simp only [if_true]
 refine Ev.step (fun k=>by simp only [nM.j2,bb,Bool.false_eq_true,if_false]<;>exact rfl) ?_
 refine Ev.bind (C9 rows hrb hr20 hT2) ?_
 simp only [if_neg q0,if_true]
 exact Ev.val rfl
end Go.Proofs.Ytgeonpciodepgaa.P
namespace Go.Proofs.Ytgeonpciodepgaa.P
open Go.RowKit Go.Proofs.YtgeonpciodepgaaW.PrintWords Go.ChangeShapes Go.WideShapes Go.Deep Go.Proofs.YtgeonpciodepgaaW.PrintWords.Kd
theorem I8 {H:Type}{enc:TypeId×Value->H}{w:World}{base:Nat}{spare:Nat->Bool}{held:Bool}{fuel:Nat}{cs:List Value}{x:DataW H×List MemPlace}
  (h:DataW.trod enc Try.prog w base spare held fuel 22 cs=some x):
  ∃ (A:Option Addr) (c:Nat) (l:List nu),cs=[.slice A l.length c]/\l.length<=c/\Kd.C sJ w A l.length l/\∀t∈l,(Lit.int .i64 t.f0).wf=true/\(Lit.int .i64 t.f1).wf=true:=by
 rcases open_slice_pairs Try.underlying22 Try.underlying100 (by kernel_rfl) rfl rfl (by kernel_rfl) (by kernel_rfl) h with⟨rfl,_⟩|⟨a,len,cap,m,n,V0,V1,D0,D1,P0,P1,rfl,hb,hl,hm,hmm,hx,hi⟩
 ·exact⟨none,0,[],rfl,Nat.le_refl _,⟨rfl,by simp,fun h=>by simp at h⟩,fun t ht=>by simp at ht⟩
 have hlm:len<=m:=by rw[hmm];split<;>omega
 have key:∀i,i<len->∃t:nu,w.cell? (a.add (i*2))=some (.int .i64 t.f0)/\w.cell? (a.add (i*2+1))=some (.int .i64 t.f1)/\(Lit.int .i64 t.f0).wf=true/\(Lit.int .i64 t.f1).wf=true:=by
  intro i hil
  obtain⟨h0,h1,r0,r1⟩:=hi i (by omega)
  obtain⟨n0,e0,_,w0⟩:=DataW.trod_int Try.underlying3 r0
  obtain⟨n1,e1,_,w1⟩:=DataW.trod_int Try.underlying3 r1
  simp only [List.cons.injEq,and_true]at e0 e1
  exact⟨⟨n0,n1⟩,by rw[h0,e0],by rw[h1,e1],w0,w1⟩
 haveI:Inhabited nu:=⟨zS⟩
 obtain⟨f,hf⟩:=choose_lt key
 refine⟨some a,cap,(List.range len).map f,by simp,by simpa using hl,⟨by simp,?_,fun _=>⟨a,rfl,fun j p hj=>?_⟩⟩,fun t ht=>?_⟩
 ·unfold maxLen at hm;simp;omega
 ·obtain⟨hj1,hj2⟩:=List.getElem?_eq_some_iff.1 hj
  simp at hj1 hj2
  obtain⟨h0,h1,_,_⟩:=hf j hj1
  subst hj2
  refine⟨[.int .i64 (f j).f0,.int .i64 (f j).f1],rfl,Hf w (f j),fun i u hu=>?_⟩
  match i,hu with
  |0,hu=>simp at hu;subst hu;exact h0
  |1,hu=>simp at hu;subst hu;exact h1
 simp at ht
 obtain⟨i,hil,rfl⟩:=ht
 exact(hf i hil).2.2
end Go.Proofs.Ytgeonpciodepgaa.P
