/- The proof's parts ahead of the row: of no condition of their own. -/
import Derived.Test.YtgeonpciodepgaaZFnEarBridge4
import Derived.Deep.Slices
import Derived.ProofKit
set_option linter.unusedVariables false
set_option linter.unusedSimpArgs false
namespace Go.Proofs.Ytgeonpciodepgaa.G
open Go.RowKit Go.Proofs.YtgeonpciodepgaaW.PrintWords
abbrev big:Int:=4611686018427387904
theorem w64 {x:Int}(h0: -9223372036854775808<=x) (h1:x<=9223372036854775807):wrap64 x=x:=by
 unfold wrap64
 omega
theorem qV {α:Type}(pre:List α) (t:α) (suf:List α):(pre.length:Int)<((pre++t::suf).length:Int):=by
 simp;omega
theorem uj {α:Type}(pre:List α):¬ (pre.length:Int)<((pre++[]).length:Int):=by
 simp
theorem nn (n:Nat):0<=(n:Int):=Int.natCast_nonneg n
theorem ry {α:Type}(pre:List α) (t:α) (suf:List α):pre++t::suf=(pre++[t])++suf:=by simp
theorem rC {α:Type}{pre:List α}{t:α}(h:(pre.length:Int)<big):wrap64 ((pre.length:Int)+1)=((pre++[t]).length:Int):=by
 rw[w64 (by omega) (by unfold big at h;omega)];simp
theorem za {α:Type}(pre:List α) (t:α) (suf:List α) (d:α):(pre++t::suf).getD ((pre.length:Int)).toNat d=t:=by
 simp[List.getD]
theorem sO (pre:List Int) (t:Int) (suf:List Int):rd (pre++t::suf) (pre.length:Int)=t:=by
 unfold rd;exact za pre t suf 0
theorem IA {α:Type}(d:α) (pre:List α) (t:α) (suf:List α):qz d (pre++t::suf) (pre.length:Int)=t:=by
 unfold qz;exact za pre t suf d
theorem ui {α:Type}{pre:List α}{t:α}{suf:List α}(h:((pre++t::suf).length:Int)<big):(pre.length:Int)<big:=by
 simp at h;unfold big at*;omega
theorem wY {α:Type}{pre:List α}{t:α}{suf:List α}(h:((pre++t::suf).length:Int)<big):(((pre++[t])++suf).length:Int)<big:=by
 rw[←ry];exact h
theorem Ev.const {α β:Type}{a:Option α}{f:Nat->α->Option β}{x:α}{r:β}(h:a=some x) (k:Ev (fun n=>f n x) r):Ev (fun n=>a.bind (f n)) r:=by
 subst h;exact k
theorem Ev.val {α:Type}{a:Option α}{r:α}(h:a=some r):Ev (fun _=>a) r:=⟨0,fun _ _=>h⟩
theorem Ev.eq {α:Type}{g:Nat->Option α}{r s:α}(h:Ev g r) (e:r=s):Ev g s:=e▸h
def tlt (s t:Tie):Prop:=s.f0<t.f0\/s.f0=t.f0/\s.f1<t.f1
instance(s t:Tie):Decidable (tlt s t):=by unfold tlt;infer_instance
def inr (n:Int) (t:Tie):Prop:=0<=t.f0/\t.f0<t.f1/\t.f1<n
instance(n:Int) (t:Tie):Decidable (inr n t):=by unfold inr;infer_instance
def asc:List Tie->Prop
 |[]=>True
 |[_]=>True
 |a::b::r=>tlt a b/\asc (b::r)
instance Km:(l:List Tie)->Decidable (asc l)
 |[]=>isTrue trivial
 |[_]=>isTrue trivial
 |a::b::r=>by
  have:=Km (b::r)
  unfold asc
  infer_instance
def ok (n:Int) (E:List Tie):Prop:=0<=n/\n<=8/\(∀t∈E,inr n t)/\asc E
instance(n:Int) (E:List Tie):Decidable (ok n E):=by unfold ok;infer_instance
theorem NV {a b c:Tie}(h:tlt a b) (k:tlt b c):tlt a c:=by
 unfold tlt at*;omega
theorem NU (a:Tie):¬tlt a a:=by unfold tlt;omega
theorem FR {a:Tie}{l:List Tie}:asc (a::l)↔(∀t∈l,tlt a t)/\asc l:=by
 induction l generalizing a with
 |nil=>simp[asc]
 |cons b r ih=>
  constructor
  ·intro h
   obtain⟨h1,h2⟩:=h
   refine⟨fun t ht=>?_,h2⟩
   rcases List.mem_cons.1 ht with rfl|ht
   ·exact h1
   exact NV h1 ((ih.1 h2).1 t ht)
  rintro⟨h1,h2⟩
  exact⟨h1 b (List.mem_cons_self),h2⟩
theorem FT {l:List Tie}:asc l↔l.Pairwise tlt:=by
 induction l with
 |nil=>simp[asc]
 |cons a l ih=>rw[FR,List.pairwise_cons,ih]
theorem Kq {l:List Tie}(h:asc l):l.Nodup:=by
 rw[FT]at h
 exact h.imp (fun{a b} hab e=>by subst e;exact NU a hab)
theorem FU {l m:List Tie}(h:asc m) (s:l.Sublist m):asc l:=by
 rw[FT]at*;exact h.sublist s
theorem Kn {l:List Tie}(p:Tie->Bool) (h:asc l):asc (l.filter p):=FU h List.filter_sublist
theorem MF {n:Int}{E:List Tie}(p:Tie->Bool) (h:ok n E):ok n (E.filter p):=
 ⟨h.1,h.2.1,fun t ht=>h.2.2.1 t (List.mem_filter.1 ht).1,Kn p h.2.2.2⟩
theorem Io {n:Int}{E F:List Tie}(h:ok n E) (s:F.Sublist E):ok n F:=
 ⟨h.1,h.2.1,fun t ht=>h.2.2.1 t (s.subset ht),FU h.2.2.2 s⟩
theorem Ko {l:List Tie}(lo:Int) (hl:∀t∈l,0<=t.f0/\t.f0<8/\0<=t.f1/\t.f1<8) (h:asc l) (hlo:∀t∈l,lo<=t.f0*8+t.f1) (h64:lo<=64):(l.length:Int)<=64 - lo:=by
 induction l generalizing lo with
 |nil=>simp;omega
 |cons a r ih=>
  obtain⟨h1,h2⟩:=FR.1 h
  have ha:=hlo a (List.mem_cons_self)
  have hb:=hl a (List.mem_cons_self)
  have:=ih (a.f0*8+a.f1+1) (fun t ht=>hl t (List.mem_cons_of_mem _ ht)) h2 (fun t ht=>by
   have:=h1 t ht
   have hc:=hl t (List.mem_cons_of_mem _ ht)
   unfold tlt at this;omega) (by omega)
  simp only [List.length_cons]
  omega
theorem uX {n:Int}{E:List Tie}(h:ok n E):(E.length:Int)<=64:=by
 have:=Ko (l:=E) 0 (fun t ht=>by have:=h.2.2.1 t ht;have:=h.2.1;unfold inr at*;omega) h.2.2.2 (fun t ht=>by have:=h.2.2.1 t ht;unfold inr at this;omega) (by omega)
 omega
end Go.Proofs.Ytgeonpciodepgaa.G
namespace Go.Proofs.Ytgeonpciodepgaa.P
open Go.RowKit Go.Proofs.YtgeonpciodepgaaW.PrintWords Go.Proofs.Ytgeonpciodepgaa.G Go.Proofs.YtgeonpciodepgaaW.PrintWords.Kd
theorem Bd (pre:List S59) (t:S59) (suf:List S59):nk (pre++t::suf) (pre.length:Int)=t:=by
  unfold nk;exact za pre t suf _
theorem CL (a b c:Int):uu.f a b c=some (decide (b<=a/\a<=c)):=by
  unfold uu.f
  by_cases h:b<=a<;>simp[h]
theorem Ew (a b c d:Int):wF.f a b c d=some (decide (tlt ⟨a,b⟩ ⟨c,d⟩)):=by
  unfold wF.f tlt
  by_cases h:a<c
  · simp[h]
  by_cases h2:a=c<;>simp[h,h2]
theorem uS {α:Type}(p:List α) (q:α) (h:((p++[q]).length:Int)<big):wrap64 (((p++[q]).length:Int) - 1)=(p.length:Int):=by
  rw[w64 (by rw[List.length_append];omega) (by unfold big at h;omega)];simp
theorem zi {α:Type}(p:List α) (q:α) (suf:List α):p++[q]++suf=p++q::suf:=by simp
theorem CQ {α:Type}(p:List α) (q:α) (suf:List α):(p.length:Int)<((p++[q]++suf).length:Int):=by simp;omega
theorem NG (n:Int) (h0:0<=n) (h8:n<=8):∀ (suf p:List S59) (q:S59),(((p++[q])++suf).length:Int)<big->
    Ev (fun k=>qh.l0 k ((p++[q]).length:Int) n ((p++[q])++suf)) (decide ((∀t∈suf,inr n t)/\asc (q::suf))):=by
  intro suf
  induction suf with
  |nil=>
    intro p q hb
    refine Ev.step (fun k=>by simp only [qh.l0,uj,if_false]<;>exact rfl) ?_
    exact Ev.val (congrArg some (decide_eq_true (by simp[asc])).symm)
  |cons t suf ih=>
    intro p q hb
    have hp:((p++[q]).length:Int)<big:=ui hb
    have e1:((p++[q]).length:Int)>0:=by rw[List.length_append,List.length_singleton];omega
    refine Ev.step (fun k=>by simp only [qh.l0,qV,nn,if_true,Bd,CL,Ew,Option.bind_some,e1,uS p q hp,CQ,rC (t:=t) hp]<;>exact rfl) ?_
    have e2:nk (p++[q]++t::suf) (p.length:Int)=q:=by rw[zi];exact Bd p q _
    simp only [e2,decide_eq_true_eq]
    rw[w64 (by omega) (by omega)]
    by_cases c1:0<=t.f0/\t.f0<=n - 1
    · simp only [if_pos c1]
      rw[w64 (by omega) (by omega)]
      by_cases c2:t.f0+1<=t.f1/\t.f1<=n - 1
      · simp only [if_pos c2]
        have ht:inr n t:=by unfold inr;omega
        by_cases c3:tlt q t
        · simp only [if_pos c3]
          rw[ry (p++[q]) t suf]
          refine Ev.eq (ih (p++[q]) t (wY hb)) ?_
          rw[decide_eq_decide]
          simp[asc,ht,c3]
        simp only [if_neg c3]
        exact Ev.val (by simp[asc,c3])
      simp only [if_neg c2]
      refine Ev.val ?_
      have:¬inr n t:=by unfold inr;omega
      simp[this]
    simp only [if_neg c1]
    refine Ev.val ?_
    have:¬inr n t:=by unfold inr;omega
    simp[this]
theorem yC (n:Int) (E:List S59) (hb:(E.length:Int)<big):Ev (fun k=>qh.f k n E) (decide (ok n E)):=by
  unfold qh.f
  simp only [CL,Option.bind_some,decide_eq_true_eq]
  by_cases c1:0<=n/\n<=8;rotate_left
  · simp only [if_neg c1]
    refine Ev.step (fun k=>by simp only [qh.j0,if_true]<;>exact rfl) ?_
    refine Ev.val ?_
    have:¬ok n E:=fun h=>c1 ⟨h.1,h.2.1⟩
    simp[this]
  simp only [if_pos c1]
  by_cases c2:(E.length:Int)>64
  · refine Ev.step (fun k=>by simp only [qh.j0,c2,decide_true,if_true]<;>exact rfl) ?_
    exact Ev.val (by rw[decide_eq_false (fun h=>by have:=uX h;omega)])
  refine Ev.step (fun k=>by simp only [qh.j0,c2,decide_false,Bool.false_eq_true,if_false]<;>exact rfl) ?_
  cases E with
  |nil=>
    refine Ev.step (fun k=>by simp[qh.l0]<;>exact rfl) ?_
    exact Ev.val (by simp[ok,asc,c1])
  |cons t suf=>
    have l1:(0:Int)<((t::suf).length:Int):=by rw[List.length_cons];omega
    have r1:nk (t::suf) 0=t:=rfl
    have h0:(0:Int)<=0:=Int.le_refl 0
    have w1:wrap64 (0+1)=1:=w64 (by omega) (by omega)
    have g1:¬ (0:Int)>0:=by omega
    refine Ev.step (fun k=>by simp only [qh.l0,l1,h0,if_true,r1,CL,Option.bind_some,w1,g1,if_false,decide_eq_true_eq]<;>exact rfl) ?_
    rw[w64 (by omega) (by omega)]
    by_cases d1:0<=t.f0/\t.f0<=n - 1
    · simp only [if_pos d1]
      rw[w64 (by omega) (by omega)]
      by_cases d2:t.f0+1<=t.f1/\t.f1<=n - 1
      · simp only [if_pos d2]
        have ht:inr n t:=by unfold inr;omega
        refine Ev.eq (NG n c1.1 c1.2 suf [] t hb) ?_
        rw[decide_eq_decide]
        simp[ok,c1,ht]
      simp only [if_neg d2]
      refine Ev.val ?_
      have:¬inr n t:=by unfold inr;omega
      simp[this,ok]
    simp only [if_neg d1]
    refine Ev.val ?_
    have:¬inr n t:=by unfold inr;omega
    simp[this,ok]
def zP (x y:Int):Int:=if x<y then -1 else if y<x then 1 else 0
theorem cmp_eq (a b:Int):cmp_Compare_int.f a b=some (zP a b):=by
  unfold cmp_Compare_int.f zP
  simp only [cmp_isNaN_int.f,bne_self_eq_false,Option.bind_some,Bool.false_eq_true,if_false]
  repeat' split
  all_goals first|rfl|omega
def ord (a b c d:Int):Int:=if zP a c=0 then zP b d else zP a c
theorem MI (a b c d:Int):ord a b c d>=0↔¬tlt ⟨a,b⟩ ⟨c,d⟩:=by
  unfold ord zP tlt
  simp only
  repeat' split
  all_goals omega
theorem MH (x y:Int):Ev (fun k=>sJ.f k [x,y]) (if x=0 then y else x):=by
  unfold sJ.f
  have l:(([x,y]:List Int).length:Int)=2:=rfl
  have r0:rd [x,y] 0=x:=rfl
  have r1:rd [x,y] 1=y:=rfl
  have h0:(0:Int)<=0:=Int.le_refl 0
  have a1:(0:Int)<=1:=by omega
  have a2:(0:Int)<2:=by omega
  have a3:(1:Int)<2:=by omega
  have a4:¬ (2:Int)<2:=by omega
  have w1:wrap64 (0+1)=1:=w64 (by omega) (by omega)
  have w2:wrap64 (1+1)=2:=w64 (by omega) (by omega)
  refine Ev.step (fun k=>by simp only [sJ.l0,l,r0,h0,a2,if_true,w1]<;>exact rfl) ?_
  by_cases c:x=0
  · simp only [if_pos c]
    refine Ev.step (fun k=>by simp only [sJ.l0,l,r1,a1,a3,if_true,w2]<;>exact rfl) ?_
    by_cases d:y=0
    · simp only [if_pos d]
      refine Ev.step (fun k=>by simp only [sJ.l0,a4,if_false]<;>exact rfl) ?_
      exact Ev.val (by rw[d])
    simp only [if_neg d]
    exact Ev.val rfl
  simp only [if_neg c]
  exact Ev.val rfl
theorem MJ (a b c d:Int):Ev (fun k=>tL.f k a b c d) (ord a b c d):=by
  unfold tL.f
  simp only [cmp_eq,Option.bind_some]
  exact Ev.bind (MH _ _) (Ev.val rfl)
theorem Kt:∀ (suf p:List S59) (q:S59),(((p++[q])++suf).length:Int)<big->
    Ev (fun k=>rq.l0 k ((p++[q])++suf) ((p++[q]).length:Int)) (decide (asc (q::suf))):=by
  intro suf
  induction suf with
  |nil=>
    intro p q hb
    refine Ev.step (fun k=>by simp only [rq.l0,uj,if_false]<;>exact rfl) ?_
    exact Ev.val (congrArg some (decide_eq_true (by simp[asc])).symm)
  |cons t suf ih=>
    intro p q hb
    have hp:((p++[q]).length:Int)<big:=ui hb
    have e2:nk (p++[q]++t::suf) (p.length:Int)=q:=by rw[zi];exact Bd p q _
    refine Ev.step (fun k=>by simp only [rq.l0,qV,nn,if_true,Bd,uS p q hp,CQ,rC (t:=t) hp,e2]<;>exact rfl) ?_
    refine Ev.bind (MJ _ _ _ _) ?_
    simp only [MI]
    by_cases c3:tlt q t
    · simp only [c3,not_true_eq_false,if_false]
      rw[ry (p++[q]) t suf]
      refine Ev.eq (ih (p++[q]) t (wY hb)) ?_
      rw[decide_eq_decide]
      simp[asc,c3]
    simp only [c3,not_false_eq_true,if_true]
    exact Ev.val (by simp[asc,c3])
theorem Kr (E:List S59) (hb:(E.length:Int)<big):Ev (fun k=>rq.f k E) (decide (asc E)):=by
  unfold rq.f
  cases E with
  |nil=>
    refine Ev.step (fun k=>by simp[rq.l0]<;>exact rfl) ?_
    exact Ev.val (congrArg some (decide_eq_true (by simp[asc])).symm)
  |cons t suf=>exact Kt suf [] t hb
theorem LJ (n:Int) (E:List S59) (hE:(E.length:Int)<big):∀ (suf p:List S59),((p++suf).length:Int)<big->
    Ev (fun k=>qL.l0 k (p++suf) ((p++suf).length:Int) (p.length:Int) n E) (decide ((∀t∈suf,inr n t)/\asc E)):=by
  intro suf
  induction suf with
  |nil=>
    intro p hb
    refine Ev.step (fun k=>by simp only [qL.l0,uj,if_false]<;>exact rfl) ?_
    refine Ev.bind (Kr E hE) ?_
    exact Ev.val (by simp)
  |cons t suf ih=>
    intro p hb
    have hp:(p.length:Int)<big:=ui hb
    refine Ev.step (fun k=>by simp only [qL.l0,qV,nn,if_true,Bd,rC (t:=t) hp]<;>exact rfl) ?_
    by_cases c1:t.f0<0
    · simp only [if_pos c1]
      exact Ev.val (by have:¬inr n t:=by unfold inr;omega
                       simp[this])
    simp only [if_neg c1]
    by_cases c2:t.f0>=t.f1
    · simp only [if_pos c2]
      exact Ev.val (by have:¬inr n t:=by unfold inr;omega
                       simp[this])
    simp only [if_neg c2]
    by_cases c3:t.f1>=n
    · simp only [if_pos c3]
      exact Ev.val (by have:¬inr n t:=by unfold inr;omega
                       simp[this])
    simp only [if_neg c3]
    rw[ry p t suf]
    refine Ev.eq (ih (p++[t]) (wY hb)) ?_
    have:inr n t:=by unfold inr;omega
    rw[decide_eq_decide]
    simp[this]
theorem Hr (n:Int) (E:List S59) (hb:(E.length:Int)<big):Ev (fun k=>qL.f k n E) (decide (ok n E)):=by
  unfold qL.f
  by_cases c1:n<0
  · simp only [if_pos c1]
    refine Ev.step (fun k=>by simp only [qL.j0,if_true]<;>exact rfl) ?_
    exact Ev.val (by have:¬ok n E:=fun h=>by have:=h.1;omega
                     simp[this])
  simp only [if_neg c1]
  by_cases c2:n>8
  · refine Ev.step (fun k=>by simp only [qL.j0,c2,decide_true,if_true]<;>exact rfl) ?_
    exact Ev.val (by have:¬ok n E:=fun h=>by have:=h.2.1;omega
                     simp[this])
  refine Ev.step (fun k=>by simp only [qL.j0,c2,decide_false,Bool.false_eq_true,if_false]<;>exact rfl) ?_
  refine Ev.eq (LJ n E hb E [] hb) ?_
  rw[decide_eq_decide]
  unfold ok
  constructor
  · exact fun h=>⟨by omega,by omega,h.1,h.2⟩
  exact fun h=>⟨h.2.2.1,h.2.2.2⟩
end Go.Proofs.Ytgeonpciodepgaa.P
namespace Go.Proofs.Ytgeonpciodepgaa.G
def oM (a b:Int):Tie:=if a<b then⟨a,b⟩ else⟨b,a⟩
theorem Af (a b:Int):oM a b=oM b a:=by
 unfold oM
 rcases Int.lt_trichotomy a b with h|h|h
 ·rw[if_pos h,if_neg (by omega)]
 ·subst h;rfl
 rw[if_neg (by omega),if_pos h]
theorem NP {a b:Int}(h:a<b):oM a b=⟨a,b⟩:=by unfold oM;rw[if_pos h]
end Go.Proofs.Ytgeonpciodepgaa.G
namespace Go.Proofs.Ytgeonpciodepgaa.P
open Go.RowKit Go.Proofs.YtgeonpciodepgaaW.PrintWords Go.Proofs.Ytgeonpciodepgaa.G Go.Proofs.YtgeonpciodepgaaW.PrintWords.Kd
theorem z_ (pre:List S59) (t:S59) (suf:List S59):nk (pre++t::suf) (pre.length:Int)=t:=by
 unfold nk;exact za pre t suf _
theorem zg (a b:Int):tJ.f a b=some ((oM a b).f0,(oM a b).f1):=by
 unfold tJ.f oM
 by_cases h:a<b<;>simp[h]
theorem IZ (s t:Tie):(s.f0==t.f0&&(s.f1==t.f1))=decide (s=t):=by
 obtain⟨a,b⟩:=s
 obtain⟨c,d⟩:=t
 simp only [Tie.mk.injEq]
 by_cases h:a=c<;>by_cases k:b=d<;>simp[h,k]
theorem LY (n a b:Int):∀ (suf p:List S59),((p++suf).length:Int)<big->
  Ev (fun k=>sI.l0 k a b (p.length:Int) n (p++suf)) (decide (oM a b∈suf)):=by
 intro suf
 induction suf with
 |nil=>
  intro p hb
  refine Ev.step (fun k=>by simp only [sI.l0,uj,if_false]<;>exact rfl) ?_
  exact Ev.val (congrArg some (decide_eq_false (by simp)).symm)
 |cons t suf ih=>
  intro p hb
  have hp:(p.length:Int)<big:=ui hb
  refine Ev.step (fun k=>by simp only [sI.l0,qV,nn,if_true,z_,rC (t:=t) hp,zg,Option.bind_some,IZ,decide_eq_true_eq]<;>exact rfl) ?_
  by_cases c:t=oM a b
  ·simp only [if_pos c]
   exact Ev.val (congrArg some (decide_eq_true (by simp[c])).symm)
  simp only [if_neg c]
  rw[ry p t suf]
  refine Ev.eq (ih (p++[t]) (wY hb)) ?_
  rw[decide_eq_decide]
  have:¬oM a b=t:=fun e=>c e.symm
  simp[this]
theorem Hy (n a b:Int) (E:List S59) (hb:(E.length:Int)<big):Ev (fun k=>sI.f k n E a b) (decide (oM a b∈E)):=by
 unfold sI.f
 exact LY n a b E [] hb
end Go.Proofs.Ytgeonpciodepgaa.P
namespace Go.Proofs.Ytgeonpciodepgaa.G
def cut (X:List Tie) (t:Tie):List Tie:=X.filter fun s=> !decide (s=t)
theorem Ie {X:List Tie}{s t:Tie}:s∈cut X t↔s∈X/\s≠t:=by
 unfold cut
 rw[List.mem_filter]
 simp
theorem Ba {n:Int}{X:List Tie}(t:Tie) (h:ok n X):ok n (cut X t):=MF _ h
theorem KQ {X:List Tie}{t:Tie}(h:t∉X):cut X t=X:=by
 unfold cut
 rw[List.filter_eq_self]
 intro s hs
 have:s≠t:=fun e=>h (e▸hs)
 simp[this]
theorem KP {X:List Tie}(hX:X.Nodup) (t:Tie):(cut X t).length+(if t∈X then 1 else 0)=X.length:=by
 induction X with
 |nil=>simp[cut]
 |cons a r ih=>
  obtain⟨h1,h2⟩:=List.nodup_cons.1 hX
  have ih:=ih h2
  by_cases e:a=t
  ·subst e
   have:cut (a::r) a=cut r a:=by simp[cut]
   rw[this,KQ h1]
   simp
  have e1:cut (a::r) t=a::cut r t:=by simp[cut,e]
  rw[e1]
  have e2:(t∈a::r)=(t∈r):=by simp[Ne.symm e]
  simp only [e2,List.length_cons]
  omega
def ties:List Int->List Tie
 |a::b::r=>oM a b::ties (b::r)
 |_=>[]
def cuts:List Tie->List Tie->Prop
 |_,[]=>True
 |X,t::r=>t∈X/\cuts (cut X t) r
instance KS:(X T:List Tie)->Decidable (cuts X T)
 |_,[]=>isTrue trivial
 |X,t::r=>by
  have:=KS (cut X t) r
  unfold cuts
  infer_instance
theorem zy:∀ (r:List Int),(ties r).length=r.length - 1
 |[]=>rfl
 |[_]=>rfl
 |a::b::r=>by
  have:=zy (b::r)
  simp only [ties,List.length_cons]at*
  omega
def I9 (n:Int) (E:List Tie) (row:List Int):Prop:=ok n E/\row.length=E.length+1/\(∀v∈row,0<=v/\v<n)/\cuts E (ties row)
instance(n:Int) (E:List Tie) (row:List Int):Decidable (I9 n E row):=by unfold I9;infer_instance
theorem vB {n a b:Int}(h:inr n (oM a b)):(0<=a/\a<n)/\(0<=b/\b<n)/\a≠b:=by
 unfold oM inr at h
 by_cases c:a<b
 ·rw[if_pos c]at h;simp only at h;omega
 rw[if_neg c]at h;simp only at h;omega
theorem I6 {n:Int}{E:List Tie}(hE:∀t∈E,inr n t):∀ (r:List Int) (a:Int),0<=a/\a<n->(∀t∈ties (a::r),t∈E)->∀v∈a::r,0<=v/\v<n
 |[],a,ha,_=>by simpa using ha
 |b::r,a,ha,h=>by
  intro v hv
  have ht:oM a b∈E:=h _ (by simp[ties])
  have hb:=(vB (hE _ ht)).2.1
  rcases List.mem_cons.1 hv with rfl|hv
  ·exact ha
  exact I6 hE r b hb (fun t ht=>h t (by simp[ties,ht])) v hv
end Go.Proofs.Ytgeonpciodepgaa.G
namespace Go.Proofs.Ytgeonpciodepgaa.P
open Go.RowKit Go.Proofs.YtgeonpciodepgaaW.PrintWords Go.Proofs.Ytgeonpciodepgaa.G Go.Proofs.YtgeonpciodepgaaW.PrintWords.Kd
theorem vQ (n a:Int) (E:List S59) (hE:(E.length:Int)<big):Ev (fun k=>rA.f k n E a) (decide (ok n E/\0<=a/\a<n)):=by
 unfold rA.f
 refine Ev.bind (yC n E hE) ?_
 by_cases c:ok n E
 ·simp only [c,decide_true,if_true,CL,Option.bind_some]
  rw[w64 (by have:=c.1;omega) (by have:=c.2.1;omega)]
  refine Ev.val (congrArg some (decide_eq_decide.2 ?_))
  exact⟨fun h=>⟨trivial,h.1,by omega⟩,fun h=>⟨h.2.1,by omega⟩⟩
 simp only [c,decide_false,Bool.false_eq_true,if_false]
 exact Ev.val (congrArg some (decide_eq_false (by simp)).symm)
theorem C_ (n a b:Int) (E:List S59) (hE:(E.length:Int)<big):Ev (fun k=>vJ.f k n E a b) (decide (ok n E/\oM a b∈E)):=by
 unfold vJ.f
 refine Ev.bind (yC n E hE) ?_
 by_cases c:ok n E
 ·simp only [c,decide_true,if_true]
  refine Ev.bind (Hy n a b E hE) ?_
  exact Ev.val (by simp)
 simp only [c,decide_false,Bool.false_eq_true,if_false]
 exact Ev.val (by simp)
theorem Eo (n:Int) (E:List S59) (hE:(E.length:Int)<=1048576):sZ.f n E=some (n,E):=by
 unfold sZ.f
 have:([]:List S59).length+E.length<8796093022208:=by simp;omega
 simp only [Option.bind_some,this,if_true,List.nil_append]
end Go.Proofs.Ytgeonpciodepgaa.P
namespace Go.Proofs.Ytgeonpciodepgaa.G
open Go.RowKit Go.Proofs.YtgeonpciodepgaaW.PrintWords
def uW (l:List Int):Prop:=∀x∈l,0<=x/\x<=255
theorem ED {l:List Int}(h:uW l) (i:Int):0<=rd l i/\rd l i<=255:=by
 unfold rd
 by_cases c:i.toNat<l.length
 ·rw[List.getD_eq_getElem?_getD,List.getElem?_eq_getElem c]
  exact h _ (List.getElem_mem c)
 rw[List.getD_eq_getElem?_getD,List.getElem?_eq_none (by omega)]
 simp
theorem Ol {a b:Int}(h0:0<=a) (h1:a<9223372036854775808) (h2:0<=b) (h3:b<9223372036854775808):0<=Go.bits .xor .i64 a b:=by
 obtain⟨x,rfl⟩:=Int.eq_ofNat_of_zero_le h0
 obtain⟨y,rfl⟩:=Int.eq_ofNat_of_zero_le h2
 have hx:x^^^y<2^63:=Nat.xor_lt_two_pow (by omega) (by omega)
 have e1:(BitVec.ofInt 64 (x:Int)).toNat=x:=by
  rw[BitVec.ofInt_natCast,BitVec.toNat_ofNat];exact Nat.mod_eq_of_lt (by omega)
 have e2:(BitVec.ofInt 64 (y:Int)).toNat=y:=by
  rw[BitVec.ofInt_natCast,BitVec.toNat_ofNat];exact Nat.mod_eq_of_lt (by omega)
 show 0<=IntKind.i64.wrap ((BitVec.ofInt 64 (x:Int)^^^BitVec.ofInt 64 (y:Int)).toNat:Int)
 rw[BitVec.toNat_xor,e1,e2]
 simp[IntKind.wrap,IntKind.bits,IntKind.signed]
 omega
theorem Dh {a b:Int}(h:0<=a) (hb:0<b):0<=Int.tmod a b/\Int.tmod a b<b:=by
 rw[Int.tmod_eq_emod_of_nonneg h]
 exact⟨Int.emod_nonneg _ (by omega),Int.emod_lt_of_pos _ hb⟩
theorem IY {a b:Int}(h:0<=a) (hb:0<=b):0<=Int.tdiv a b/\Int.tdiv a b<=a:=by
 rw[Int.tdiv_eq_ediv_of_nonneg h]
 exact⟨Int.ediv_nonneg h hb,Int.ediv_le_self _ h⟩
def qP (lo hi:Int) (M:Nat) (c p:Int) (r:Int×List Tie×Int):Prop:=lo<=r.1/\r.1<=hi/\r.2.1.length<=M/\p<=r.2.2/\r.2.2<=p+c
end Go.Proofs.Ytgeonpciodepgaa.G
namespace Go.Proofs.Ytgeonpciodepgaa.P
open Go.RowKit Go.Proofs.YtgeonpciodepgaaW.PrintWords Go.Proofs.Ytgeonpciodepgaa.G Go.Proofs.YtgeonpciodepgaaW.PrintWords.Kd
theorem MG (l:List Int) (h:uW l):∃s,zo.f l=some (s,0)/\uW s/\s.length<=2000:=by
 unfold zo.f
 by_cases c:(l.length:Int)>2000
 ·have c2:(2000:Int)<=(l.length:Int):=by omega
  exact⟨l.take 2000,by simp only [if_pos c,if_pos c2],fun x hx=>h x (List.mem_of_mem_take hx),List.length_take_le _ _⟩
 exact⟨l,by simp only [if_neg c],h,by omega⟩
theorem tN (s:List Int) (hs:uW s) (hl:s.length<=2000) (p n:Int) (h0:0<=p) (h1:p<=100000):
  ∃v,Ev (fun k=>o7.f k s p n) (v,p+1)/\0<=v/\(v<n\/n<1/\v=0):=by
 unfold o7.f
 rw[w64 (x:=p+1) (by omega) (by omega)]
 by_cases c:n<1
 ·refine⟨0,?_,Int.le_refl 0,.inr ⟨c,rfl⟩⟩
  simp only [if_pos c]
  exact Ev.step (fun k=>by simp only [o7.j0,if_true]<;>exact rfl) (Ev.val rfl)
 simp only [if_neg c]
 by_cases z:(s.length:Int)=0
 ·refine⟨0,?_,Int.le_refl 0,.inl (by omega)⟩
  have z':((s.length:Int)==0)=true:=beq_iff_eq.2 z
  exact Ev.step (fun k=>by simp only [o7.j0,z',if_true]<;>exact rfl) (Ev.val rfl)
 have z':((s.length:Int)==0)=false:=beq_eq_false_iff_ne.2 z
 have zp:(0:Int)<s.length:=by omega
 have e1:wrap64 (p+1 - 1)=p:=by rw[w64 (by omega) (by omega)];omega
 have n0:¬n=0:=by omega
 by_cases d:p<(s.length:Int)
 ·have hb:=ED hs p
  have t:=Dh hb.1 (b:=n) (by omega)
  refine⟨Int.tmod (rd s p) n,?_,t.1,.inl t.2⟩
  refine Ev.step (fun k=>by simp only [o7.j0,z',Bool.false_eq_true,if_false,e1,if_pos d,if_pos h0,if_neg n0,w64 (x:=rd s p) (by omega) (by omega)]<;>exact rfl) (Ev.val rfl)
 have t1:=Dh h0 zp
 have w1:wrap64 (p*7)=p*7:=w64 (by omega) (by omega)
 have w2:wrap64 (p*7+3)=p*7+3:=w64 (by omega) (by omega)
 have t2:=Dh (a:=p*7+3) (by omega) zp
 have b1:=ED hs (Int.tmod p (s.length:Int))
 have b2:=ED hs (Int.tmod (p*7+3) (s.length:Int))
 have q:=IY h0 (b:=(s.length:Int)) (by omega)
 generalize hu:rd s (Int.tmod p (s.length:Int))=u at b1
 generalize hv:rd s (Int.tmod (p*7+3) (s.length:Int))=v at b2
 generalize hy:Int.tdiv p (s.length:Int)=y at q
 have hx0:0<=u*131+v*1117+p*29+y*53:=by omega
 have hx1:u*131+v*1117+p*29+y*53<100000000:=by omega
 have q2:=IY hx0 (b:=64) (by omega)
 have w3:wrap64 (wrap64 (wrap64 (wrap64 (wrap64 u*131)+wrap64 (wrap64 v*1117))+wrap64 (p*29))+wrap64 (wrap64 y*53))=u*131+v*1117+p*29+y*53:=by
  rw[w64 (x:=u) (by omega) (by omega),w64 (x:=v) (by omega) (by omega),w64 (x:=y) (by omega) (by omega),w64 (x:=u*131) (by omega) (by omega),w64 (x:=v*1117) (by omega) (by omega),w64 (x:=y*53) (by omega) (by omega),w64 (x:=p*29) (by omega) (by omega),w64 (x:=u*131+v*1117) (by omega) (by omega),w64 (x:=u*131+v*1117+p*29) (by omega) (by omega),w64 (by omega) (by omega)]
 have w4:wrap64 (Int.tdiv (u*131+v*1117+p*29+y*53) 64)=Int.tdiv (u*131+v*1117+p*29+y*53) 64:=w64 (by omega) (by omega)
 generalize hX:u*131+v*1117+p*29+y*53=X at*
 have x0:=Ol hx0 (by omega) q2.1 (by omega)
 have t:=Dh x0 (b:=n) (by omega)
 refine⟨Int.tmod (Go.bits .xor .i64 X (Int.tdiv X 64)) n,?_,t.1,.inl t.2⟩
 refine Ev.step (fun k=>by simp only [o7.j0,z',Bool.false_eq_true,if_false,e1,if_neg d,if_neg z,w1,w2,if_pos t1.1,if_pos t1.2,if_pos t2.1,if_pos t2.2,if_neg n0,hu,hv,hy,w3,w4]<;>exact rfl) (Ev.val rfl)
theorem Kh (n m a b:Int):∀ (suf p q:List S59) (f:Bool),((p++suf).length:Int)<=1048576->q.length<=p.length+(if f then 1 else 0)->
  ∃E,Ev (fun k=>pF.l0 k f (p.length:Int) n (p++suf) m q a b) (m,E,true)/\E.length<=(p++suf).length+1:=by
 intro suf
 induction suf with
 |nil=>
  intro p q f hb hq
  have hq8:q.length<8796093022208:=by rw[List.length_append]at hb;split at hq<;>omega
  cases f with
  |true=>exact⟨q,Ev.step (fun k=>by simp only [pF.l0,uj,if_false,if_true]<;>exact rfl) (Ev.val rfl),by simpa using hq⟩
  |false=>exact⟨q++[⟨a,b⟩],Ev.step (fun k=>by simp only [pF.l0,uj,if_false,Bool.false_eq_true,if_pos hq8]<;>exact rfl) (Ev.val rfl),by simp at hq⊢;omega⟩
 |cons t suf ih=>
  intro p q f hb hq
  have hb':((p++t::suf).length:Int)<big:=by unfold big;omega
  have hp:(p.length:Int)<big:=ui hb'
  have hq8:q.length+1<8796093022208:=by rw[List.length_append]at hb;split at hq<;>omega
  have hq7:q.length<8796093022208:=by omega
  have hb2:(((p++[t])++suf).length:Int)<=1048576:=by rw[←ry];exact hb
  cases f with
  |true=>
   obtain⟨E,e1,e2⟩:=ih (p++[t]) (q++[t]) true hb2 (by simp at hq⊢;omega)
   rw[ry p t suf]
   refine⟨E,Ev.step (fun k=>by simp only [←ry,pF.l0,qV,nn,if_true,z_,rC (t:=t) hp,if_pos hq7]<;>exact rfl) ?_,e2⟩
   rw[ry p t suf]
   exact e1
  |false=>
   have s0:pF.l0=pF.l0:=rfl
   by_cases c:tlt ⟨a,b⟩ ⟨t.f0,t.f1⟩
   ·obtain⟨E,e1,e2⟩:=ih (p++[t]) (q++[⟨a,b⟩,t]) true hb2 (by simp at hq⊢;omega)
    have hq9:(q++[(⟨a,b⟩:S59)]).length<8796093022208:=by simp;omega
    rw[ry p t suf]
    refine⟨E,Ev.step (fun k=>by simp only [←ry,pF.l0,qV,nn,if_true,Bool.false_eq_true,if_false,z_,rC (t:=t) hp,Ew,Option.bind_some,decide_eq_true c,if_pos hq7,if_pos hq9]<;>exact rfl) ?_,e2⟩
    rw[ry p t suf]
    exact e1
   obtain⟨E,e1,e2⟩:=ih (p++[t]) (q++[t]) false hb2 (by simp at hq⊢;omega)
   rw[ry p t suf]
   refine⟨E,Ev.step (fun k=>by simp only [←ry,pF.l0,qV,nn,if_true,Bool.false_eq_true,if_false,z_,rC (t:=t) hp,Ew,Option.bind_some,decide_eq_false c,if_pos hq7]<;>exact rfl) ?_,e2⟩
   rw[ry p t suf]
   exact e1
theorem yM (n a b:Int) (E:List S59) (hE:(E.length:Int)<=1048576):
  ∃m F t,Ev (fun k=>pF.f k n E a b) (m,F,t)/\F.length<=E.length+1/\(m=n\/m=0):=by
 have hb:(E.length:Int)<big:=by unfold big;omega
 have no:Ev (fun k=>pF.j0 k a b true n E) (0,[],false):=Ev.step (fun k=>by simp only [pF.j0,if_true]<;>exact rfl) (Ev.val rfl)
 unfold pF.f
 by_cases c:ok n E/\0<=a/\a<n;rotate_left
 ·refine⟨0,[],false,Ev.bind (vQ n a E hb) ?_,by simp,.inr rfl⟩
  simp only [c,decide_false,Bool.false_eq_true,if_false]
  exact no
 by_cases d:ok n E/\0<=b/\b<n
 ·have h1:∀v:Bool,∃m F t,Ev (fun k=>pF.j0 k a b v n E) (m,F,t)/\F.length<=E.length+1/\(m=n\/m=0):=by
   intro v
   cases v with
   |true=>exact⟨0,[],false,no,by simp,.inr rfl⟩
   |false=>
    obtain⟨F,e1,e2⟩:=Kh n n (oM a b).f0 (oM a b).f1 E [] [] false hE (by simp)
    refine⟨n,F,true,?_,e2,.inl rfl⟩
    exact Ev.step (fun k=>by simp only [pF.j0,Bool.false_eq_true,if_false,zg,Option.bind_some]<;>exact rfl) e1
  by_cases e:a=b
  ·obtain⟨m,F,t,e1,e2⟩:=h1 true
   refine⟨m,F,t,Ev.bind (vQ n a E hb) ?_,e2⟩
   simp only [c,and_self,decide_true,if_true]
   refine Ev.bind (vQ n b E hb) ?_
   simp only [d,and_self,decide_true,if_true,if_pos e]
   exact e1
  obtain⟨m,F,t,e1,e2⟩:=h1 (decide (ok n E/\oM a b∈E))
  refine⟨m,F,t,Ev.bind (vQ n a E hb) ?_,e2⟩
  simp only [c,and_self,decide_true,if_true]
  refine Ev.bind (vQ n b E hb) ?_
  simp only [d,and_self,decide_true,if_true,if_neg e]
  exact Ev.bind (C_ n a b E hb) e1
 refine⟨0,[],false,Ev.bind (vQ n a E hb) ?_,by simp,.inr rfl⟩
 simp only [c,and_self,decide_true,if_true]
 refine Ev.bind (vQ n b E hb) ?_
 simp only [d,decide_false,Bool.false_eq_true,if_false]
 exact no
theorem KX (s:List Int) (hs:uW s) (hl:s.length<=2000):∀ (d:Nat) (p n:Int) (E:List S59),d<=20->0<=p->p+2*d<=80000->0<=n->n<=8->E.length+d<=1000->
  ∃r,Ev (fun k=>pG.l2 k (d:Int) s p n E) r/\qP 0 8 (E.length+d) (2*d) p r:=by
 intro d
 induction d with
 |zero=>
  intro p n E hd h0 h1 n0 n1 hE
  refine⟨(n,E,p),?_,by simp[qP];omega⟩
  have c:¬ (0:Int)>0:=by omega
  refine Ev.step (fun k=>by simp only [pG.l2,Int.natCast_zero,if_neg c]<;>exact rfl) ?_
  exact Ev.step (fun k=>by simp only [pG.j4,Bool.false_eq_true,if_false]<;>exact rfl) (Ev.val rfl)
 |succ d ih=>
  intro p n E hd h0 h1 n0 n1 hE
  have c:((d+1:Nat):Int)>0:=by omega
  have w:wrap64 (((d+1:Nat):Int) - 1)=(d:Int):=by rw[w64 (by omega) (by omega)];omega
  by_cases m:n>1
  ·obtain⟨v,v1,_⟩:=tN s hs hl p n h0 (by omega)
   obtain⟨u,u1,_⟩:=tN s hs hl (p+1) n (by omega) (by omega)
   obtain⟨m',F,t,a1,a2,a3⟩:=yM n v u E (by omega)
   have step:∀r,Ev (fun k=>if t=true then pG.l2 k (d:Int) s (p+1+1) m' F else pG.l2 k (d:Int) s (p+1+1) n E) r->Ev (fun k=>pG.l2 k ((d+1:Nat):Int) s p n E) r:=by
    intro r hr
    refine Ev.step (fun k=>by simp only [pG.l2,if_pos c,decide_eq_true m]<;>exact rfl) ?_
    refine Ev.step (fun k=>by simp only [pG.j4,if_true,w]<;>exact rfl) ?_
    exact Ev.bind v1 (Ev.bind u1 (Ev.bind a1 hr))
   cases t with
   |true=>
    obtain⟨r,r1,r2⟩:=ih (p+1+1) m' F (by omega) (by omega) (by omega) (by omega) (by omega) (by omega)
    exact⟨r,step r (by simp only [if_true];exact r1),by unfold qP at*;omega⟩
   |false=>
    obtain⟨r,r1,r2⟩:=ih (p+1+1) n E (by omega) (by omega) (by omega) (by omega) (by omega) (by omega)
    exact⟨r,step r (by simp only [Bool.false_eq_true,if_false];exact r1),by unfold qP at*;omega⟩
  refine⟨(n,E,p),?_,by simp[qP];omega⟩
  refine Ev.step (fun k=>by simp only [pG.l2,if_pos c,decide_eq_false m]<;>exact rfl) ?_
  exact Ev.step (fun k=>by simp only [pG.j4,Bool.false_eq_true,if_false]<;>exact rfl) (Ev.val rfl)
theorem zQ (s:List Int) (hs:uW s) (hl:s.length<=2000) (p n:Int) (E:List S59) (h0:0<=p) (h1:p<=75000) (n0:0<=n) (n1:n<=8) (hE:E.length<=20):
  ∃r,Ev (fun k=>pG.j2 k s p n E) r/\qP 0 8 40 30 p r:=by
 obtain⟨v,v1,v2,v3⟩:=tN s hs hl p 13 h0 (by omega)
 obtain⟨r,r1,r2⟩:=KX s hs hl v.toNat (p+1) n E (by omega) (by omega) (by omega) n0 n1 (by omega)
 rw[Int.toNat_of_nonneg v2]at r1
 refine⟨r,Ev.step (fun k=>by simp only [pG.j2]<;>exact rfl) (Ev.bind v1 r1),by unfold qP at*;omega⟩
theorem KV (s:List Int) (hs:uW s) (hl:s.length<=2000):∀ (d:Nat) (i p n:Int) (E:List S59),i+d=9->0<=i->0<=p->p+d<=70000->0<=n->n<=8->(E.length:Int)<=i->
  ∃r,Ev (fun k=>pG.l0 k i s p n E) r/\qP 0 8 40 (30+d) p r:=by
 intro d
 induction d with
 |zero=>
  intro i p n E hi i0 h0 h1 n0 n1 hE
  obtain⟨r,r1,r2⟩:=zQ s hs hl p n E h0 (by omega) n0 n1 (by omega)
  have c:¬i<n:=by omega
  exact⟨r,Ev.step (fun k=>by simp only [pG.l0,if_neg c]<;>exact rfl) r1,by unfold qP at*;omega⟩
 |succ d ih=>
  intro i p n E hi i0 h0 h1 n0 n1 hE
  by_cases c:i<n
  ·obtain⟨v,v1,_⟩:=tN s hs hl p i h0 (by omega)
   obtain⟨m',F,t,a1,a2,a3⟩:=yM n i v E (by omega)
   obtain⟨r,r1,r2⟩:=ih (i+1) (p+1) m' F (by omega) (by omega) (by omega) (by omega) (by omega) (by omega) (by omega)
   refine⟨r,Ev.step (fun k=>by simp only [pG.l0,if_pos c,w64 (x:=i+1) (by omega) (by omega)]<;>exact rfl) (Ev.bind v1 (Ev.bind a1 r1)),by unfold qP at*;omega⟩
  obtain⟨r,r1,r2⟩:=zQ s hs hl p n E h0 (by omega) n0 n1 (by omega)
  exact⟨r,Ev.step (fun k=>by simp only [pG.l0,if_neg c]<;>exact rfl) r1,by unfold qP at*;omega⟩
theorem KW (s:List Int) (hs:uW s) (hl:s.length<=2000):∀ (d:Nat) (i p n:Int) (E:List S59),i+d=9->0<=i->0<=p->p<=70000->0<=n->n<=8->(E.length:Int)<=i->
  ∃r,Ev (fun k=>pG.l1 k i s p n E) r/\qP 0 8 40 (30+d) p r:=by
 intro d
 induction d with
 |zero=>
  intro i p n E hi i0 h0 h1 n0 n1 hE
  obtain⟨r,r1,r2⟩:=zQ s hs hl p n E h0 (by omega) n0 n1 (by omega)
  have c:¬i<n:=by omega
  exact⟨r,Ev.step (fun k=>by simp only [pG.l1,if_neg c]<;>exact rfl) r1,by unfold qP at*;omega⟩
 |succ d ih=>
  intro i p n E hi i0 h0 h1 n0 n1 hE
  by_cases c:i<n
  ·by_cases c2:n>2
   ·have c3:¬n=0:=by omega
    obtain⟨m',F,t,a1,a2,a3⟩:=yM n i (Int.tmod (i+1) n) E (by omega)
    obtain⟨r,r1,r2⟩:=ih (i+1) p m' F (by omega) (by omega) (by omega) (by omega) (by omega) (by omega) (by omega)
    refine⟨r,Ev.step (fun k=>by simp only [pG.l1,if_pos c,if_pos c2,if_neg c3,w64 (x:=i+1) (by omega) (by omega)]<;>exact rfl) (Ev.bind a1 r1),by unfold qP at*;omega⟩
   obtain⟨r,r1,r2⟩:=zQ s hs hl p n E h0 (by omega) n0 n1 (by omega)
   exact⟨r,Ev.step (fun k=>by simp only [pG.l1,if_pos c,if_neg c2]<;>exact rfl) r1,by unfold qP at*;omega⟩
  obtain⟨r,r1,r2⟩:=zQ s hs hl p n E h0 (by omega) n0 n1 (by omega)
  exact⟨r,Ev.step (fun k=>by simp only [pG.l1,if_neg c]<;>exact rfl) r1,by unfold qP at*;omega⟩
theorem KU (s:List Int) (hs:uW s) (hl:s.length<=2000) (p:Int) (h0:0<=p) (h1:p<=60000):
  ∃r,Ev (fun k=>pG.f k s p) r/\qP 0 8 40 50 p r:=by
 obtain⟨v,v1,v2,v3⟩:=tN s hs hl p 8 h0 (by omega)
 obtain⟨u,u1,u2,u3⟩:=tN s hs hl (p+1) 6 (by omega) (by omega)
 have w:wrap64 (1+v)=1+v:=w64 (by omega) (by omega)
 unfold pG.f
 by_cases c:u=0
 ·obtain⟨r,r1,r2⟩:=KV s hs hl 8 1 (p+1+1) (1+v) [] (by omega) (by omega) (by omega) (by omega) (by omega) (by omega) (by simp)
  refine⟨r,Ev.bind v1 (Ev.bind u1 ?_),by unfold qP at*;omega⟩
  simp only [w,if_pos c]
  exact r1
 by_cases d:u=1
 ·obtain⟨r,r1,r2⟩:=KW s hs hl 9 0 (p+1+1) (1+v) [] (by omega) (by omega) (by omega) (by omega) (by omega) (by omega) (by simp)
  refine⟨r,Ev.bind v1 (Ev.bind u1 ?_),by unfold qP at*;omega⟩
  simp only [w,if_neg c,if_pos d]
  exact r1
 obtain⟨r,r1,r2⟩:=zQ s hs hl (p+1+1) (1+v) [] (by omega) (by omega) (by omega) (by omega) (by simp)
 refine⟨r,Ev.bind v1 (Ev.bind u1 ?_),by unfold qP at*;omega⟩
 simp only [w,if_neg c,if_neg d]
 exact r1
theorem NH (s:List Int) (hs:uW s) (hl:s.length<=2000) (p n:Int) (E:List S59) (h0:0<=p) (h1:p<=70000) (n0:0<=n) (n1:n<=8) (hE:E.length<=40):
  ∃r,Ev (fun k=>rT.f k s p n E) r/\qP (-1) 9 50 5 p r:=by
 obtain⟨v,v1,v2,v3⟩:=tN s hs hl p 6 h0 (by omega)
 have q8:E.length<8796093022208:=by omega
 have q9:([(⟨-1,0⟩:S59)]:List S59).length+E.length<8796093022208:=by simp;omega
 unfold rT.f
 simp only [Eo n E (by omega),Option.bind_some,if_pos q8,if_pos q9]
 by_cases c0:v=0
 ·obtain⟨u,u1,u2,u3⟩:=tN s hs hl (p+1) 5 (by omega) (by omega)
  have g:u<((([(-1),0,1,8,9]:List Int)).length:Int):=by show u<5;omega
  have b: -1<=rd [(-1),0,1,8,9] u/\rd [(-1),0,1,8,9] u<=9:=by
   have:u=0\/u=1\/u=2\/u=3\/u=4:=by omega
   rcases this with rfl|rfl|rfl|rfl|rfl<;>decide
  refine⟨(rd [(-1),0,1,8,9] u,E,p+1+1),Ev.bind v1 ?_,by simp[qP];omega⟩
  simp only [if_pos c0]
  refine Ev.bind u1 ?_
  simp only [if_pos u2,if_pos g]
  exact Ev.val rfl
 by_cases c1:v=1
 ·obtain⟨u,u1,u2,u3⟩:=tN s hs hl (p+1) 3 (by omega) (by omega)
  obtain⟨t,t1,t2,t3⟩:=tN s hs hl (p+1+1) 3 (by omega) (by omega)
  refine⟨(n,E++[⟨u,t⟩],p+1+1+1),Ev.bind v1 ?_,by simp[qP];omega⟩
  simp only [if_neg c0,if_pos c1]
  exact Ev.bind u1 (Ev.bind t1 (Ev.val rfl))
 by_cases c2:v=2
 ·refine⟨(n,E++[⟨wrap64 (n - 1),n⟩],p+1),Ev.bind v1 ?_,by simp[qP];omega⟩
  simp only [if_neg c0,if_neg c1,if_pos c2]
  exact Ev.val rfl
 by_cases c3:v=3
 ·by_cases d:(E.length:Int)>0
  ·obtain⟨u,u1,u2,u3⟩:=tN s hs hl (p+1) (E.length:Int) (by omega) (by omega)
   have g:u<(E.length:Int):=by omega
   refine⟨(n,E.set u.toNat ⟨(nk E u).f1,(nk E u).f0⟩,p+1+1),Ev.bind v1 ?_,by simp[qP];omega⟩
   simp only [if_neg c0,if_neg c1,if_neg c2,if_pos c3,if_pos d]
   refine Ev.bind u1 ?_
   simp only [if_pos u2,if_pos g]
   exact Ev.val rfl
  refine⟨(n,E,p+1),Ev.bind v1 ?_,by simp[qP];omega⟩
  simp only [if_neg c0,if_neg c1,if_neg c2,if_pos c3,if_neg d]
  exact Ev.val rfl
 by_cases c4:v=4
 ·by_cases d:(E.length:Int)>1
  ·have d0:0<(E.length:Int):=by omega
   refine⟨(n,E++[⟨(nk E 0).f0,(nk E 0).f1⟩],p+1),Ev.bind v1 ?_,by simp[qP];omega⟩
   simp only [if_neg c0,if_neg c1,if_neg c2,if_neg c3,if_pos c4,if_pos d,if_pos d0]
   exact Ev.val rfl
  refine⟨(n,E,p+1),Ev.bind v1 ?_,by simp[qP];omega⟩
  simp only [if_neg c0,if_neg c1,if_neg c2,if_neg c3,if_pos c4,if_neg d]
  exact Ev.val rfl
 refine⟨(n,[⟨-1,0⟩]++E,p+1),Ev.bind v1 ?_,by simp[qP];omega⟩
 simp only [if_neg c0,if_neg c1,if_neg c2,if_neg c3,if_neg c4]
 exact Ev.val rfl
theorem Kl (s:List Int) (hs:uW s) (hl:s.length<=2000) (p:Int) (h0:0<=p) (h1:p<=60000):
  ∃r,Ev (fun k=>zq.f k s p) r/\qP (-1) 9 50 60 p r:=by
 obtain⟨⟨n,E,q⟩,r1,r2⟩:=KU s hs hl p h0 h1
 simp only [qP]at r2
 obtain⟨v,v1,v2,v3⟩:=tN s hs hl q 12 (by omega) (by omega)
 unfold zq.f
 by_cases c:v=0
 ·obtain⟨r,s1,s2⟩:=NH s hs hl (q+1) n E (by omega) (by omega) (by omega) (by omega) (by omega)
  refine⟨r,Ev.bind r1 (Ev.bind v1 ?_),by unfold qP at*;omega⟩
  simp only [if_pos c]
  exact Ev.bind s1 (Ev.val rfl)
 refine⟨(n,E,q+1),Ev.bind r1 (Ev.bind v1 ?_),by simp[qP];omega⟩
 simp only [if_neg c]
 exact Ev.val rfl
end Go.Proofs.Ytgeonpciodepgaa.P
namespace Go.Proofs.Ytgeonpciodepgaa.G
open Go.RowKit Go.Proofs.YtgeonpciodepgaaW.PrintWords
inductive qK (E:List Tie):Int->Int->Prop
 |refl (a:Int):qK E a a
 |step {a b c:Int}:qK E a b->oM b c∈E->qK E a c
theorem qK.one {E:List Tie}{a b:Int}(h:oM a b∈E):qK E a b:=.step (.refl a) h
theorem qK.trans {E:List Tie}{a b c:Int}(h:qK E a b) (k:qK E b c):qK E a c:=by
 induction k with
 |refl=>exact h
 |step _ t ih=>exact .step ih t
theorem qK.symm {E:List Tie}{a b:Int}(h:qK E a b):qK E b a:=by
 induction h with
 |refl=>exact .refl _
 |step _ t ih=>exact(qK.one (Af _ _▸t)).trans ih
theorem qK.mono {E F:List Tie}{a b:Int}(h:qK E a b) (hs:∀t∈E,t∈F):qK F a b:=by
 induction h with
 |refl=>exact .refl _
 |step _ t ih=>exact .step ih (hs _ t)
theorem qK.closed {E:List Tie}{a b:Int}(h:qK E a b) (p:Int->Prop) (ha:p a) (hc:∀x y,p x->oM x y∈E->p y):p b:=by
 induction h with
 |refl=>exact ha
 |step _ t ih=>exact hc _ _ ih t
theorem qK.range {n:Int}{E:List Tie}(hE:∀t∈E,inr n t) {a b:Int}(h:qK E a b) (ha:0<=a/\a<n):0<=b/\b<n:=
 h.closed (fun x=>0<=x/\x<n) ha (fun _ _ _ ht=>(vB (hE _ ht)).2.1)
theorem qK.tie {E:List Tie}{t:Tie}(ht:t∈E) (h:t.f0<t.f1):qK E t.f0 t.f1:=qK.one (by rw[NP h];exact ht)
def EvP (g:Nat->Option Bool) (P:Prop):Prop:=∃b:Bool,Ev g b/\(b=true↔P)
theorem EvP.of {g:Nat->Option Bool}{P:Prop} [Decidable P] (h:Ev g (decide P)):EvP g P:=⟨_,h,by simp⟩
theorem EvP.step {g f:Nat->Option Bool}{P:Prop}(h:∀k,g (k+1)=f k) (k:EvP f P):EvP g P:=by
 obtain⟨b,h1,h2⟩:=k
 exact⟨b,Ev.step h h1,h2⟩
theorem EvP.bind {α:Type}{g:Nat->Option α}{f:Nat->α->Option Bool}{a:α}{P:Prop}(h:Ev g a) (k:EvP (fun n=>f n a) P):EvP (fun n=>(g n).bind (f n)) P:=by
 obtain⟨b,h1,h2⟩:=k
 exact⟨b,Ev.bind h h1,h2⟩
theorem EvP.test {g:Nat->Option Bool}{f:Nat->Bool->Option Bool}{P Q:Prop}(h:EvP g Q) (kt:Q->EvP (fun n=>f n true) P) (kf:¬Q->EvP (fun n=>f n false) P):EvP (fun n=>(g n).bind (f n)) P:=by
 obtain⟨b,h1,h2⟩:=h
 cases b with
 |true=>exact EvP.bind h1 (kt (h2.1 rfl))
 |false=>exact EvP.bind h1 (kf (fun q=>by have:=h2.2 q;simp at this))
theorem EvP.same {g f:Nat->Option Bool}{P:Prop}(h:EvP g P) (k:EvP f P):∃b,Ev g b/\Ev f b:=by
 obtain⟨b,h1,h2⟩:=h
 obtain⟨c,k1,k2⟩:=k
 have:b=c:=by
  rw[Bool.eq_iff_iff];exact h2.trans k2.symm
 exact⟨b,h1,this▸k1⟩
theorem AZ {α:Type} [DecidableEq α]:∀ {l m:List α},l.Nodup->(∀x∈l,x∈m)->l.length<=m.length
 |[],m,_,_=>Nat.zero_le _
 |a::l,m,h,hs=>by
  obtain⟨h1,h2⟩:=List.nodup_cons.1 h
  have ha:a∈m:=hs a (List.mem_cons_self)
  have:l.length<=(m.erase a).length:=AZ h2 (fun x hx=>(List.mem_erase_of_ne (fun(e:x=a)=>h1 (by rw[←e];exact hx))).2 (hs x (List.mem_cons_of_mem _ hx)))
  rw[List.length_erase_of_mem ha]at this
  have:0<m.length:=List.length_pos_of_mem ha
  simp only [List.length_cons]
  omega
theorem MC {α:Type} [DecidableEq α] {l m:List α}(hl:l.Nodup) (hm:m.Nodup) (h:∀x,x∈l↔x∈m):l.length=m.length:=
 Nat.le_antisymm (AZ hl (fun x hx=>(h x).1 hx)) (AZ hm (fun x hx=>(h x).2 hx))
theorem O9 {α β:Type}(f:α->β):∀ {l:List α},l.Nodup->(∀x∈l,∀y∈l,f x=f y->x=y)->(l.map f).Nodup
 |[],_,_=>by simp
 |a::l,h,hf=>by
  obtain⟨h1,h2⟩:=List.nodup_cons.1 h
  rw[List.map_cons,List.nodup_cons]
  refine⟨fun hm=>?_,O9 f h2 (fun x hx y hy=>hf x (List.mem_cons_of_mem _ hx) y (List.mem_cons_of_mem _ hy))⟩
  obtain⟨y,hy,e⟩:=List.mem_map.1 hm
  have:=hf a (List.mem_cons_self) y (List.mem_cons_of_mem _ hy) e.symm
  exact h1 (this▸hy)
def sN (n:Int):List Int:=(List.range n.toNat).map fun(i:Nat)=>(i:Int)
theorem Ey {n v:Int}:v∈sN n↔0<=v/\v<n:=by
 unfold sN
 rw[List.mem_map]
 constructor
 ·rintro⟨i,hi,rfl⟩
  have:=List.mem_range.1 hi
  omega
 rintro⟨h0,h1⟩
 exact⟨v.toNat,List.mem_range.2 (by omega),by omega⟩
theorem OL (n:Int):(sN n).Nodup:=O9 _ List.nodup_range (fun x _ y _ e=>Int.ofNat.inj e)
theorem yu (n:Int):(sN n).length=n.toNat:=by simp[sN]
theorem Et {n:Int}(h:0<=n):sN (n+1)=sN n++[n]:=by
 unfold sN
 have:(n+1).toNat=n.toNat+1:=by omega
 rw[this,List.range_succ,List.map_append]
 simp
 omega
def next (n:Int) (E:List Tie) (v:Int):List Int:=(sN n).filter fun i=>decide (oM v i∈E)
theorem wR {n v i:Int}{E:List Tie}(hE:∀t∈E,inr n t):i∈next n E v↔oM v i∈E:=by
 unfold next
 rw[List.mem_filter,Ey]
 simp only [decide_eq_true_eq]
 exact⟨fun h=>h.2,fun h=>⟨(vB (hE _ h)).2.1,h⟩⟩
end Go.Proofs.Ytgeonpciodepgaa.G
namespace Go.Proofs.Ytgeonpciodepgaa.P
open Go.RowKit Go.Proofs.YtgeonpciodepgaaW.PrintWords Go.Proofs.Ytgeonpciodepgaa.G Go.Proofs.YtgeonpciodepgaaW.PrintWords.Kd
theorem Mw (n v:Int) (E:List S59) (hE:(E.length:Int)<big) (h8:n<=8):∀ (d:Nat) (i:Int),0<=i->i+d=n->
  Ev (fun k=>sD.l0 k v ((sN i).filter fun j=>decide (oM v j∈E)) i n E) (next n E v):=by
 intro d
 induction d with
 |zero=>
  intro i h0 hi
  have hi':i=n:=by omega
  subst hi'
  have c:¬i<i:=by omega
  refine Ev.step (fun k=>by simp only [sD.l0,c,if_false]<;>exact rfl) ?_
  exact Ev.val rfl
 |succ d ih=>
  intro i h0 hi
  have c:i<n:=by omega
  have w:wrap64 (i+1)=i+1:=w64 (by omega) (by omega)
  have hl:((sN i).filter fun j=>decide (oM v j∈E)).length<17592186044416:=by
   have:=List.length_filter_le (fun j=>decide (oM v j∈E)) (sN i)
   rw[yu]at this
   omega
  refine Ev.step (fun k=>by simp only [sD.l0,c,if_true,w,hl]<;>exact rfl) ?_
  refine Ev.bind (Hy n v i E hE) ?_
  have e:=ih (i+1) (by omega) (by omega)
  rw[Et h0,List.filter_append]at e
  by_cases d:oM v i∈E
  ·simp only [d,decide_true,if_true]
   simpa [d] using e
  simp only [d,decide_false,Bool.false_eq_true,if_false]
  simpa [d] using e
theorem AY (n v:Int) (E:List S59) (hE:ok n E):Ev (fun k=>sD.f k n E v) (next n E v):=by
 unfold sD.f
 have hb:(E.length:Int)<big:=by have:=uX hE;unfold big;omega
 exact Mw n v E hb hE.2.1 n.toNat 0 (by omega) (by have:=hE.1;omega)
def cnt (f:List Bool):Nat:=(f.filter fun b=> !b).length
theorem IB {f:List Bool}{u v:Int}(hu:0<=u) (hu2:u<(f.length:Int)) (hv:0<=v):qz false (f.set u.toNat true) v=if u=v then true else qz false f v:=by
 unfold qz
 rw[List.getD_eq_getElem?_getD,List.getD_eq_getElem?_getD,List.getElem?_set]
 by_cases c:u=v
 ·subst c
  rw[if_pos rfl,if_pos (by omega),if_pos rfl];rfl
 rw[if_neg (by omega),if_neg c]
theorem Em:∀ {f:List Bool}{i:Nat},f.getD i false=false->i<f.length->cnt (f.set i true)+1=cnt f
 |[],i,_,h=>absurd h (Nat.not_lt_zero _)
 |b::f,0,h,_=>by
  have:b=false:=h
  subst this
  simp[cnt]
 |b::f,i+1,h,hl=>by
  have hl':i<f.length:=by simpa using hl
  have ih:=Em (f:=f) (i:=i) (by simpa using h) hl'
  unfold cnt at*
  rw[List.set_cons_succ]
  cases b<;>simp at ih⊢<;>omega
structure Inv (n:Int) (E:List Tie) (a:Int) (f:List Bool) (q:List Int) (at_:Int->Prop):Prop where
 len:(f.length:Int)=n
 start:qz false f a=true
 conn:∀v,0<=v->v<n->qz false f v=true->qK E a v
 queue:∀x∈q,0<=x/\x<n/\qz false f x=true
 done:∀v,0<=v->v<n->qz false f v=true->v∈q\/at_ v\/∀w,oM v w∈E->qz false f w=true
theorem Ng (n:Int) (E:List S59) (a:Int) (c:Int) (hE:∀t∈E,inr n t) (hc:0<=c/\c<n) (hca:qK E a c):∀ (suf p:List Int) (f:List Bool) (q:List Int),
  ((p++suf).length:Int)<big->(∀x∈suf,oM c x∈E)->q.length+cnt f<=1000->Inv n E a f q (fun v=>v=c)->
  ∃f' q',Inv n E a f' q' (fun v=>v=c)/\(∀x∈suf,qz false f' x=true)/\(∀x,0<=x->qz false f x=true->qz false f' x=true)/\q'.length+cnt f'=q.length+cnt f/\cnt f'<=cnt f/\
   ∀r,Ev (fun k=>rG.l0 k f' q' n E) r->Ev (fun k=>rG.l1 k f q (p++suf) (p.length:Int) n E) r:=by
 intro suf
 induction suf with
 |nil=>
  intro p f q hb hs hm hI
  refine⟨f,q,hI,by simp,fun x _ h=>h,rfl,Nat.le_refl _,fun r hr=>?_⟩
  refine Ev.step (fun k=>by simp only [rG.l1,uj,if_false]<;>exact rfl) hr
 |cons t suf ih=>
  intro p f q hb hs hm hI
  have hp:(p.length:Int)<big:=ui hb
  have ht:oM c t∈E:=hs t (List.mem_cons_self)
  have htr:=(vB (hE _ ht)).2.1
  have b1:0<=t:=htr.1
  have b2:t<(f.length:Int):=by rw[hI.len];exact htr.2
  by_cases d:qz false f t=true
  ·obtain⟨f',q',h1,h2,h3,h4,h5,h6⟩:=ih (p++[t]) f q (wY hb) (fun x hx=>hs x (List.mem_cons_of_mem _ hx)) hm hI
   refine⟨f',q',h1,fun x hx=>?_,h3,h4,h5,fun r hr=>?_⟩
   ·rcases List.mem_cons.1 hx with rfl|hx
    ·exact h3 _ b1 d
    exact h2 x hx
   refine Ev.step (fun k=>by simp only [rG.l1,qV,nn,if_true,sO,rC (t:=t) hp,b1,b2,d]<;>exact rfl) ?_
   rw[ry p t suf]
   exact h6 r hr
  have d':qz false f t=false:=by simpa using d
  have hcnt:=Em (f:=f) (i:=t.toNat) d' (by omega)
  have hq:q.length<17592186044416:=by omega
  have hset:∀v,0<=v->qz false (f.set t.toNat true) v=if t=v then true else qz false f v:=fun v hv=>IB b1 b2 hv
  have hI':Inv n E a (f.set t.toNat true) (q++[t]) (fun v=>v=c):=by
   refine⟨by rw[List.length_set];exact hI.len,?_,?_,?_,?_⟩
   ·by_cases ha:0<=a
    ·rw[hset a ha,hI.start];simp
    have h0:=hI.start
    unfold qz at h0⊢
    rw[List.getD_eq_getElem?_getD]at h0⊢
    rw[List.getElem?_set]
    split
    ·split<;>simp_all
    exact h0
   ·intro v h0 h1 hv
    rw[hset v h0]at hv
    by_cases e:t=v
    ·subst e;exact hca.step ht
    rw[if_neg e]at hv;exact hI.conn v h0 h1 hv
   ·intro x hx
    rcases List.mem_append.1 hx with hx|hx
    ·obtain⟨x0,x1,x2⟩:=hI.queue x hx
     exact⟨x0,x1,by rw[hset x x0,x2];simp⟩
    rw[List.mem_singleton]at hx
    subst hx
    exact⟨b1,htr.2,by rw[hset _ b1];simp⟩
   intro v h0 h1 hv
   rw[hset v h0]at hv
   by_cases e:t=v
   ·subst e;exact .inl (by simp)
   rw[if_neg e]at hv
   rcases hI.done v h0 h1 hv with h|h|h
   ·exact .inl (by simp[h])
   ·exact .inr (.inl h)
   refine .inr (.inr (fun w hw=>?_))
   rw[hset w (vB (hE _ hw)).2.1.1,h w hw];simp
  obtain⟨f',q',h1,h2,h3,h4,h5,h6⟩:=ih (p++[t]) (f.set t.toNat true) (q++[t]) (wY hb) (fun x hx=>hs x (List.mem_cons_of_mem _ hx)) (by simp;omega) hI'
  refine⟨f',q',h1,fun x hx=>?_,fun x h0 hx=>h3 x h0 (by rw[hset x h0,hx];simp),by rw[h4];simp;omega,by omega,fun r hr=>?_⟩
  ·rcases List.mem_cons.1 hx with rfl|hx
   ·exact h3 _ b1 (by rw[hset _ b1];simp)
   exact h2 x hx
  refine Ev.step (fun k=>by simp only [rG.l1,qV,nn,if_true,sO,rC (t:=t) hp,b1,b2,d',Bool.false_eq_true,if_false,hq]<;>exact rfl) ?_
  rw[ry p t suf]
  exact h6 r hr
theorem II (n:Int) (E:List S59) (a:Int) (hE:ok n E) (f:List Bool) (hI:Inv n E a f [] (fun _=>False)):
  ∃f',Ev (fun k=>rG.l0 k f [] n E) f'/\(f'.length:Int)=n/\∀v,0<=v->v<n->(qz false f' v=true↔qK E a v):=by
 refine⟨f,Ev.step (fun k=>by simp[rG.l0]<;>exact rfl) (Ev.val rfl),hI.len,fun v h0 h1=>⟨hI.conn v h0 h1,fun hc=>?_⟩⟩
 have key:0<=v/\v<n/\qz false f v=true:=by
  refine hc.closed (fun x=>0<=x/\x<n/\qz false f x=true) ?_ ?_
  ·have:=hc.symm.range hE.2.2.1 ⟨h0,h1⟩
   exact⟨this.1,this.2,hI.start⟩
  intro x y hx ht
  have:=(vB (hE.2.2.1 _ ht)).2.1
  rcases hI.done x hx.1 hx.2.1 hx.2.2 with h|h|h
  ·simp at h
  ·exact h.elim
  exact⟨this.1,this.2,h y ht⟩
 exact key.2.2
theorem Nf (n:Int) (E:List S59) (a:Int) (hE:ok n E):∀ (m:Nat) (f:List Bool) (q:List Int),2*cnt f+q.length<=m->m<=1000->Inv n E a f q (fun _=>False)->
  ∃f',Ev (fun k=>rG.l0 k f q n E) f'/\(f'.length:Int)=n/\∀v,0<=v->v<n->(qz false f' v=true↔qK E a v):=by
 intro m
 induction m with
 |zero=>
  intro f q h1 h2 hI
  have:q=[]:=List.length_eq_zero_iff.1 (by omega)
  subst this
  exact II n E a hE f hI
 |succ m ih=>
  intro f q h1 h2 hI
  cases q with
  |nil=>exact II n E a hE f hI
  |cons c q=>
   have hc:=hI.queue c (List.mem_cons_self)
   have hcc:=hI.conn c hc.1 hc.2.1 hc.2.2
   have hI1:Inv n E a f q (fun v=>v=c):=by
    refine⟨hI.len,hI.start,hI.conn,fun x hx=>hI.queue x (List.mem_cons_of_mem _ hx),fun v h0 h1 hv=>?_⟩
    rcases hI.done v h0 h1 hv with h|h|h
    ·rcases List.mem_cons.1 h with rfl|h
     ·exact .inr (.inl rfl)
     exact .inl h
    ·exact h.elim
    exact .inr (.inr h)
   have hlen:(((next n E c)).length:Int)<big:=by
    have:=List.length_filter_le (fun i=>decide (oM c i∈E)) (sN n)
    have e:=yu n
    have h8:=hE.2.1
    unfold big;unfold next;omega
   simp only [List.length_cons]at h1
   obtain⟨f',q',i1,i2,i3,i4,i5,i6⟩:=Ng n E a c hE.2.2.1 ⟨hc.1,hc.2.1⟩ hcc (next n E c) [] f q hlen (fun x hx=>(wR hE.2.2.1).1 hx) (by omega) hI1
   have hI2:Inv n E a f' q' (fun _=>False):=by
    refine⟨i1.len,i1.start,i1.conn,i1.queue,fun v h0 h1 hv=>?_⟩
    rcases i1.done v h0 h1 hv with h|h|h
    ·exact .inl h
    ·refine .inr (.inr (fun w hw=>?_))
     subst h
     exact i2 w ((wR hE.2.2.1).2 hw)
    exact .inr (.inr h)
   obtain⟨f2,j1,j2⟩:=ih f' q' (by omega) (by omega) hI2
   refine⟨f2,?_,j2⟩
   have g1:((c::q).length:Int)>0:=by rw[List.length_cons];omega
   have g2:(0:Int)<((c::q).length:Int):=g1
   have g3:(1:Int)<=((c::q).length:Int):=by omega
   have g4:rd (c::q) 0=c:=rfl
   have g5:(c::q).drop ((1:Int)).toNat=q:=rfl
   refine Ev.step (fun k=>by simp only [rG.l0,g1,g2,g3,g4,g5,if_true]<;>exact rfl) ?_
   refine Ev.bind (AY n c E hE) ?_
   exact i6 f2 j1
theorem Nc (n:Int) (E:List S59) (a:Int) (hE:ok n E) (h0:0<=a) (h1:a<n):
  ∃f,Ev (fun k=>rG.f k n E a) f/\(f.length:Int)=n/\∀v,0<=v->v<n->(qz false f v=true↔qK E a v):=by
 have h8:=hE.2.1
 have hb:(E.length:Int)<big:=by have:=uX hE;unfold big;omega
 have hn:n.toNat<=281474976710656:=by omega
 have hl:((List.replicate n.toNat false).length:Int)=n:=by rw[List.length_replicate];omega
 have hcnt:cnt (List.replicate n.toNat false)=n.toNat:=by simp[cnt]
 have hrep:∀v:Int,qz false (List.replicate n.toNat false) v=false:=fun v=>by
  unfold qz
  rw[List.getD_eq_getElem?_getD,List.getElem?_replicate]
  split<;>rfl
 have hs:=Em (f:=List.replicate n.toNat false) (i:=a.toNat) (hrep a) (by omega)
 have hset:∀v,0<=v->qz false ((List.replicate n.toNat false).set a.toNat true) v=if a=v then true else false:=fun v hv=>by
  rw[IB h0 (by omega) hv,hrep]
 have hI:Inv n E a ((List.replicate n.toNat false).set a.toNat true) [a] (fun _=>False):=by
  refine⟨by rw[List.length_set];exact hl,by rw[hset a h0];simp,?_,?_,?_⟩
  ·intro v v0 v1 hv
   rw[hset v v0]at hv
   by_cases e:a=v
   ·subst e;exact .refl _
   rw[if_neg e]at hv;simp at hv
  ·intro x hx
   rw[List.mem_singleton]at hx
   subst hx
   exact⟨h0,h1,by rw[hset _ h0];simp⟩
  intro v v0 v1 hv
  rw[hset v v0]at hv
  by_cases e:a=v
  ·subst e;exact .inl (by simp)
  rw[if_neg e]at hv;simp at hv
 obtain⟨f,r1,r2⟩:=Nf n E a hE 100 _ [a] (by simp only [List.length_singleton];omega) (by omega) hI
 refine⟨f,?_,r2⟩
 unfold rG.f
 refine Ev.bind (vQ n a E hb) ?_
 have c:ok n E/\0<=a/\a<n:=⟨hE,h0,h1⟩
 have l2:a<((List.replicate n.toNat false).length:Int):=by omega
 simp only [c,and_self,decide_true,if_true,hE.1,hn,Option.bind_some,h0,l2]
 exact r1
theorem Bc (pre:List S59) (t:S59) (suf:List S59):nk (pre++t::suf) (pre.length:Int)=t:=by
 unfold nk;exact za pre t suf _
theorem I1 (a b:Int) (t:Tie):(a==t.f0&&(b==t.f1))=decide ((⟨a,b⟩:Tie)=t):=by
 obtain⟨c,d⟩:=t
 simp only [Tie.mk.injEq]
 by_cases h:a=c<;>by_cases k:b=d<;>simp[h,k]
theorem LP (a b:Int):∀ (suf p:List S59),((p++suf).length:Int)<big->
  ∃r,Ev (fun k=>sQ.l0 k (p++suf) ((p++suf).length:Int) (p.length:Int) a b) r/\(r>=0↔(⟨a,b⟩:Tie)∈suf):=by
 intro suf
 induction suf with
 |nil=>
  intro p hb
  refine⟨-1,Ev.step (fun k=>by simp only [sQ.l0,uj,if_false]<;>exact rfl) (Ev.val rfl),by simp⟩
 |cons t suf ih=>
  intro p hb
  have hp:(p.length:Int)<big:=ui hb
  by_cases c:(⟨a,b⟩:Tie)=t
  ·refine⟨p.length,?_,?_⟩
   ·refine Ev.step (fun k=>by simp only [sQ.l0,qV,nn,if_true,Bc,rC (t:=t) hp,I1,decide_eq_true_eq,if_pos c]<;>exact rfl) ?_
    exact Ev.val rfl
   simp[c]
  obtain⟨r,hr,hi⟩:=ih (p++[t]) (wY hb)
  refine⟨r,?_,?_⟩
  ·refine Ev.step (fun k=>by simp only [sQ.l0,qV,nn,if_true,Bc,rC (t:=t) hp,I1,decide_eq_true_eq,if_neg c]<;>exact rfl) ?_
   rw[ry p t suf]
   exact hr
  rw[hi];simp[c]
theorem GY (E:List S59) (a b:Int) (hb:(E.length:Int)<big):Ev (fun k=>vI.f k E a b) (decide ((⟨a,b⟩:Tie)∈E)):=by
 unfold vI.f sQ.f
 obtain⟨r,hr,hi⟩:=LP a b E [] hb
 refine Ev.bind hr (Ev.val ?_)
 exact congrArg some (decide_eq_decide.2 hi)
theorem Hw (n a:Int) (E:List S59):wX.f n E a=some (decide (0<=a/\a<n)):=by
 unfold wX.f
 by_cases h:0<=a<;>simp[h]
theorem I4 (a b:Int):vW.f a b=some ((oM a b).f0,(oM a b).f1):=by
 unfold vW.f oM mn mx
 rcases Int.lt_trichotomy a b with h|h|h
 ·simp[h];omega
 ·subst h;simp
 have:¬a<b:=by omega
 simp[this,h]
theorem LF (n a b:Int) (E:List S59) (hE:(E.length:Int)<big):Ev (fun k=>vH.f k n E a b) (decide (oM a b∈E)):=by
 unfold vH.f
 simp only [I4,Option.bind_some]
 exact Ev.bind (GY E _ _ hE) (Ev.val rfl)
def less (X gone:List Tie):List Tie:=X.filter fun s=> !decide (s∈gone)
theorem Md (X:List Tie) (t:Tie):less X [t]=cut X t:=by
 unfold less cut
 refine List.filter_congr (fun s _=>?_)
 simp
theorem Mc (n m:Int) (gone:List S59) (hg:(gone.length:Int)<big):∀ (suf p q:List S59),((p++suf).length:Int)<=1048576->q.length<=p.length->
  Ev (fun k=>ug.l0 k gone (p++suf) ((p++suf).length:Int) (p.length:Int) m q) (m,q++less suf gone):=by
 intro suf
 induction suf with
 |nil=>
  intro p q hb hq
  refine Ev.step (fun k=>by simp only [ug.l0,uj,if_false]<;>exact rfl) ?_
  exact Ev.val (by simp[less])
 |cons t suf ih=>
  intro p q hb hq
  have hb':((p++t::suf).length:Int)<big:=by unfold big;omega
  have hp:(p.length:Int)<big:=ui hb'
  have hq8:q.length<8796093022208:=by rw[List.length_append]at hb;omega
  refine Ev.step (fun k=>by simp only [ug.l0,qV,nn,if_true,Bc,rC (t:=t) hp,hq8]<;>exact rfl) ?_
  refine Ev.bind (GY gone _ _ hg) ?_
  by_cases c:t∈gone
  ·have c':(⟨t.f0,t.f1⟩:Tie)∈gone:=c
   simp only [c',decide_true,if_true]
   rw[ry p t suf]
   refine Ev.eq (ih (p++[t]) q (by rw[←ry];exact hb) (by simp;omega)) ?_
   simp[less,c]
  have c':¬ (⟨t.f0,t.f1⟩:Tie)∈gone:=c
  simp only [c',decide_false,Bool.false_eq_true,if_false]
  rw[ry p t suf]
  refine Ev.eq (ih (p++[t]) (q++[t]) (by rw[←ry];exact hb) (by simp;omega)) ?_
  simp[less,c]
theorem Ma (n:Int) (E gone:List S59) (hE:(E.length:Int)<=1048576) (hg:(gone.length:Int)<big):Ev (fun k=>ug.f k n E gone) (n,less E gone):=by
 unfold ug.f
 exact Mc n n gone hg E [] [] hE (Nat.le_refl _)
theorem L_ (n:Int) (E:List S59) (t:Tie) (hE:(E.length:Int)<=1048576):Ev (fun k=>ug.f k n E [t]) (n,cut E t):=by
 rw[←Md]
 exact Ma n E [t] hE (by unfold big;simp)
end Go.Proofs.Ytgeonpciodepgaa.P
namespace Go.Proofs.Ytgeonpciodepgaa.G
open Go.RowKit Go.Proofs.YtgeonpciodepgaaW.PrintWords
theorem Ab {f:List Int}{u v x:Int}(hu:0<=u) (hu2:u<(f.length:Int)) (hv:0<=v):rd (f.set u.toNat x) v=if u=v then x else rd f v:=by
 unfold rd
 rw[List.getD_eq_getElem?_getD,List.getD_eq_getElem?_getD,List.getElem?_set]
 by_cases c:u=v
 ·subst c
  rw[if_pos rfl,if_pos (by omega),if_pos rfl];rfl
 rw[if_neg (by omega),if_neg c]
def tot (f:List Int):Nat:=(f.map Int.toNat).sum
theorem ER:∀ {f:List Int}{i:Nat}{x:Int},i<f.length->0<=x->0<=f.getD i 0->(tot (f.set i x):Int)=tot f - f.getD i 0+x
 |[],i,_,h,_,_=>absurd h (Nat.not_lt_zero _)
 |b::f,0,x,h,hx,hb=>by
  have hb':0<=b:=hb
  simp[tot]
  omega
 |b::f,i+1,x,h,hx,hb=>by
  have ih:=ER (f:=f) (i:=i) (x:=x) (by simpa using h) hx (by simpa using hb)
  rw[List.set_cons_succ]
  simp[tot]at ih⊢
  omega
structure Lab (n:Int) (E:List Tie) (f:List Int):Prop where
 len:(f.length:Int)=n
 low:∀v,0<=v->v<n->0<=rd f v/\rd f v<=v
 conn:∀v,0<=v->v<n->qK E v (rd f v)
structure Parts (n:Int) (E:List Tie) (f:List Int):Prop where
 len:(f.length:Int)=n
 low:∀v,0<=v->v<n->0<=rd f v/\rd f v<=v
 conn:∀v,0<=v->v<n->qK E v (rd f v)
 same:∀u v,0<=u->u<n->0<=v->v<n->qK E u v->rd f u=rd f v
theorem Lab.parts {n:Int}{E:List Tie}{f:List Int}(h:Lab n E f) (hE:∀t∈E,inr n t) (he:∀t∈E,rd f t.f0=rd f t.f1):Parts n E f:=by
 refine⟨h.len,h.low,h.conn,fun u v hu hu1 hv hv1 hc=>?_⟩
 refine hc.closed (fun x=>rd f u=rd f x) rfl (fun x y hx ht=>?_)
 have hr:=hE _ ht
 have e:=he _ ht
 rw[hx]
 unfold oM at e
 by_cases c:x<y
 ·rw[if_pos c]at e;exact e
 rw[if_neg c]at e;exact e.symm
end Go.Proofs.Ytgeonpciodepgaa.G
namespace Go.Proofs.Ytgeonpciodepgaa.P
open Go.RowKit Go.Proofs.YtgeonpciodepgaaW.PrintWords Go.Proofs.Ytgeonpciodepgaa.G Go.Proofs.YtgeonpciodepgaaW.PrintWords.Kd
theorem Ii (a b:Int):mn a b=if b<a then b else a:=rfl
theorem Iu (n:Int) (E:List S59) (hE:ok n E):∀ (suf p:List S59) (f:List Int) (b:Bool),p++suf=E->Lab n E f->
  ∃f' b',Lab n E f'/\tot f'<=tot f/\(b'=false->b=false/\f'=f/\∀t∈suf,rd f t.f0=rd f t.f1)/\(b'=true->b=true\/tot f'<tot f)/\
   ∀r,Ev (fun k=>pV.l1 k f' b' n E) r->Ev (fun k=>pV.l2 k f b (p++suf) ((p++suf).length:Int) (p.length:Int) n E) r:=by
 intro suf
 have hEb:(E.length:Int)<big:=by have:=uX hE;unfold big;omega
 induction suf with
 |nil=>
  intro p f b he hL
  refine⟨f,b,hL,Nat.le_refl _,fun h=>⟨h,rfl,by simp⟩,fun h=> .inl h,fun r hr=>?_⟩
  refine Ev.step (fun k=>by simp only [pV.l2,uj,if_false]<;>exact rfl) hr
 |cons t suf ih=>
  intro p f b he hL
  have hp:(p.length:Int)<big:=ui (by rw[he];exact hEb)
  have ht:t∈E:=by rw[←he];simp
  have hr:=hE.2.2.1 t ht
  unfold inr at hr
  have b1:0<=t.f0:=hr.1
  have b2:t.f0<(f.length:Int):=by rw[hL.len];omega
  have b3:0<=t.f1:=by omega
  have b4:t.f1<(f.length:Int):=by rw[hL.len];omega
  by_cases c:rd f t.f0=rd f t.f1
  ·obtain⟨f',b',h1,h2,h3,h4,h5⟩:=ih (p++[t]) f b (by rw[←he];simp) hL
   refine⟨f',b',h1,h2,fun e=>?_,h4,fun r hr=>?_⟩
   ·obtain⟨x,y,z⟩:=h3 e
    refine⟨x,y,fun s hs=>?_⟩
    rcases List.mem_cons.1 hs with rfl|hs
    ·exact c
    exact z s hs
   refine Ev.step (fun k=>by simp only [pV.l2,qV,nn,if_true,Bc,rC (t:=t) hp,b1,b2,b3,b4,if_pos c]<;>exact rfl) ?_
   rw[ry p t suf]
   exact h5 r hr
  have lo0:=hL.low t.f0 b1 (by omega)
  have lo1:=hL.low t.f1 b3 (by omega)
  have hm:0<=mn (rd f t.f0) (rd f t.f1)/\mn (rd f t.f0) (rd f t.f1)<=rd f t.f0/\mn (rd f t.f0) (rd f t.f1)<=rd f t.f1/\(mn (rd f t.f0) (rd f t.f1)=rd f t.f0\/mn (rd f t.f0) (rd f t.f1)=rd f t.f1):=by
   rw[Ii];split<;>omega
  generalize hg:mn (rd f t.f0) (rd f t.f1)=m at hm
  have hs:∀v,0<=v->rd ((f.set t.f0.toNat m).set t.f1.toNat m) v=if t.f1=v then m else if t.f0=v then m else rd f v:=fun v hv=>by
   rw[Ab b3 (by rw[List.length_set];exact b4) hv,Ab b1 b2 hv]
  have hconn01:qK E t.f0 t.f1:=qK.tie ht hr.2.1
  have hc0:=hL.conn t.f0 b1 (by omega)
  have hc1:=hL.conn t.f1 b3 (by omega)
  have hcm:qK E t.f0 m/\qK E t.f1 m:=by
   rcases hm.2.2.2 with e|e
   ·rw[e];exact⟨hc0,hconn01.symm.trans hc0⟩
   rw[e];exact⟨hconn01.trans hc1,hc1⟩
  have hL':Lab n E ((f.set t.f0.toNat m).set t.f1.toNat m):=by
   refine⟨by rw[List.length_set,List.length_set];exact hL.len,fun v h0 h1=>?_,fun v h0 h1=>?_⟩
   ·rw[hs v h0]
    have:=hL.low v h0 h1
    split
    ·subst_vars;omega
    split
    ·subst_vars;omega
    exact this
   rw[hs v h0]
   split
   ·subst_vars;exact hcm.2
   split
   ·subst_vars;exact hcm.1
   exact hL.conn v h0 h1
  have t0:(tot (f.set t.f0.toNat m):Int)=tot f - rd f t.f0+m:=ER (by omega) hm.1 lo0.1
  have e1:(f.set t.f0.toNat m).getD t.f1.toNat 0=rd f t.f1:=by
   have:=Ab (f:=f) (u:=t.f0) (v:=t.f1) (x:=m) b1 b2 b3
   rw[if_neg (by omega)]at this
   exact this
  have t1:(tot ((f.set t.f0.toNat m).set t.f1.toNat m):Int)=tot (f.set t.f0.toNat m) - rd f t.f1+m:=by
   have:=ER (f:=f.set t.f0.toNat m) (i:=t.f1.toNat) (x:=m) (by rw[List.length_set];omega) hm.1 (by rw[e1];exact lo1.1)
   rw[e1]at this
   exact this
  have hlt:tot ((f.set t.f0.toNat m).set t.f1.toNat m)<tot f:=by omega
  obtain⟨f',b',h1,h2,h3,h4,h5⟩:=ih (p++[t]) ((f.set t.f0.toNat m).set t.f1.toNat m) true (by rw[←he];simp) hL'
  refine⟨f',b',h1,by omega,fun e=>?_,fun _=> .inr (by omega),fun r hr=>?_⟩
  ·have:=(h3 e).1
   simp at this
  refine Ev.step (fun k=>by simp only [pV.l2,qV,nn,if_true,Bc,rC (t:=t) hp,b1,b2,b3,b4,if_neg c,hg]<;>exact rfl) ?_
  rw[ry p t suf]
  exact h5 r hr
theorem MV (n:Int) (E:List S59) (hE:ok n E):∀ (m:Nat) (f:List Int),tot f<=m->Lab n E f->∃f',Ev (fun k=>pV.l1 k f true n E) f'/\Parts n E f':=by
 intro m
 induction m with
 |zero=>
  intro f hm hL
  obtain⟨f',b',h1,h2,h3,h4,h5⟩:=Iu n E hE E [] f false rfl hL
  cases b' with
  |true=>
   rcases h4 rfl with h|h
   ·simp at h
   omega
  |false=>
   obtain⟨_,rfl,h⟩:=h3 rfl
   refine⟨f',?_,h1.parts hE.2.2.1 h⟩
   refine Ev.step (fun k=>by simp only [pV.l1,if_true]<;>exact rfl) ?_
   refine h5 f' ?_
   refine Ev.step (fun k=>by simp only [pV.l1,Bool.false_eq_true,if_false]<;>exact rfl) ?_
   exact Ev.val rfl
 |succ m ih=>
  intro f hm hL
  obtain⟨f',b',h1,h2,h3,h4,h5⟩:=Iu n E hE E [] f false rfl hL
  cases b' with
  |true=>
   rcases h4 rfl with h|h
   ·simp at h
   obtain⟨f2,e2,p2⟩:=ih f' (by omega) h1
   refine⟨f2,?_,p2⟩
   refine Ev.step (fun k=>by simp only [pV.l1,if_true]<;>exact rfl) ?_
   exact h5 f2 e2
  |false=>
   obtain⟨_,rfl,h⟩:=h3 rfl
   refine⟨f',?_,h1.parts hE.2.2.1 h⟩
   refine Ev.step (fun k=>by simp only [pV.l1,if_true]<;>exact rfl) ?_
   refine h5 f' ?_
   refine Ev.step (fun k=>by simp only [pV.l1,Bool.false_eq_true,if_false]<;>exact rfl) ?_
   exact Ev.val rfl
theorem IC {n v:Int}(h0:0<=v) (h1:v<n):rd (sN n) v=v:=by
 unfold rd sN
 rw[List.getD_eq_getElem?_getD,List.getElem?_map,List.getElem?_range (by omega)]
 simp[Int.toNat_of_nonneg h0]
theorem MU (n:Int) (E:List S59) (h8:n<=8):∀ (d:Nat) (i:Int),0<=i->i+d=n->∀r,Ev (fun k=>pV.l1 k (sN n) true n E) r->
  Ev (fun k=>pV.l0 k (sN i) n i n E) r:=by
 intro d
 induction d with
 |zero=>
  intro i h0 hi r hr
  have hi':i=n:=by omega
  subst hi'
  have c:¬i<i:=by omega
  exact Ev.step (fun k=>by simp only [pV.l0,c,if_false]<;>exact rfl) hr
 |succ d ih=>
  intro i h0 hi r hr
  have c:i<n:=by omega
  have w:wrap64 (i+1)=i+1:=w64 (by omega) (by omega)
  have hl:(sN i).length<17592186044416:=by rw[yu];omega
  refine Ev.step (fun k=>by simp only [pV.l0,c,if_true,w,hl,←Et h0]<;>exact rfl) ?_
  exact ih (i+1) (by omega) (by omega) r hr
theorem Ir (n:Int) (E:List S59) (hE:ok n E):∃f,Ev (fun k=>pV.f k n E) f/\Parts n E f:=by
 have hL:Lab n E (sN n):=by
  have h0:=hE.1
  refine⟨by rw[yu];omega,fun v h0 h1=>?_,fun v h0 h1=>?_⟩
  ·rw[IC h0 h1];exact⟨h0,Int.le_refl _⟩
  rw[IC h0 h1];exact .refl _
 obtain⟨f,h1,h2⟩:=MV n E hE _ (sN n) (Nat.le_refl _) hL
 refine⟨f,?_,h2⟩
 unfold pV.f
 have h0:=hE.1
 exact MU n E hE.2.1 n.toNat 0 (Int.le_refl 0) (by omega) f h1
def PL (n:Int) (E:List Tie) (a:List Int):Prop:=∀v,0<=v->v<(a.length:Int)->0<=rd a v/\rd a v<=v/\qK E v (rd a v)/\∀u,0<=u->u<n->qK E v u->rd a v<=u
theorem Nb {a:List Int}{x v:Int}(h0:0<=v) (h1:v<(a.length:Int)):rd (a++[x]) v=rd a v:=by
 unfold rd
 rw[List.getD_eq_getElem?_getD,List.getD_eq_getElem?_getD,List.getElem?_append_left (by omega)]
theorem Na (a:List Int) (x:Int):rd (a++[x]) (a.length:Int)=x:=sO a x []
theorem PL.parts {n:Int}{E:List Tie}{a:List Int}(h:PL n E a) (hl:(a.length:Int)=n):Parts n E a where
 len:=hl
 low:=fun v h0 h1=>⟨(h v h0 (by omega)).1,(h v h0 (by omega)).2.1⟩
 conn:=fun v h0 h1=>(h v h0 (by omega)).2.2.1
 same:=fun u v u0 u1 v0 v1 c=>by
  obtain⟨a1,a2,a3,a4⟩:=h u u0 (by omega)
  obtain⟨b1,b2,b3,b4⟩:=h v v0 (by omega)
  have:=a4 _ b1 (by omega) (c.trans b3)
  have:=b4 _ a1 (by omega) (c.symm.trans a3)
  omega
theorem Oj (n i:Int) (E:List S59) (f:List Bool) (hf:(f.length:Int)=n) (h8:n<=8) (hfc:∀v,0<=v->v<n->(qz false f v=true↔qK E i v)) (i0:0<=i) (i1:i<n) (a:List Int) (hal:(a.length:Int)=i):
  ∀ (d:Nat) (v:Int),0<=v->v+d=i->(∀u,0<=u->u<v->¬qK E i u)->∃x,0<=x/\x<=i/\qK E i x/\(∀u,0<=u->u<x->¬qK E i u)/\
   ∀r,Ev (fun k=>su.l0 k (a++[x]) (i+1) n E) r->Ev (fun k=>su.l1 k a i f v n E) r:=by
 intro d
 have wi:wrap64 (i+1)=i+1:=w64 (by omega) (by omega)
 have al:a.length<17592186044416:=by omega
 induction d with
 |zero=>
  intro v h0 hd hu
  obtain rfl:v=i:=by omega
  have c:qz false f v=true:=(hfc v h0 i1).2 (.refl _)
  refine⟨v,h0,Int.le_refl _,.refl _,hu,fun r hr=>?_⟩
  have f1:v<(f.length:Int):=by omega
  refine Ev.step (fun k=>by simp only [su.l1,if_pos h0,if_pos f1,if_pos c,if_pos al,wi]<;>exact rfl) hr
 |succ d ih=>
  intro v h0 hd hu
  have f1:v<(f.length:Int):=by omega
  have wv:wrap64 (v+1)=v+1:=w64 (by omega) (by omega)
  by_cases c:qz false f v=true
  ·refine⟨v,h0,by omega,(hfc v h0 (by omega)).1 c,hu,fun r hr=>?_⟩
   refine Ev.step (fun k=>by simp only [su.l1,if_pos h0,if_pos f1,if_pos c,if_pos al,wi]<;>exact rfl) hr
  have nc:¬qK E i v:=fun q=>c ((hfc v h0 (by omega)).2 q)
  obtain⟨x,x0,x1,x2,x3,x4⟩:=ih (v+1) (by omega) (by omega) (fun u u0 u1=>by
   by_cases e:u=v
   ·subst e;exact nc
   exact hu u u0 (by omega))
  refine⟨x,x0,x1,x2,x3,fun r hr=>?_⟩
  refine Ev.step (fun k=>by simp only [su.l1,if_pos h0,if_pos f1,if_neg c,wv]<;>exact rfl) (x4 r hr)
theorem Oi (n:Int) (E:List S59) (hE:ok n E):∀ (d:Nat) (i:Int) (a:List Int),0<=i->i+d=n->(a.length:Int)=i->PL n E a->
  ∃f,Ev (fun k=>su.l0 k a i n E) f/\Parts n E f:=by
 intro d
 induction d with
 |zero=>
  intro i a h0 h hl hp
  obtain rfl:i=n:=by omega
  exact⟨a,Ev.step (fun k=>by simp only [su.l0,if_neg (Int.lt_irrefl _)]<;>exact rfl) (Ev.val rfl),hp.parts hl⟩
 |succ d ih=>
  intro i a h0 h hl hp
  have c:i<n:=by omega
  obtain⟨fl,e1,e2,e3⟩:=Nc n E i hE h0 c
  obtain⟨x,x0,x1,x2,x3,x4⟩:=Oj n i E fl e2 hE.2.1 e3 h0 c a hl i.toNat 0 (Int.le_refl _) (by omega) (fun u u0 u1=>by omega)
  obtain⟨f,f1,f2⟩:=ih (i+1) (a++[x]) (by omega) (by omega) (by simp;omega) (fun v v0 v1=>by
   by_cases e:v=i
   ·subst e
    have:rd (a++[x]) v=x:=by rw[←hl];exact Na a x
    rw[this]
    refine⟨x0,x1,x2,fun u u0 u1 cu=>?_⟩
    apply Classical.byContradiction
    intro q
    exact x3 u u0 (by omega) cu
   have v2:v<(a.length:Int):=by simp at v1;omega
   rw[Nb v0 v2]
   exact hp v v0 v2)
  exact⟨f,Ev.step (fun k=>by simp only [su.l0,if_pos c]<;>exact rfl) (Ev.bind e1 (x4 f f1)),f2⟩
theorem Oh (n:Int) (E:List S59) (hE:ok n E):∃f,Ev (fun k=>su.f k n E) f/\Parts n E f:=by
 have h0:=hE.1
 obtain⟨f,a,b⟩:=Oi n E hE n.toNat 0 [] (Int.le_refl _) (by omega) rfl (fun v v0 v1=>by simp at v1;omega)
 refine⟨f,?_,b⟩
 unfold su.f
 simp only [Option.bind_some]
 refine Ev.bind (yC n E (by have:=uX hE;unfold big;omega)) ?_
 simp only [decide_eq_true hE,if_true]
 exact a
theorem NR (s t:Tie):(!(s.f0==t.f0)||(!(s.f1==t.f1)))= !decide (s=t):=by
 obtain⟨a,b⟩:=s
 obtain⟨c,d⟩:=t
 simp only [Tie.mk.injEq]
 by_cases h:a=c<;>by_cases k:b=d<;>simp[h,k]
theorem NE (n a b m:Int):∀ (suf p q:List S59),((p++suf).length:Int)<=1048576->q.length<=p.length->
  Ev (fun k=>qX.l0 k a b (p.length:Int) n (p++suf) m q) (m,q++cut suf (oM a b),true):=by
 intro suf
 induction suf with
 |nil=>
  intro p q hb hq
  refine Ev.step (fun k=>by simp only [qX.l0,uj,if_false]<;>exact rfl) ?_
  exact Ev.val (by simp[cut])
 |cons t suf ih=>
  intro p q hb hq
  have hb':((p++t::suf).length:Int)<big:=by unfold big;omega
  have hp:(p.length:Int)<big:=ui hb'
  have hq8:q.length<8796093022208:=by rw[List.length_append]at hb;omega
  refine Ev.step (fun k=>by simp only [qX.l0,qV,nn,if_true,z_,rC (t:=t) hp,zg,Option.bind_some,NR,hq8]<;>exact rfl) ?_
  by_cases c:t=oM a b
  ·have c':(!decide (t=oM a b))=false:=by rw[decide_eq_true c];rfl
   simp only [c',Bool.false_eq_true,if_false]
   rw[ry p t suf]
   refine Ev.eq (ih (p++[t]) q (by rw[←ry];exact hb) (by simp;omega)) ?_
   simp[cut,c]
  have c':(!decide (t=oM a b))=true:=by rw[decide_eq_false c];rfl
  simp only [c',if_true]
  rw[ry p t suf]
  refine Ev.eq (ih (p++[t]) (q++[t]) (by rw[←ry];exact hb) (by simp;omega)) ?_
  simp[cut,c]
theorem Bj (n a b:Int) (E:List S59) (hE:(E.length:Int)<=1048576):
  Ev (fun k=>qX.f k n E a b) (if ok n E/\oM a b∈E then(n,cut E (oM a b),true) else(0,[],false)):=by
 unfold qX.f
 refine Ev.bind (C_ n a b E (by unfold big;omega)) ?_
 by_cases c:ok n E/\oM a b∈E
 ·simp only [if_pos c]
  simp only [c,and_self,decide_true,if_true]
  exact NE n a b n E [] [] hE (Nat.le_refl _)
 simp only [if_neg c]
 simp only [c,decide_false,Bool.false_eq_true,if_false]
 exact Ev.val rfl
theorem N8 (f:List Int) (hf:(f.length:Int)<=8):∀ (d:Nat) (i c:Int),0<=i->i+d=f.length->∃r,Ev (fun k=>tO.l0 k f c i) r:=by
 intro d
 induction d with
 |zero=>
  intro i c h0 h
  have e:¬i<(f.length:Int):=by omega
  exact⟨c,Ev.step (fun k=>by simp only [tO.l0,if_neg e]<;>exact rfl) (Ev.val rfl)⟩
 |succ d ih=>
  intro i c h0 h
  have e:i<(f.length:Int):=by omega
  have w:wrap64 (i+1)=i+1:=w64 (by omega) (by omega)
  by_cases q:rd f i=i
  ·obtain⟨r,hr⟩:=ih (i+1) (wrap64 (c+1)) (by omega) (by omega)
   exact⟨r,Ev.step (fun k=>by simp only [tO.l0,if_pos e,if_pos h0,if_pos q,w]<;>exact rfl) hr⟩
  obtain⟨r,hr⟩:=ih (i+1) c (by omega) (by omega)
  exact⟨r,Ev.step (fun k=>by simp only [tO.l0,if_pos e,if_pos h0,if_neg q,w]<;>exact rfl) hr⟩
theorem ES (n:Int) (E:List S59) (hE:ok n E):∃r,Ev (fun k=>tO.f k n E) r:=by
 obtain⟨f,f1,f2⟩:=Oh n E hE
 have hl:=f2.len
 have h8:=hE.2.1
 obtain⟨r,hr⟩:=N8 f (by omega) f.length 0 0 (Int.le_refl _) (by omega)
 refine⟨r,?_⟩
 unfold tO.f
 refine Ev.bind (yC n E (by have:=uX hE;unfold big;omega)) ?_
 simp only [decide_eq_true hE,if_true]
 exact Ev.bind f1 hr
theorem KC (n a b:Int) (E:List S59) (hE:ok n E):∃r,Ev (fun k=>uJ.f k n E a b) r:=by
 have hl:=uX hE
 unfold uJ.f
 by_cases c:ok n E/\oM a b∈E
 ·obtain⟨x,hx⟩:=ES n (cut E (oM a b)) (Ba _ hE)
  obtain⟨y,hy⟩:=ES n E hE
  refine⟨decide (x>y),Ev.bind (Bj n a b E (by omega)) ?_⟩
  simp only [if_pos c,if_true]
  exact Ev.bind hx (Ev.bind hy (Ev.val rfl))
 refine⟨false,Ev.bind (Bj n a b E (by omega)) ?_⟩
 simp only [if_neg c,Bool.false_eq_true,if_false]
 exact Ev.val rfl
theorem KD (n:Int) (E:List S59) (hE:ok n E):∀ (suf p:List S59) (q:List S59),p++suf=E->q.length<=p.length->∃r,Ev (fun k=>rY.l0 k q (p.length:Int) n E) r:=by
 have hl:=uX hE
 intro suf
 induction suf with
 |nil=>
  intro p q e hq
  rw[List.append_nil]at e
  subst e
  have c:¬ (p.length:Int)<(p.length:Int):=by omega
  exact⟨q,Ev.step (fun k=>by simp only [rY.l0,if_neg c]<;>exact rfl) (Ev.val rfl)⟩
 |cons t suf ih=>
  intro p q e hq
  have c:(p.length:Int)<(E.length:Int):=by rw[←e];exact qV p t suf
  have w:wrap64 ((p.length:Int)+1)=((p++[t]).length:Int):=rC (by unfold big;omega)
  have q8:q.length<8796093022208:=by omega
  obtain⟨b,hb⟩:=KC n ((nk E (p.length:Int)).f0) ((nk E (p.length:Int)).f1) E hE
  cases b with
  |true=>
   obtain⟨r,hr⟩:=ih (p++[t]) (q++[⟨(nk E (p.length:Int)).f0,(nk E (p.length:Int)).f1⟩]) (by rw[←e];simp) (by simp;omega)
   refine⟨r,Ev.step (fun k=>by simp only [rY.l0,if_pos c,nn,if_true,w]<;>exact rfl) (Ev.bind hb ?_)⟩
   simp only [if_true,if_pos q8]
   exact hr
  |false=>
   obtain⟨r,hr⟩:=ih (p++[t]) q (by rw[←e];simp) (by simp;omega)
   refine⟨r,Ev.step (fun k=>by simp only [rY.l0,if_pos c,nn,if_true,w]<;>exact rfl) (Ev.bind hb ?_)⟩
   simp only [Bool.false_eq_true,if_false]
   exact hr
theorem KE (n:Int) (E:List S59) (hE:ok n E):∃r,Ev (fun k=>rY.f k n E) r:=by
 obtain⟨r,hr⟩:=KD n E hE E [] [] rfl (Nat.le_refl _)
 refine⟨r,?_⟩
 unfold rY.f
 simp only [Option.bind_some]
 refine Ev.bind (yC n E (by have:=uX hE;unfold big;omega)) ?_
 simp only [decide_eq_true hE,if_true]
 exact hr
theorem N9 (n a m:Int) (E:List S59) (hE:(E.length:Int)<=64):∀ (suf p:List S59) (q:List S59),p++suf=E->q.Sublist p->∃F,Ev (fun k=>sH.l0 k a (p.length:Int) n E m q) (m,F)/\F.Sublist E:=by
 intro suf
 induction suf with
 |nil=>
  intro p q e hq
  rw[List.append_nil]at e
  subst e
  have c:¬ (p.length:Int)<(p.length:Int):=by omega
  exact⟨q,Ev.step (fun k=>by simp only [sH.l0,if_neg c]<;>exact rfl) (Ev.val rfl),hq⟩
 |cons t suf ih=>
  intro p q e hq
  have c:(p.length:Int)<(E.length:Int):=by rw[←e];exact qV p t suf
  have w:wrap64 ((p.length:Int)+1)=((p++[t]).length:Int):=rC (by unfold big;omega)
  have q8:q.length<8796093022208:=by have:=hq.length_le;omega
  have rt:nk E (p.length:Int)=t:=by unfold nk;rw[←e];exact za p t suf _
  have no:q.Sublist (p++[t]):=hq.trans (List.sublist_append_left _ _)
  by_cases c1:t.f0=a
  ·obtain⟨r,hr,hs⟩:=ih (p++[t]) q (by rw[←e];simp) no
   exact⟨r,Ev.step (fun k=>by simp only [sH.l0,if_pos c,nn,if_true,w,rt,if_pos c1]<;>exact rfl) hr,hs⟩
  by_cases c2:t.f1=a
  ·obtain⟨r,hr,hs⟩:=ih (p++[t]) q (by rw[←e];simp) no
   exact⟨r,Ev.step (fun k=>by simp only [sH.l0,if_pos c,nn,if_true,w,rt,if_neg c1,if_pos c2]<;>exact rfl) hr,hs⟩
  obtain⟨r,hr,hs⟩:=ih (p++[t]) (q++[⟨t.f0,t.f1⟩]) (by rw[←e];simp) (hq.append (List.Sublist.refl _))
  exact⟨r,Ev.step (fun k=>by simp only [sH.l0,if_pos c,nn,if_true,w,rt,if_neg c1,if_neg c2,if_pos q8]<;>exact rfl) hr,hs⟩
theorem N_ (n a:Int) (E:List S59) (hE:ok n E):∃m F,Ev (fun k=>sH.f k n E a) (m,F)/\ok m F:=by
 have hl:=uX hE
 unfold sH.f
 by_cases c:ok n E/\0<=a/\a<n
 ·obtain⟨F,f1,f2⟩:=N9 n a n E hl E [] [] rfl (List.Sublist.refl _)
  refine⟨n,F,Ev.bind (vQ n a E (by unfold big;omega)) ?_,Io hE f2⟩
  simp only [decide_eq_true c,if_true]
  exact f1
 refine⟨0,[],Ev.bind (vQ n a E (by unfold big;omega)) ?_,⟨Int.le_refl _,by decide,by simp,by simp[asc]⟩⟩
 simp only [decide_eq_false c,Bool.false_eq_true,if_false]
 exact Ev.val rfl
theorem Kk (n v:Int) (E:List S59) (hE:ok n E):Ev (fun k=>yD.f k n E v) (((next n E v).length:Int)==0):=by
 unfold yD.f
 exact Ev.bind (AY n v E hE) (Ev.val rfl)
end Go.Proofs.Ytgeonpciodepgaa.P
namespace Go.Proofs.Ytgeonpciodepgaa.G
def wB:List Int->List Int->Prop
 |[],[]=>False
 |[],_::_=>True
 |_::_,[]=>False
 |x::a,y::b=>x<y\/x=y/\wB a b
instance Me:(a b:List Int)->Decidable (wB a b)
 |[],[]=>isFalse (fun h=>h)
 |[],_::_=>isTrue trivial
 |_::_,[]=>isFalse (fun h=>h)
 |x::a,y::b=>by
  have:=Me a b
  unfold wB
  infer_instance
theorem HY:∀a:List Int,¬wB a a
 |[],h=>h
 |x::a,h=>by
  rcases h with h|h
  ·omega
  exact HY a h.2
theorem HZ:∀ {a b c:List Int},wB a b->wB b c->wB a c
 |[],[],_,h,_=>h.elim
 |[],_::_,[],_,k=>k.elim
 |[],_::_,_::_,_,_=>trivial
 |_::_,[],_,h,_=>h.elim
 |_::_,_::_,[],_,k=>k.elim
 |x::a,y::b,z::c,h,k=>by
  rcases h with h|⟨rfl,h⟩
  ·rcases k with k|⟨rfl,k⟩
   ·exact .inl (by omega)
   exact .inl h
  rcases k with k|⟨rfl,k⟩
  ·exact .inl k
  exact .inr ⟨rfl,HZ h k⟩
theorem H5:∀a b:List Int,wB a b\/a=b\/wB b a
 |[],[]=> .inr (.inl rfl)
 |[],_::_=> .inl trivial
 |_::_,[]=> .inr (.inr trivial)
 |x::a,y::b=>by
  rcases Int.lt_trichotomy x y with h|h|h
  ·exact .inl (.inl h)
  ·subst h
   rcases H5 a b with h|h|h
   ·exact .inl (.inr ⟨rfl,h⟩)
   ·exact .inr (.inl (by rw[h]))
   exact .inr (.inr (.inr ⟨rfl,h⟩))
  exact .inr (.inr (.inl h))
def wlt (a b:List Int):Prop:=a.length<b.length\/a.length=b.length/\wB a b
instance(a b:List Int):Decidable (wlt a b):=by unfold wlt;infer_instance
theorem ET (a:List Int):¬wlt a a:=by
 rintro(h|h)
 ·omega
 exact HY a h.2
theorem EU {a b c:List Int}(h:wlt a b) (k:wlt b c):wlt a c:=by
 rcases h with h|⟨h,h2⟩
 ·rcases k with k|⟨k,_⟩
  ·exact .inl (by omega)
  exact .inl (by omega)
 rcases k with k|⟨k,k2⟩
 ·exact .inl (by omega)
 exact .inr ⟨by omega,HZ h2 k2⟩
theorem EW (a b:List Int):wlt a b\/a=b\/wlt b a:=by
 rcases Nat.lt_trichotomy a.length b.length with h|h|h
 ·exact .inl (.inl h)
 ·rcases H5 a b with k|k|k
  ·exact .inl (.inr ⟨h,k⟩)
  ·exact .inr (.inl k)
  exact .inr (.inr (.inr ⟨h.symm,k⟩))
 exact .inr (.inr (.inl h))
def Bi (l:List (List Int)):List (List Int):=l.mergeSort fun a b=> !decide (wlt b a)
theorem IQ (l:List (List Int)):(Bi l).Perm l:=List.mergeSort_perm l _
theorem ND (l:List (List Int)):(Bi l).Pairwise fun a b=>¬wlt b a:=by
 have:=List.pairwise_mergeSort (le:=fun a b=> !decide (wlt b a)) (fun a b c h1 h2=>by
  simp only [Bool.not_eq_true',decide_eq_false_iff_not]at*
  intro h
  rcases EW a b with x|x|x
  ·exact h2 (EU h x)
  ·subst x;exact h2 h
  ·exact h1 x) (fun a b=>by
  rcases EW a b with x|x|x
  ·have:¬wlt b a:=fun k=>ET _ (EU x k)
   simp[this]
  ·subst x;simp[ET]
  have:¬wlt a b:=fun k=>ET _ (EU x k)
  simp[this]) l
 exact this.imp (fun{a b} h=>by simpa using h)
theorem NC {l:List (List Int)}{p:List Int}(hp:p∈l) (hm:∀q∈l,¬wlt q p):∃r,Bi l=p::r:=by
 have h1:=ND l
 have h2:=(IQ l).mem_iff (a:=p)
 cases e:Bi l with
 |nil=>rw[e]at h2;exact absurd (h2.2 hp) (by simp)
 |cons h r=>
  rw[e]at h1 h2
  have hh:h∈l:=(IQ l).mem_iff.1 (by rw[e];simp)
  rcases EW p h with x|x|x
  ·rcases List.mem_cons.1 (h2.2 hp) with q|q
   ·rw[q];exact⟨r,rfl⟩
   exact absurd x ((List.pairwise_cons.1 h1).1 p q)
  ·rw[x];exact⟨r,rfl⟩
  exact absurd x (hm h hh)
structure vv (E:List Tie) (a b:Int) (p:List Int):Prop where
 head:p.head? =some a
 last:p.getLast? =some b
 ties:∀t∈ties p,t∈E
 nodup:p.Nodup
def xN (n:Int) (E:List Tie) (tgt:Int):Nat->List Int->Int->List (List Int)
 |0,_,_=>[]
 |d+1,pre,v=>if v=tgt then[pre++[v]] else((next n E v).filter fun k=> !decide (k∈pre++[v])).flatMap fun k=>xN n E tgt d (pre++[v]) k
theorem Ih {n tgt:Int}{E:List Tie}(hE:∀t∈E,inr n t):∀ (d:Nat) (pre:List Int) (v:Int) (p:List Int),p∈xN n E tgt d pre v->(pre++[v]).Nodup->
  ∃ext,p=pre++v::ext/\(∀t∈ties (v::ext),t∈E)/\(v::ext).getLast? =some tgt/\p.Nodup
 |0,pre,v,p,h,_=>by simp[xN]at h
 |d+1,pre,v,p,h,hn=>by
  unfold xN at h
  by_cases c:v=tgt
  ·rw[if_pos c,List.mem_singleton]at h
   exact⟨[],h,by simp[ties],by simp[c],h▸hn⟩
  rw[if_neg c,List.mem_flatMap]at h
  obtain⟨k,hk,h⟩:=h
  rw[List.mem_filter,wR hE]at hk
  have hk2:k∉pre++[v]:=by simpa using hk.2
  have hn2:((pre++[v])++[k]).Nodup:=by
   rw[List.nodup_append]
   exact⟨hn,by simp,fun a ha b hb e=>by rw[List.mem_singleton]at hb;subst hb;subst e;exact hk2 ha⟩
  obtain⟨ext,e,ht,hl,hd⟩:=Ih hE d (pre++[v]) k p h hn2
  refine⟨k::ext,by rw[e];simp,fun t ht2=>?_,?_,hd⟩
  ·simp only [ties,List.mem_cons]at ht2
   rcases ht2 with rfl|ht2
   ·exact hk.1
   exact ht t ht2
  rw[List.getLast?_cons_cons];exact hl
theorem Jb {n tgt:Int}{E:List Tie}(hE:∀t∈E,inr n t):∀ (d:Nat) (pre:List Int) (v:Int) (ext:List Int),(∀t∈ties (v::ext),t∈E)->(v::ext).getLast? =some tgt->(pre++v::ext).Nodup->ext.length<d->
  pre++v::ext∈xN n E tgt d pre v
 |0,_,_,_,_,_,_,h=>absurd h (Nat.not_lt_zero _)
 |d+1,pre,v,[],_,hl,_,_=>by
  have:v=tgt:=by simpa using hl
  unfold xN
  rw[if_pos this];simp
 |d+1,pre,v,k::ext,ht,hl,hn,hd=>by
  have c:v≠tgt:=by
   intro c
   rw[List.getLast?_cons_cons]at hl
   have h1:=List.mem_of_getLast? hl
   rw[List.nodup_append]at hn
   exact(List.nodup_cons.1 hn.2.1).1 (c▸h1)
  unfold xN
  rw[if_neg c,List.mem_flatMap]
  have e:pre++v::k::ext=(pre++[v])++k::ext:=by simp
  refine⟨k,?_,?_⟩
  ·rw[List.mem_filter,wR hE]
   refine⟨ht _ (by simp[ties]),?_⟩
   rw[e,List.nodup_append]at hn
   have:k∉pre++[v]:=fun h=>hn.2.2 k h k (by simp) rfl
   simpa using this
  rw[e]at hn⊢
  exact Jb hE d (pre++[v]) k ext (fun t h=>ht t (by simp[ties,h])) (by rw[List.getLast?_cons_cons]at hl;exact hl) hn (by simp at hd;omega)
def BK (n:Int) (E:List Tie) (a b:Int):List (List Int):=Bi (xN n E b 9 [] a)
theorem NZ {n a b:Int}{E:List Tie}(hE:∀t∈E,inr n t) (ha:0<=a/\a<n) {p:List Int}(h:vv E a b p):∀v∈p,0<=v/\v<n:=by
 cases p with
 |nil=>simp
 |cons x r=>
  have:x=a:=by have:=h.head;simpa using this
  subst this
  exact I6 hE r x ha h.ties
theorem N7 {n a b:Int}{E:List Tie}(hE:∀t∈E,inr n t) (ha:0<=a/\a<n) {p:List Int}(h:vv E a b p):(p.length:Int)<=n:=by
 have:=AZ h.nodup (fun x hx=>Ey.2 (NZ hE ha h x hx))
 rw[yu]at this
 omega
theorem Ig {n a b:Int}{E:List Tie}(h8:n<=8) (hE:∀t∈E,inr n t) (ha:0<=a/\a<n) {p:List Int}:p∈xN n E b 9 [] a↔vv E a b p:=by
 constructor
 ·intro h
  obtain⟨ext,e,ht,hl,hn⟩:=Ih hE 9 [] a p h (by simp)
  rw[List.nil_append]at e
  subst e
  exact⟨rfl,hl,ht,hn⟩
 intro h
 have hl:=N7 hE ha h
 cases p with
 |nil=>have:=h.head;simp at this
 |cons x r=>
  have:x=a:=by have:=h.head;simpa using this
  subst this
  exact Jb hE 9 [] x r h.ties h.last h.nodup (by simp at hl;omega)
theorem Kj {n a b:Int}{E:List Tie}(h8:n<=8) (hE:∀t∈E,inr n t) (ha:0<=a/\a<n) {p:List Int}(hp:vv E a b p) (hm:∀q,vv E a b q->¬wlt q p):∃r,BK n E a b=p::r:=
 NC ((Ig h8 hE ha).2 hp) (fun q hq=>hm q ((Ig h8 hE ha).1 hq))
theorem Ki {n a b:Int}{E:List Tie}{p:List Int}(h:vv E a b p):qK E a b:=by
 obtain⟨h1,h2,h3,_⟩:=h
 have go:∀ (p:List Int) (a:Int),(a::p).getLast? =some b->(∀t∈ties (a::p),t∈E)->qK E a b:=by
  intro p
  induction p with
  |nil=>
   intro a h _
   have:a=b:=by simpa using h
   rw[this];exact .refl _
  |cons x p ih=>
   intro a h ht
   rw[List.getLast?_cons_cons]at h
   exact(qK.one (ht _ (by simp[ties]))).trans (ih x h (fun t q=>ht t (by simp[ties,q])))
 cases p with
 |nil=>simp at h1
 |cons x r=>
  have:x=a:=by simpa using h1
  subst this
  exact go r x h2 h3
structure Far (n:Int) (E:List Tie) (b:Int) (f:Int->Int):Prop where
 zero:f b=0
 only:∀v,0<=v->v<n->f v=0->v=b
 down:∀v,0<=v->v<n->0<f v->∃w,oM v w∈E/\f w=f v - 1
 near:∀v w,oM v w∈E->0<=f v->0<=f w/\f w<=f v+1
 lo:∀v,0<=v->v<n-> -1<=f v
def down (n:Int) (E:List Tie) (f:Int->Int):Nat->Int->List Int
 |0,v=>[v]
 |d+1,v=>v::down n E f d (((next n E v).find? fun w=>decide (f w=d)).getD 0)
theorem Mx (n v:Int) (E:List Tie):(next n E v).Pairwise (· <·):=by
 unfold next sN
 refine List.Pairwise.sublist List.filter_sublist ?_
 rw[List.pairwise_map]
 exact List.pairwise_lt_range.imp (fun{a b} h=>by omega)
theorem Far.step {n b:Int}{E:List Tie}{f:Int->Int}(F:Far n E b f) (hE:∀t∈E,inr n t) {d:Nat}{v:Int}(hv:0<=v/\v<n) (hf:f v=(d+1:Nat)):
  ∃x,(next n E v).find? (fun w=>decide (f w=d))=some x/\oM v x∈E/\f x=d/\(0<=x/\x<n)/\∀w,oM v w∈E->f w=d->x<=w:=by
 obtain⟨w,h1,h2⟩:=F.down v hv.1 hv.2 (by omega)
 have hw:w∈next n E v:=(wR hE).2 h1
 cases e:(next n E v).find? (fun w=>decide (f w=d)) with
 |none=>
  rw[List.find?_eq_none]at e
  have:=e w hw
  simp at this
  omega
 |some x=>
  have hx:=List.mem_of_find?_eq_some e
  have hx2:=List.find?_some e
  simp only [decide_eq_true_eq]at hx2
  have ht:=(wR hE).1 hx
  refine⟨x,rfl,ht,hx2,(vB (hE _ ht)).2.1,fun w h1 h2=>?_⟩
  obtain⟨_,ls,rs,e1,e2⟩:=List.find?_eq_some_iff_append.1 e
  have hw:w∈next n E v:=(wR hE).2 h1
  rw[e1,List.mem_append]at hw
  rcases hw with q|q
  ·have:=e2 w q
   simp[h2]at this
  rcases List.mem_cons.1 q with q|q
  ·omega
  have hs:=Mx n v E
  rw[e1,List.pairwise_append]at hs
  have:=(List.pairwise_cons.1 hs.2.1).1 w q
  omega
theorem AR {n b:Int}{E:List Tie}{f:Int->Int}(F:Far n E b f) (hE:∀t∈E,inr n t):∀ (d:Nat) (v:Int),0<=v/\v<n->f v=(d:Int)->
  ∃r,down n E f d v=v::r/\r.length=d/\(v::r).getLast? =some b/\(∀t∈ties (v::r),t∈E)/\(∀x∈r,f x<d)/\(v::r).Nodup
 |0,v,hv,hf=>⟨[],rfl,rfl,by rw[F.only v hv.1 hv.2 hf];rfl,by simp[ties],by simp,by simp⟩
 |d+1,v,hv,hf=>by
  obtain⟨x,e,ht,hx,hr,_⟩:=F.step hE hv hf
  obtain⟨r,e1,e2,e3,e4,e5,e6⟩:=AR F hE d x hr hx
  refine⟨x::r,?_,by simp[e2],?_,?_,?_,?_⟩
  ·unfold down
   rw[e]
   simp only [Option.getD_some,e1]
  ·rw[List.getLast?_cons_cons];exact e3
  ·intro t h
   simp only [ties,List.mem_cons]at h
   rcases h with rfl|h
   ·exact ht
   exact e4 t h
  ·intro y hy
   rcases List.mem_cons.1 hy with rfl|hy
   ·omega
   have:=e5 y hy;omega
  rw[List.nodup_cons]
  refine⟨fun h=>?_,e6⟩
  rcases List.mem_cons.1 h with q|q
  ·rw[q]at hf;omega
  have:=e5 v q;omega
theorem Far.walk {n b:Int}{E:List Tie}{f:Int->Int}(F:Far n E b f):∀ (r:List Int) (v:Int),(v::r).getLast? =some b->(∀t∈ties (v::r),t∈E)->0<=f v/\f v<=(r.length:Int)
 |[],v,h,_=>by
  have:v=b:=by simpa using h
  rw[this,F.zero];simp
 |w::r,v,h,ht=>by
  rw[List.getLast?_cons_cons]at h
  have:=F.walk r w h (fun t q=>ht t (by simp[ties,q]))
  have:=F.near w v (by rw[Af];exact ht _ (by simp[ties])) (by omega)
  simp only [List.length_cons]
  omega
theorem G5 {n b:Int}{E:List Tie}{f:Int->Int}(F:Far n E b f) (hE:∀t∈E,inr n t):∀ (d:Nat) (v:Int) (q:List Int),0<=v/\v<n->f v=(d:Int)->(v::q).getLast? =some b->(∀t∈ties (v::q),t∈E)->q.length<=d->
  q.length=d/\¬wB (v::q) (down n E f d v)
 |0,v,[],_,_,_,_,_=>⟨rfl,by simp[down,wB]⟩
 |0,v,_::_,_,_,_,_,h=>by simp at h
 |d+1,v,[],hv,hf,h,_,_=>by
  have:v=b:=by simpa using h
  rw[this,F.zero]at hf;omega
 |d+1,v,w::q,hv,hf,h,ht,hl=>by
  obtain⟨x,e,htx,hx,hr,hmin⟩:=F.step hE hv hf
  rw[List.getLast?_cons_cons]at h
  have hw:=F.walk q w h (fun t k=>ht t (by simp[ties,k]))
  have htw:oM v w∈E:=ht _ (by simp[ties])
  have h2:=F.near w v (by rw[Af];exact htw) (by omega)
  have hfw:f w=(d:Int):=by simp only [List.length_cons]at hl;omega
  obtain⟨a,b2⟩:=G5 F hE d w q (vB (hE _ htw)).2.1 hfw h (fun t k=>ht t (by simp[ties,k])) (by simp only [List.length_cons]at hl;omega)
  refine⟨by simp[a],?_⟩
  unfold down
  rw[e]
  simp only [Option.getD_some]
  intro k
  have hm:=hmin w htw hfw
  obtain⟨r,e1,_⟩:=AR F hE d x hr hx
  rcases k with k|⟨_,k⟩
  ·omega
  by_cases c:w=x
  ·subst c;exact b2 k
  rw[e1]at k
  rcases k with k|k
  ·omega
  exact c k.1
def CK (n:Int) (E:List Tie) (f:Int->Int) (a:Int):List Int:=down n E f (f a).toNat a
theorem Far.first {n a b:Int}{E:List Tie}{f:Int->Int}(F:Far n E b f) (hE:∀t∈E,inr n t) (ha:0<=a/\a<n) (h:0<=f a):vv E a b (CK n E f a)/\∀q,vv E a b q->¬wlt q (CK n E f a):=by
 obtain⟨r,e1,e2,e3,e4,e5,e6⟩:=AR F hE (f a).toNat a ha (by omega)
 unfold CK
 refine⟨⟨by rw[e1];rfl,by rw[e1];exact e3,by rw[e1];exact e4,by rw[e1];exact e6⟩,fun q hq k=>?_⟩
 cases q with
 |nil=>have:=hq.head;simp at this
 |cons x q=>
  have:x=a:=by have:=hq.head;simpa using this
  subst this
  have hl:q.length<=(f x).toNat:=by
   rw[e1]at k
   rcases k with k|k
   ·simp only [List.length_cons,e2]at k;omega
   have:=k.1;simp only [List.length_cons,e2]at this;omega
  obtain⟨l1,l2⟩:=G5 F hE (f x).toNat x q ha (by omega) hq.last hq.ties hl
  rcases k with k|k
  ·rw[e1]at k;simp only [List.length_cons,e2]at k;omega
  exact l2 k.2
theorem Far.conn {n a b:Int}{E:List Tie}{f:Int->Int}(F:Far n E b f) (hE:∀t∈E,inr n t) (ha:0<=a/\a<n):0<=f a↔qK E a b:=by
 constructor
 ·intro h;exact Ki (n:=n) (F.first hE ha h).1
 intro h
 refine h.symm.closed (fun x=>0<=f x) (by rw[F.zero];omega) (fun x y hx ht=>(F.near x y ht hx).1)
theorem Le {n a b:Int}{E:List Tie}{f:Int->Int}(F:Far n E b f) (h8:n<=8) (hE:∀t∈E,inr n t) (ha:0<=a/\a<n) (h:0<=f a):∃r,BK n E a b=CK n E f a::r:=
 Kj h8 hE ha (F.first hE ha h).1 (F.first hE ha h).2
end Go.Proofs.Ytgeonpciodepgaa.G
namespace Go.Proofs.Ytgeonpciodepgaa.G
open Go.RowKit Go.Proofs.YtgeonpciodepgaaW.PrintWords
def Ae (E:List Tie) (b:Int):Nat->Int->Prop
 |0,v=>v=b
 |k+1,v=>∃w,oM v w∈E/\Ae E b k w
theorem Eu {P:Nat->Prop}(h:∃k,P k):∃k,P k/\∀j,P j->k<=j:=by
 obtain⟨k,hk⟩:=h
 induction k using Nat.strongRecOn with
 |_ k ih=>
  by_cases c:∃j,j<k/\P j
  ·obtain⟨j,hj,hp⟩:=c
   exact ih j hj hp
  refine⟨k,hk,fun j hj=>?_⟩
  rcases Nat.lt_or_ge j k with h|h
  ·exact absurd ⟨j,h,hj⟩ c
  exact h
open Classical in
noncomputable def wy (E:List Tie) (b v:Int):Int:=if h:∃k,Ae E b k v then((Classical.choose (Eu h):Nat):Int) else -1
theorem CJ {E:List Tie}{b v:Int}{k:Nat}(h:Ae E b k v):0<=wy E b v/\wy E b v<=k:=by
 classical
 unfold wy
 rw[dif_pos ⟨k,h⟩]
 have:=(Classical.choose_spec (Eu (⟨k,h⟩:∃k,Ae E b k v))).2 k h
 omega
theorem CG {E:List Tie}{b v:Int}(h:0<=wy E b v):Ae E b (wy E b v).toNat v:=by
 classical
 unfold wy at*
 by_cases c:∃k,Ae E b k v
 ·rw[dif_pos c]at*
  exact(Classical.choose_spec (Eu c)).1
 rw[dif_neg c]at h;omega
theorem Lg (n:Int) (E:List Tie) (b:Int):Far n E b (wy E b) where
 zero:=by have:=CJ (E:=E) (b:=b) (v:=b) (k:=0) rfl;omega
 only:=fun v _ _ h=>by
  have:=CG (E:=E) (b:=b) (v:=v) (by omega)
  rw[h]at this;exact this
 down:=fun v _ _ h=>by
  have h1:=CG (E:=E) (b:=b) (v:=v) (by omega)
  obtain⟨k,e⟩:∃k:Nat,(wy E b v).toNat=k+1:=⟨(wy E b v).toNat - 1,by omega⟩
  rw[e]at h1
  obtain⟨w,ht,hw⟩:=h1
  have h2:=CJ hw
  have h3:=CG h2.1
  have h4:=CJ (k:=(wy E b w).toNat+1) (v:=v) ⟨w,ht,h3⟩
  exact⟨w,ht,by omega⟩
 near:=fun v w ht h=>by
  have h1:=CG h
  have h2:=CJ (k:=(wy E b v).toNat+1) (v:=w) ⟨v,by rw[Af];exact ht,h1⟩
  omega
 lo:=fun v _ _=>by
  unfold wy
  split<;>omega
def found (n:Int) (E:List Tie) (a b:Int):List Int×Bool:=match BK n E a b with
 |[]=>([],false)
 |p::_=>(p,true)
theorem Lr {n a b:Int}{E:List Tie}(h8:n<=8) (hE:∀t∈E,inr n t) (ha:0<=a/\a<n) (h:qK E a b):∃p r,BK n E a b=p::r/\found n E a b=(p,true)/\vv E a b p:=by
 have F:=Lg n E b
 have c:=(F.conn hE ha).2 h
 obtain⟨r,e⟩:=Le F h8 hE ha c
 refine⟨_,r,e,?_,(F.first hE ha c).1⟩
 unfold found
 rw[e]
end Go.Proofs.Ytgeonpciodepgaa.G
namespace Go.Proofs.Ytgeonpciodepgaa.P
open Go.RowKit Go.Proofs.YtgeonpciodepgaaW.PrintWords Go.Proofs.Ytgeonpciodepgaa.G Go.Proofs.YtgeonpciodepgaaW.PrintWords.Kd
def uP (f:List Int):Nat:=(f.filter fun x=>decide (x<0)).length
theorem El:∀ {f:List Int}{i:Nat}{x:Int},i<f.length->f.getD i 0<0->0<=x->uP (f.set i x)+1=uP f
 |[],i,_,h,_,_=>absurd h (Nat.not_lt_zero _)
 |b::f,0,x,_,h,hx=>by
  have h:b<0:=h
  have hx:¬x<0:=by omega
  simp[uP,h,hx]
 |b::f,i+1,x,hl,h,hx=>by
  have ih:=El (f:=f) (i:=i) (x:=x) (by simpa using hl) (by simpa using h) hx
  unfold uP at*
  rw[List.set_cons_succ,List.filter_cons,List.filter_cons]
  by_cases c:b<0
  ·simp only [c,decide_true,if_true,List.length_cons];omega
  simp only [c,decide_false,Bool.false_eq_true,if_false];exact ih
structure FI (n:Int) (E:List Tie) (b:Int) (f q:List Int) (d:Int) (busy:Int->Prop):Prop where
 base:0<=b
 len:(f.length:Int)=n
 zero:rd f b=0
 only:∀v,0<=v->v<n->rd f v=0->v=b
 lo:∀v,0<=v->v<n-> -1<=rd f v
 hi:∀v,0<=v->v<n->rd f v<=d+1
 bd:∀v,0<=v->v<n->rd f v+uP f+1<=n
 down:∀v,0<=v->v<n->0<rd f v->∃w,oM v w∈E/\rd f w=rd f v - 1
 pos:0<=d
 queue:∀x∈q,0<=x/\x<n/\d<=rd f x
 sorted:q.Pairwise fun x y=>rd f x<=rd f y
 done:∀v,0<=v->v<n->0<=rd f v->v∈q\/busy v\/∀w,oM v w∈E->0<=rd f w/\rd f w<=rd f v+1
theorem FI.see {n:Int}{E:List Tie}{b:Int}{f q:List Int}{d c t:Int}(hE:∀t∈E,inr n t) (h:FI n E b f q d (fun v=>v=c)) (hc:0<=c/\c<n) (hcd:rd f c=d) (ht:oM c t∈E) (hn:rd f t<0):
  FI n E b (f.set t.toNat (d+1)) (q++[t]) d (fun v=>v=c)/\uP (f.set t.toNat (d+1))+1=uP f/\(∀x,0<=x->0<=rd f x->rd (f.set t.toNat (d+1)) x=rd f x)/\rd (f.set t.toNat (d+1)) t=d+1:=by
 have hr:=(vB (hE _ ht)).2.1
 have hl:=h.len
 have rs:∀x,0<=x->rd (f.set t.toNat (d+1)) x=if t=x then d+1 else rd f x:=fun x hx=>Ab hr.1 (by omega) hx
 have cs:uP (f.set t.toNat (d+1))+1=uP f:=El (by omega) (by unfold rd at hn;exact hn) (by have:=h.pos;omega)
 have keep:∀x,0<=x->0<=rd f x->rd (f.set t.toNat (d+1)) x=rd f x:=fun x hx h0=>by
  rw[rs x hx,if_neg (fun e=>by subst e;omega)]
 have b0:0<=b:=h.base
 have bt:b≠t:=fun e=>by have:=h.zero;rw[e]at this;omega
 refine⟨⟨h.base,by simp;exact hl,?_,?_,?_,?_,?_,?_,h.pos,?_,?_,?_⟩,cs,keep,by rw[rs t hr.1,if_pos rfl]⟩
 ·rw[rs b b0,if_neg (fun e=>bt e.symm)];exact h.zero
 ·intro v v0 v1 e
  rw[rs v v0]at e
  split at e
  ·have:=h.pos;omega
  exact h.only v v0 v1 e
 ·intro v v0 v1
  rw[rs v v0]
  split
  ·have:=h.pos;omega
  exact h.lo v v0 v1
 ·intro v v0 v1
  rw[rs v v0]
  split
  ·omega
  exact h.hi v v0 v1
 ·intro v v0 v1
  rw[rs v v0]
  split
  ·have:=h.bd c hc.1 hc.2;omega
  have:=h.bd v v0 v1;omega
 ·intro v v0 v1 e
  rw[rs v v0]at e⊢
  split at e
  ·rename_i q
   subst q
   refine⟨c,by rw[Af];exact ht,?_⟩
   rw[if_pos rfl,keep c hc.1 (by have:=h.pos;omega),hcd];omega
  rename_i q
  rw[if_neg q]
  obtain⟨w,w1,w2⟩:=h.down v v0 v1 e
  exact⟨w,w1,by rw[keep w (vB (hE _ w1)).2.1.1 (by omega),w2]⟩
 ·intro x hx
  rcases List.mem_append.1 hx with hx|hx
  ·obtain⟨a1,a2,a3⟩:=h.queue x hx
   exact⟨a1,a2,by rw[keep x a1 (by have:=h.pos;omega)];exact a3⟩
  rw[List.mem_singleton]at hx
  subst hx
  exact⟨hr.1,hr.2,by rw[rs x hr.1,if_pos rfl];omega⟩
 ·rw[List.pairwise_append]
  refine⟨?_,by simp,?_⟩
  ·refine List.Pairwise.imp_of_mem ?_ h.sorted
   intro x y hx hy e
   obtain⟨a1,a2,a3⟩:=h.queue x hx
   obtain⟨b1,b2,b3⟩:=h.queue y hy
   have:=h.pos
   rw[keep x a1 (by omega),keep y b1 (by omega)];exact e
  intro x hx y hy
  rw[List.mem_singleton]at hy
  subst hy
  obtain⟨a1,a2,a3⟩:=h.queue x hx
  have:=h.pos
  have:=h.hi x a1 a2
  rw[keep x a1 (by omega),rs y hr.1,if_pos rfl];omega
 intro v v0 v1 e
 by_cases q:t=v
 ·subst q;exact .inl (by simp)
 rw[rs v v0,if_neg q]at e⊢
 rcases h.done v v0 v1 e with k|k|k
 ·exact .inl (by simp[k])
 ·exact .inr (.inl k)
 refine .inr (.inr fun w hw=>?_)
 have:=k w hw
 rw[keep w (vB (hE _ hw)).2.1.1 this.1];exact this
theorem Li (n:Int) (E:List S59) (b c d:Int) (hE:∀t∈E,inr n t) (h8:n<=8) (hc:0<=c/\c<n):∀ (suf p f q:List Int),((p++suf).length:Int)<big->(∀x∈suf,oM c x∈E)->q.length+uP f<=1000->rd f c=d->FI n E b f q d (fun v=>v=c)->
  ∃f' q',FI n E b f' q' d (fun v=>v=c)/\rd f' c=d/\(∀x∈suf,0<=rd f' x)/\(∀x,0<=x->0<=rd f x->0<=rd f' x)/\q'.length+uP f'=q.length+uP f/\uP f'<=uP f/\
   ∀r,Ev (fun k=>qC.l1 k f' q' n E) r->Ev (fun k=>qC.l2 k f q c (p++suf) (p.length:Int) n E) r:=by
 intro suf
 induction suf with
 |nil=>
  intro p f q hb hs hm hcd hI
  exact⟨f,q,hI,hcd,by simp,fun x _ h=>h,rfl,Nat.le_refl _,fun r hr=>Ev.step (fun k=>by simp only [qC.l2,uj,if_false]<;>exact rfl) hr⟩
 |cons t suf ih=>
  intro p f q hb hs hm hcd hI
  have hp:(p.length:Int)<big:=ui hb
  have htE:=hs t (by simp)
  have hr:=(vB (hE _ htE)).2.1
  have hl:=hI.len
  have g0:0<=t:=hr.1
  have g1:t<(f.length:Int):=by omega
  have k0:0<=c:=hc.1
  have k1:c<(f.length:Int):=by omega
  have ql:q.length<17592186044416:=by omega
  have hs':∀x∈suf,oM c x∈E:=fun x hx=>hs x (List.mem_cons_of_mem _ hx)
  have hb':(((p++[t])++suf).length:Int)<big:=by rw[←ry];exact hb
  by_cases u:rd f t<0
  ·obtain⟨s1,s2,s3,s4⟩:=hI.see hE hc hcd htE u
   have bdc:=hI.bd c hc.1 hc.2
   have dp:=hI.pos
   have wd:wrap64 (rd f c+1)=d+1:=by rw[hcd];exact w64 (by omega) (by omega)
   obtain⟨f',q',i1,i2,i3,i4,i5,i6,i7⟩:=ih (p++[t]) _ (q++[t]) hb' hs' (by simp;omega) (by rw[s3 c hc.1 (by omega)];exact hcd) s1
   refine⟨f',q',i1,i2,fun x hx=>?_,fun x x0 hx=>i4 x x0 (by rw[s3 x x0 hx];exact hx),by simp at i5;omega,by omega,fun r hr2=>?_⟩
   ·rcases List.mem_cons.1 hx with rfl|hx
    ·exact i4 x g0 (by rw[s4];omega)
    exact i3 x hx
   have:=i7 r hr2
   rw[←ry]at this
   exact Ev.step (fun k=>by simp only [qC.l2,qV,nn,if_true,sO,if_pos g0,if_pos g1,if_pos u,if_pos k0,if_pos k1,if_pos ql,wd,rC (t:=t) hp]<;>exact rfl) this
  obtain⟨f',q',i1,i2,i3,i4,i5,i6,i7⟩:=ih (p++[t]) f q hb' hs' hm hcd hI
  refine⟨f',q',i1,i2,fun x hx=>?_,i4,i5,i6,fun r hr2=>?_⟩
  ·rcases List.mem_cons.1 hx with rfl|hx
   ·exact i4 x g0 (by omega)
   exact i3 x hx
  have:=i7 r hr2
  rw[←ry]at this
  exact Ev.step (fun k=>by simp only [qC.l2,qV,nn,if_true,sO,if_pos g0,if_pos g1,if_neg u,rC (t:=t) hp]<;>exact rfl) this
theorem Lh (n:Int) (E:List S59) (b:Int) (hE:ok n E):∀ (m:Nat) (f q:List Int) (d:Int),2*uP f+q.length<=m->m<=900->FI n E b f q d (fun _=>False)->
  ∃f',Ev (fun k=>qC.l1 k f q n E) f'/\(f'.length:Int)=n/\(∀v,0<=v->v<n->rd f' v<=n)/\Far n E b (rd f'):=by
 intro m
 induction m with
 |zero=>
  intro f q d hm h9 hI
  have e:q=[]:=List.eq_nil_of_length_eq_zero (by omega)
  subst e
  have c:¬ (([]:List Int).length:Int)>0:=by simp
  refine⟨f,Ev.step (fun k=>by simp only [qC.l1,if_neg c]<;>exact rfl) (Ev.val rfl),hI.len,fun v v0 v1=>by have:=hI.bd v v0 v1;omega,?_⟩
  exact⟨hI.zero,hI.only,hI.down,fun v w ht h0=>by
   have:=(vB (hE.2.2.1 _ ht)).1
   rcases hI.done v this.1 this.2 h0 with k|k|k
   ·simp at k
   ·exact k.elim
   exact k w ht,hI.lo⟩
 |succ m ih=>
  intro f q d hm h9 hI
  cases q with
  |nil=>
   have c:¬ (([]:List Int).length:Int)>0:=by simp
   refine⟨f,Ev.step (fun k=>by simp only [qC.l1,if_neg c]<;>exact rfl) (Ev.val rfl),hI.len,fun v v0 v1=>by have:=hI.bd v v0 v1;omega,?_⟩
   exact⟨hI.zero,hI.only,hI.down,fun v w ht h0=>by
    have:=(vB (hE.2.2.1 _ ht)).1
    rcases hI.done v this.1 this.2 h0 with k|k|k
    ·simp at k
    ·exact k.elim
    exact k w ht,hI.lo⟩
  |cons x q=>
   obtain⟨x0,x1,x2⟩:=hI.queue x (by simp)
   have hs:=List.pairwise_cons.1 hI.sorted
   have dp:=hI.pos
   have I2:FI n E b f q (rd f x) (fun v=>v=x):=⟨hI.base,hI.len,hI.zero,hI.only,hI.lo,fun v v0 v1=>by have:=hI.hi v v0 v1;omega,hI.bd,hI.down,by omega,fun y hy=>⟨(hI.queue y (by simp[hy])).1,(hI.queue y (by simp[hy])).2.1,hs.1 y hy⟩,hs.2,fun v v0 v1 h0=>by
    rcases hI.done v v0 v1 h0 with k|k|k
    ·rcases List.mem_cons.1 k with k|k
     ·exact .inr (.inl k)
     exact .inl k
    ·exact k.elim
    exact .inr (.inr k)⟩
   have nl:((next n E x).length:Int)<big:=by
    have:=List.length_filter_le (fun i=>decide (oM x i∈E)) (sN n)
    rw[yu]at this
    have:=hE.2.1
    unfold next big
    omega
   obtain⟨f',q',i1,i2,i3,i4,i5,i6,i7⟩:=Li n E b x (rd f x) hE.2.2.1 hE.2.1 ⟨x0,x1⟩ (next n E x) [] f q (by simpa using nl) (fun y hy=>(wR hE.2.2.1).1 hy) (by simp at hm;omega) rfl I2
   have I3:FI n E b f' q' (rd f x) (fun _=>False):=⟨i1.base,i1.len,i1.zero,i1.only,i1.lo,i1.hi,i1.bd,i1.down,i1.pos,i1.queue,i1.sorted,fun v v0 v1 h0=>by
    rcases i1.done v v0 v1 h0 with k|k|k
    ·exact .inl k
    ·subst k
     refine .inr (.inr fun w hw=>?_)
     have wr:=(vB (hE.2.2.1 _ hw)).2.1
     exact⟨i3 w ((wR hE.2.2.1).2 hw),by have:=i1.hi w wr.1 wr.2;omega⟩
    exact .inr (.inr k)⟩
   obtain⟨f2,e1,e2,e3,e4⟩:=ih f' q' (rd f x) (by simp at hm;omega) (by omega) I3
   refine⟨f2,?_,e2,e3,e4⟩
   have c1:((x::q).length:Int)>0:=by rw[List.length_cons];omega
   have c2:0<((x::q).length:Int):=c1
   have c3:1<=((x::q).length:Int):=by omega
   have er:rd (x::q) 0=x:=rfl
   refine Ev.step (fun k=>by simp only [qC.l1,if_pos c1,if_pos c2,er]<;>exact rfl) ?_
   refine Ev.bind (AY n x E hE) ?_
   simp only [if_pos c3]
   have ed:(x::q).drop (1:Int).toNat=q:=rfl
   rw[ed]
   exact i7 _ e1
theorem IE (m:Nat) (v:Int):rd (List.replicate m (-1)) v=if v.toNat<m then -1 else 0:=by
 unfold rd
 rw[List.getD_eq_getElem?_getD]
 by_cases c:v.toNat<m
 ·rw[if_pos c,List.getElem?_replicate,if_pos c];rfl
 rw[if_neg c,List.getElem?_replicate,if_neg c];rfl
theorem Lf (n:Int) (E:List S59) (b:Int) (hE:ok n E) (hb:0<=b/\b<n):∃f,Ev (fun k=>qC.f k n E b) f/\(f.length:Int)=n/\(∀v,0<=v->v<n->rd f v<=n)/\Far n E b (rd f):=by
 have h8:=hE.2.1
 have hl:((List.replicate n.toNat (-1:Int)).length:Int)=n:=by simp;omega
 have rs:∀v,0<=v->v<n->rd ((List.replicate n.toNat (-1)).set b.toNat 0) v=if b=v then 0 else -1:=fun v v0 v1=>by
  rw[Ab hb.1 (by omega) v0]
  by_cases q:b=v
  ·rw[if_pos q,if_pos q]
  rw[if_neg q,if_neg q,IE,if_pos (by omega)]
 have c0:uP (List.replicate n.toNat (-1:Int))=n.toNat:=by
  unfold uP
  rw[List.filter_eq_self.2]
  ·simp
  intro x hx;rw[List.eq_of_mem_replicate hx];rfl
 have cs:uP ((List.replicate n.toNat (-1:Int)).set b.toNat 0)+1=n.toNat:=by
  rw[El (by simp;omega) (by have:=IE n.toNat b;unfold rd at this;rw[this,if_pos (by omega)];omega) (by omega),c0]
 have I:FI n E b ((List.replicate n.toNat (-1)).set b.toNat 0) [b] 0 (fun _=>False):=by
  refine⟨hb.1,by simp;omega,by rw[rs b hb.1 hb.2,if_pos rfl],fun v v0 v1 e=>?_,fun v v0 v1=>?_,fun v v0 v1=>?_,fun v v0 v1=>?_,fun v v0 v1 e=>?_,Int.le_refl _,fun x hx=>?_,by simp,fun v v0 v1 e=>?_⟩
  ·rw[rs v v0 v1]at e
   split at e
   ·rename_i q;exact q.symm
   omega
  ·rw[rs v v0 v1];split<;>omega
  ·rw[rs v v0 v1];split<;>omega
  ·rw[rs v v0 v1];split<;>omega
  ·rw[rs v v0 v1]at e
   split at e<;>omega
  ·rw[List.mem_singleton]at hx
   subst hx
   exact⟨hb.1,hb.2,by rw[rs x hb.1 hb.2,if_pos rfl];omega⟩
  rw[rs v v0 v1]at e
  split at e
  ·rename_i q;exact .inl (by simp[q])
  omega
 obtain⟨f',e1,e2,e3,e4⟩:=Lh n E b hE 100 _ [b] 0 (by simp;omega) (by omega) I
 refine⟨f',?_,e2,e3,e4⟩
 unfold qC.f
 have go:∀ (d:Nat) (i:Int),0<=i->i+d=n->Ev (fun k=>qC.l0 k b (List.replicate i.toNat (-1)) i n E) f':=by
  intro d
  induction d with
  |zero=>
   intro i i0 hi
   have e:i=n:=by omega
   subst e
   have c:¬i<i:=by omega
   have b1:b<((List.replicate i.toNat (-1:Int)).length:Int):=by omega
   have b0:0<=b:=hb.1
   exact Ev.step (fun k=>by simp only [qC.l0,if_neg c,if_pos b0,if_pos b1]<;>exact rfl) e1
  |succ d ih=>
   intro i i0 hi
   have c:i<n:=by omega
   have l:(List.replicate i.toNat (-1:Int)).length<17592186044416:=by simp;omega
   have w:wrap64 (i+1)=i+1:=w64 (by omega) (by omega)
   have:=ih (i+1) (by omega) (by omega)
   have e:List.replicate (i+1).toNat (-1:Int)=List.replicate i.toNat (-1)++[-1]:=by
    rw[show(i+1).toNat=i.toNat+1 by omega,List.replicate_succ']
   rw[e]at this
   exact Ev.step (fun k=>by simp only [qC.l0,if_pos c,if_pos l,w]<;>exact rfl) this
 exact go n.toNat 0 (by omega) (by have:=hE.1;omega)
theorem Lm (n b v x:Int) (E:List S59) (f out:List Int) (d:Nat) (hf:(f.length:Int)=n) (h8:n<=8) (hv:0<=v/\v<n) (hd:rd f v=(d+1:Nat)) (hd8:d<=100) (ho:out.length<=1000):∀ (suf p:List Int),((p++suf).length:Int)<big->(∀y∈suf,0<=y/\y<n)->suf.find? (fun w=>decide (rd f w=d))=some x->
  ∀r,Ev (fun k=>qZ.l0 k b (out++[x]) f x n E) r->Ev (fun k=>qZ.l1 k b out f v (p++suf) (p.length:Int) n E) r:=by
 intro suf
 induction suf with
 |nil=>intro p _ _ h;simp at h
 |cons t suf ih=>
  intro p hb hs h r hr
  have hp:(p.length:Int)<big:=ui hb
  obtain⟨t0,t1⟩:=hs t (by simp)
  have t2:t<(f.length:Int):=by omega
  have v0:0<=v:=hv.1
  have v1:v<(f.length:Int):=by omega
  have w:wrap64 (rd f v - 1)=d:=by rw[hd];rw[w64 (by omega) (by omega)];omega
  have lo:out.length<17592186044416:=by omega
  rw[List.find?_cons]at h
  by_cases c:rd f t=d
  ·simp only [c,decide_true]at h
   injection h with h
   subst h
   exact Ev.step (fun k=>by simp only [qZ.l1,qV,nn,if_true,sO,if_pos t0,if_pos t2,if_pos v0,if_pos v1,w,if_pos c,if_pos lo]<;>exact rfl) hr
  simp only [c,decide_false]at h
  have:=ih (p++[t]) (by rw[←ry];exact hb) (fun y hy=>hs y (by simp[hy])) h r hr
  rw[←ry]at this
  exact Ev.step (fun k=>by simp only [qZ.l1,qV,nn,if_true,sO,if_pos t0,if_pos t2,if_pos v0,if_pos v1,w,if_neg c,rC (t:=t) hp]<;>exact rfl) this
theorem Ll (n b:Int) (E:List S59) (hE:ok n E) (f:List Int) (hf:(f.length:Int)=n) (F:Far n E b (rd f)):∀ (d:Nat) (v:Int) (out:List Int),d<=100->out.length+d<=1000->0<=v/\v<n->rd f v=(d:Int)->
  Ev (fun k=>qZ.l0 k b out f v n E) (out++(down n E (rd f) d v).tail,true):=by
 intro d
 induction d with
 |zero=>
  intro v out _ _ hv hd
  have e:v=b:=F.only v hv.1 hv.2 hd
  exact Ev.step (fun k=>by simp only [qZ.l0,if_pos e]<;>exact rfl) (Ev.val (by simp[down]))
 |succ d ih=>
  intro v out hd8 ho hv hd
  have c:v≠b:=fun e=>by rw[e,F.zero]at hd;omega
  obtain⟨x,ex,ht,hx,hr,_⟩:=F.step hE.2.2.1 hv hd
  refine Ev.step (fun k=>by simp only [qZ.l0,if_neg c]<;>exact rfl) ?_
  refine Ev.bind (AY n v E hE) ?_
  have nl:((next n E v).length:Int)<big:=by
   have:=List.length_filter_le (fun i=>decide (oM v i∈E)) (sN n)
   rw[yu]at this
   have:=hE.2.1
   unfold next big
   omega
  refine Lm n b v x E f out d hf hE.2.1 hv hd (by omega) (by omega) (next n E v) [] (by simpa using nl) (fun y hy=>(vB (hE.2.2.1 _ ((wR hE.2.2.1).1 hy))).2.1) ex _ ?_
  have:=ih x (out++[x]) (by omega) (by simp;omega) hr hx
  obtain⟨r,e1,_⟩:=AR F hE.2.2.1 d x hr hx
  have e2:(down n E (rd f) (d+1) v).tail=x::r:=by
   rw[down,ex]
   exact e1
  rw[e1]at this
  rw[e2]
  simpa using this
end Go.Proofs.Ytgeonpciodepgaa.P
namespace Go.Proofs.Ytgeonpciodepgaa.G
theorem Df:∀ (xs:List Int) (y a:Int),ties (xs++[y,a])=ties (xs++[y])++[oM y a]
 |[],y,a=>rfl
 |[x],y,a=>rfl
 |x::z::r,y,a=>by
  have:=Df (z::r) y a
  show oM x z::ties (z::r++[y,a])=oM x z::ties (z::r++[y])++[oM y a]
  rw[this];rfl
def wL (ks:List Int) (v:Int):List Int:=if v∈ks then ks else ks++[v]
def rO (ks:List Int) (row:List Int):List Int:=row.foldl wL ks
theorem CR (ks:List Int) (v x:Int):x∈wL ks v↔x∈ks\/x=v:=by
 unfold wL;split
 ·rename_i h;exact⟨Or.inl,fun k=>k.elim id (fun e=>e▸h)⟩
 simp
theorem MB {ks:List Int}(v:Int) (h:ks.Nodup):(wL ks v).Nodup:=by
 unfold wL;split
 ·exact h
 rename_i k
 rw[List.nodup_append]
 exact⟨h,by simp,fun x hx y hy e=>by rw[List.mem_singleton]at hy;subst hy;subst e;exact k hx⟩
theorem zh:∀ (row ks:List Int) (x:Int),x∈rO ks row↔x∈ks\/x∈row
 |[],ks,x=>by simp[rO]
 |v::r,ks,x=>by
  show x∈rO (wL ks v) r↔_
  rw[zh r,CR];simp[or_assoc]
theorem Im:∀ (row:List Int) {ks:List Int},ks.Nodup->(rO ks row).Nodup
 |[],_,h=>h
 |v::r,_,h=>Im r (MB v h)
theorem FP (ks p q:List Int):rO ks (p++q)=rO (rO ks p) q:=by unfold rO;rw[List.foldl_append]
theorem DF:∀ (row ks:List Int),(rO ks row).length<=ks.length+row.length
 |[],ks=>by simp[rO]
 |v::r,ks=>by
  have h:=DF r (wL ks v)
  have:(wL ks v).length<=ks.length+1:=by unfold wL;split<;>simp
  show(rO (wL ks v) r).length<=_
  simp only [List.length_cons];omega
def wZ (row:List Int):List Int:=(row.drop 1).dropLast
def uH (row:List Int):Int:=row.getD 0 0
def uC (row:List Int):Int:=row.getLastD 0
structure zR (n:Int) (E taken:List Tie) (ks:List Int) (first:Bool) (row:List Int):Prop where
 len:2<=row.length
 sN:∀v∈row,0<=v/\v<n
 tied:∀t∈ties row,t∈E
 ring:first=true->uH row=uC row
 ends:first=false->uH row∈ks/\uC row∈ks
 long:uH row=uC row->4<=row.length
 mid:(wZ row).Nodup
 apart:∀v∈wZ row,v∉ks/\v≠uH row
 new:∀t∈ties row,t∉taken
def uB (n:Int) (E:List Tie):Bool->List Tie->List Int->List (List Int)->Prop
 |_,taken,ks,[]=>taken.length=E.length/\(ks.length:Int)=n
 |first,taken,ks,row::rest=>zR n E taken ks first row/\uB n E false (taken++ties row) (rO ks row) rest
theorem G8 {n:Int}{E:List Tie}:∀ (rest:List (List Int)) (first:Bool) (taken:List Tie) (ks:List Int),uB n E first taken ks rest->taken.length+rest.length<=E.length
 |[],_,_,_,h=>by have:=h.1;simp;omega
 |row::rest,first,taken,ks,h=>by
  have h1:=G8 rest false _ _ h.2
  have h2:=h.1.len
  rw[List.length_append,zy]at h1
  simp only [List.length_cons]
  omega
theorem Be {row:List Int}(h:2<=row.length):∃a m z,row=a::(m++[z]):=by
 cases row with
 |nil=>simp at h
 |cons a r=>
  have hr:r≠[]:=fun e=>by rw[e]at h;simp at h
  exact⟨a,r.dropLast,r.getLast hr,by rw[List.dropLast_concat_getLast]⟩
theorem zb (a:Int) (m:List Int) (z:Int):uH (a::(m++[z]))=a:=rfl
theorem zX (a:Int) (m:List Int) (z:Int):uC (a::(m++[z]))=z:=by
 unfold uC
 rw[show a::(m++[z])=(a::m)++[z] from rfl,List.getLastD_concat]
theorem CS (a:Int) (m:List Int) (z:Int):wZ (a::(m++[z]))=m:=by
 unfold wZ
 simp
theorem De {t:Tie}:∀ (r:List Int),t∈ties r->t.f0∈r/\t.f1∈r
 |[],h=>by simp[ties]at h
 |[a],h=>by simp[ties]at h
 |a::b::r,h=>by
  simp only [ties,List.mem_cons]at h
  rcases h with rfl|h
  ·unfold oM;split<;>simp
  have:=De (b::r) h
  exact⟨List.mem_cons_of_mem _ this.1,List.mem_cons_of_mem _ this.2⟩
theorem I5:∀ (p:List Int) (v w:Int) (s:List Int),ties (p++v::w::s)=ties (p++[v])++oM v w::ties (w::s)
 |[],v,w,s=>by simp[ties]
 |[a],v,w,s=>by simp[ties]
 |a::b::r,v,w,s=>by
  have:=I5 (b::r) v w s
  simp only [List.cons_append,ties]at this⊢
  rw[this]
theorem NN {a b c d:Int}(h:oM a b=oM c d):a=c/\b=d\/a=d/\b=c:=by
 unfold oM at h
 split at h<;>split at h<;>simp only [Tie.mk.injEq]at h<;>omega
theorem EO:∀ (r:List Int),r.Nodup->(ties r).Nodup
 |[],_=>by simp[ties]
 |[a],_=>by simp[ties]
 |a::b::r,h=>by
  rw[List.nodup_cons]at h
  simp only [ties,List.nodup_cons]
  refine⟨fun k=>?_,EO (b::r) h.2⟩
  have:=De (b::r) k
  unfold oM at this
  split at this
  ·exact h.1 this.1
  exact h.1 this.2
theorem NT (a:Int) (m:List Int) (h:(a::m).Nodup) (hl:2<=m.length):(ties (a::m++[a])).Nodup:=by
 obtain⟨p,y,rfl⟩:∃p y,m=p++[y]:=⟨m.dropLast,m.getLast (fun e=>by rw[e]at hl;simp at hl),(List.dropLast_concat_getLast _).symm⟩
 have e:a::(p++[y])++[a]=(a::p)++[y,a]:=by simp
 rw[e,Df,List.nodup_append]
 have hn:=EO _ h
 refine⟨by simpa using hn,by simp,fun x hx z hz e2=>?_⟩
 rw[List.mem_singleton]at hz
 subst hz;subst e2
 cases p with
 |nil=>simp at hl
 |cons b q=>
  simp only [List.cons_append,ties,List.mem_cons]at hx
  simp only [List.cons_append,List.nodup_cons,List.mem_cons,List.mem_append,not_or]at h
  rcases hx with hx|hx
  ·rcases NN hx with⟨h1,h2⟩|⟨h1,h2⟩
   ·exact h.1.1 h2
   exact h.2.1.2.1 h1.symm
  have hm:=De (b::(q++[y])) (by simpa using hx)
  have ha:a∉b::(q++[y]):=by simp;exact⟨h.1.1,h.1.2.1,h.1.2.2.1⟩
  unfold oM at hm
  split at hm
  ·exact ha hm.2
  exact ha hm.1
theorem Er {n:Int}{E taken:List Tie}{ks:List Int}{first:Bool}{row:List Int}(hl:2<=row.length) (hlong:uH row=uC row->4<=row.length) (hm:(wZ row).Nodup) (ha:uH row∉wZ row) (hz:uC row∉wZ row):(ties row).Nodup:=by
 obtain⟨a,m,z,rfl⟩:=Be hl
 rw[zb]at hlong ha
 rw[zX]at hlong hz
 rw[CS]at hm ha hz
 by_cases c:a=z
 ·subst c
  have:=hlong rfl
  simp at this
  exact NT a m (List.nodup_cons.2 ⟨ha,hm⟩) (by omega)
 refine EO _ (List.nodup_cons.2 ⟨?_,?_⟩)
 ·simp;exact⟨ha,c⟩
 rw[List.nodup_append]
 exact⟨hm,by simp,fun x hx y hy e=>by rw[List.mem_singleton]at hy;subst hy;subst e;exact hz hx⟩
end Go.Proofs.Ytgeonpciodepgaa.G
namespace Go.Proofs.Ytgeonpciodepgaa.P
open Go.RowKit Go.Proofs.YtgeonpciodepgaaW.PrintWords Go.Proofs.Ytgeonpciodepgaa.G Go.Proofs.YtgeonpciodepgaaW.PrintWords.Kd
theorem LZ (a:Int):∀ (suf p:List Int),((p++suf).length:Int)<big->a∉p->Ev (fun k=>qD.l0 k (p++suf) a (p.length:Int)) (decide (a∈p++suf)):=by
 intro suf
 induction suf with
 |nil=>
  intro p hb hp
  refine Ev.step (fun k=>by simp only [qD.l0,uj,if_false]<;>exact rfl) (Ev.val ?_)
  rw[decide_eq_false (by simpa using hp)]
 |cons t suf ih=>
  intro p hb hp
  have hl:(p.length:Int)<big:=ui hb
  by_cases c:t=a
  ·refine Ev.step (fun k=>by simp only [qD.l0,qV,nn,if_true,sO,if_pos c]<;>exact rfl) (Ev.val ?_)
   rw[decide_eq_true (by simp[c])]
  refine Ev.step (fun k=>by simp only [qD.l0,qV,nn,if_true,sO,if_neg c,rC (t:=t) hl]<;>exact rfl) ?_
  rw[ry p t suf]
  exact ih (p++[t]) (by rw[←ry];exact hb) (fun q=>by
   rcases List.mem_append.1 q with q|q
   ·exact hp q
   exact c (List.mem_singleton.1 q).symm)
theorem vw (S:List Int) (a:Int) (hb:(S.length:Int)<big):Ev (fun k=>qD.f k S a) (decide (a∈S)):=by
 unfold qD.f
 exact LZ a S [] hb (by simp)
def scan (n:Int) (E taken:List Tie) (ks:List Int):List Int->List Int->Prop
 |_,[]=>True
 |pre,v::suf=>(0<=v/\v<n)/\(pre≠[]->suf≠[]->v∉ks/\v∉pre)/\(∀p u,pre=p++[u]->oM u v∈E/\oM u v∉taken)/\scan n E taken ks (pre++[v]) suf
theorem Lx (n:Int) (E taken:List S59) (ks p:List Int) (u v:Int) (suf:List Int) (b':Bool) (hb:(((p++[u])++v::suf).length:Int)<big)
  (h:Ev (fun k=>oP.l0 k taken ks ((p++[u])++v::suf) (((p++[u])++[v]).length:Int) n E) b'):∀ (rest q:List S59),taken=q++rest->(taken.length:Int)<big->
  Ev (fun k=>oP.l1 k taken ks ((p++[u])++v::suf) ((p++[u]).length:Int) (q.length:Int) n E) (!decide (oM u v∈rest)&&b'):=by
 have hl:((p++[u]).length:Int)<big:=ui hb
 intro rest
 induction rest with
 |nil=>
  intro q e ht
  subst e
  refine Ev.step (fun k=>by simp only [oP.l1,uj,if_false,rC (t:=v) hl]<;>exact rfl) (Ev.eq h (by simp))
 |cons t rest ih=>
  intro q e ht
  subst e
  have hq:(q.length:Int)<big:=ui ht
  have c1:0<=wrap64 (((p++[u]).length:Int) - 1):=by rw[uS p u hl];exact nn _
  have c2:wrap64 (((p++[u]).length:Int) - 1)<(((p++[u])++v::suf).length:Int):=by rw[uS p u hl];exact CQ p u (v::suf)
  have r1:rd ((p++[u])++v::suf) (wrap64 (((p++[u]).length:Int) - 1))=u:=by rw[uS p u hl,zi];exact sO p u (v::suf)
  refine Ev.step (fun k=>by simp only [oP.l1,qV,nn,if_true,if_pos c1,if_pos c2,r1,sO,zg,Option.bind_some,z_,IZ,decide_eq_true_eq,rC (t:=t) hq]<;>exact rfl) ?_
  by_cases c:t=oM u v
  ·simp only [if_pos c]
   exact Ev.val (by simp[c])
  simp only [if_neg c]
  have:=ih (q++[t]) (by simp) (by simpa using ht)
  refine Ev.eq (by simpa using this) ?_
  have c':¬oM u v=t:=fun e=>c e.symm
  simp[c']
theorem Lv (n:Int) (E taken:List S59) (ks:List Int) (hok:ok n E) (ht:(taken.length:Int)<big) (hk:(ks.length:Int)<big):∀ (suf p:List Int),((p++suf).length:Int)<big->
  ∃b,Ev (fun k=>oP.l0 k taken ks (p++suf) (p.length:Int) n E) b/\(b=true↔scan n E taken ks p suf):=by
 have hE:(E.length:Int)<big:=by have:=uX hok;unfold big;omega
 intro suf
 induction suf with
 |nil=>
  intro p hb
  exact⟨true,Ev.step (fun k=>by simp only [oP.l0,uj,if_false]<;>exact rfl) (Ev.val rfl),by simp[scan]⟩
 |cons v suf ih=>
  intro p hb
  have hl:(p.length:Int)<big:=ui hb
  have hs:wrap64 ((p.length:Int)+1)=((p++[v]).length:Int):=rC hl
  obtain⟨b1,e1,h1⟩:=ih (p++[v]) (wY hb)
  rw[←ry]at e1
  -- behind the test of what is between the ends
  have J3:∃b,Ev (fun k=>oP.j3 k taken ks (p++v::suf) (p.length:Int) false n E) b/\(b=true↔(∀q u,p=q++[u]->oM u v∈E/\oM u v∉taken)/\scan n E taken ks (p++[v]) suf):=by
   rcases List.eq_nil_or_concat p with rfl|⟨q,u,rfl⟩
   ·refine⟨b1,Ev.step (fun k=>by simp only [oP.j3,Bool.false_eq_true,if_false,List.length_nil,Int.natCast_zero,if_true]<;>exact rfl) ?_,?_⟩
    ·have:=hs
     simp only [List.length_nil,Int.natCast_zero]at this
     rw[this];exact e1
    rw[h1]
    exact⟨fun x=>⟨fun q u e=>by simp at e,x⟩,fun x=>x.2⟩
   rw[List.concat_eq_append]at*
   have c0:¬ ((q++[u]).length:Int)=0:=by simp;omega
   have c1:0<=wrap64 (((q++[u]).length:Int) - 1):=by rw[uS q u hl];exact nn _
   have c2:wrap64 (((q++[u]).length:Int) - 1)<(((q++[u])++v::suf).length:Int):=by rw[uS q u hl];exact CQ q u (v::suf)
   have r1:rd ((q++[u])++v::suf) (wrap64 (((q++[u]).length:Int) - 1))=u:=by rw[uS q u hl,zi];exact sO q u (v::suf)
   have L1:=Lx n E taken ks q u v suf b1 hb e1 taken [] rfl ht
   have base:∀k,oP.j3 (k+1) taken ks ((q++[u])++v::suf) ((q++[u]).length:Int) false n E=(vJ.f k n E u v).bind fun t=>if t=true then oP.l1 k taken ks ((q++[u])++v::suf) ((q++[u]).length:Int) 0 n E else some false:=fun k=>by
    simp only [oP.j3,Bool.false_eq_true,if_false,if_neg c0,if_pos c1,if_pos c2,nn,qV,if_true,r1,sO]
   by_cases c:oM u v∈E
   ·refine⟨!decide (oM u v∈taken)&&b1,Ev.step base (Ev.bind (C_ n u v E hE) ?_),?_⟩
    ·rw[decide_eq_true (⟨hok,c⟩:ok n E/\oM u v∈E)]
     exact L1
    simp only [Bool.and_eq_true,Bool.not_eq_true',decide_eq_false_iff_not,h1]
    constructor
    ·rintro⟨x,y⟩
     refine⟨fun q' u' e=>?_,y⟩
     obtain⟨rfl,e2⟩:=List.append_inj' e rfl
     injection e2 with e2
     subst e2
     exact⟨c,x⟩
    rintro⟨x,y⟩
    exact⟨(x q u rfl).2,y⟩
   refine⟨false,Ev.step base (Ev.bind (C_ n u v E hE) ?_),?_⟩
   ·rw[decide_eq_false (fun h=>c h.2)]
    exact Ev.val rfl
   simp only [Bool.false_eq_true,false_iff]
   exact fun h=>c (h.1 q u rfl).1
  have J3t:Ev (fun k=>oP.j3 k taken ks (p++v::suf) (p.length:Int) true n E) false:=Ev.step (fun k=>by simp only [oP.j3,if_true]<;>exact rfl) (Ev.val rfl)
  obtain⟨b3,e3,h3⟩:=J3
  -- whether it is between the ends
  have J2:∀d:Bool,(d=true↔p≠[]/\suf≠[])->∃b,Ev (fun k=>oP.j2 k taken ks (p++v::suf) (p.length:Int) d n E) b/\(b=true↔scan n E taken ks p (v::suf)):=by
   intro d hd
   have base:∀k,oP.j2 (k+1) taken ks (p++v::suf) (p.length:Int) d n E=(rA.f k n E v).bind fun t=>(if t=true then(if d=true then((qD.f k ks v).bind fun t2=>(if t2=true then(oP.j3 k taken ks (p++v::suf) (p.length:Int) true n E) else(if(p.length:Int)<=((p++v::suf).length:Int) then((qD.f k ((p++v::suf).take ((p.length:Int)).toNat) v).bind fun t3=>(oP.j3 k taken ks (p++v::suf) (p.length:Int) t3 n E)) else(none)))) else(oP.j3 k taken ks (p++v::suf) (p.length:Int) false n E)) else(oP.j3 k taken ks (p++v::suf) (p.length:Int) true n E)):=fun k=>by
    simp only [oP.j2,nn,qV,if_true,sO]
   have cl:(p.length:Int)<=((p++v::suf).length:Int):=Int.le_of_lt (qV p v suf)
   have et:(p++v::suf).take ((p.length:Int)).toNat=p:=by simp
   by_cases k1:0<=v/\v<n;rotate_left
   ·refine⟨false,Ev.step base (Ev.bind (Ev.eq (vQ n v E hE) (decide_eq_false (fun x=>k1 x.2))) (by simp only [Bool.false_eq_true,if_false];exact J3t)),?_⟩
    simp only [scan,Bool.false_eq_true,false_iff]
    exact fun x=>k1 x.1
   have K:=Ev.eq (vQ n v E hE) (decide_eq_true (⟨hok,k1⟩:ok n E/\0<=v/\v<n))
   cases d with
   |false=>
    have hd':¬ (p≠[]/\suf≠[]):=fun x=>Bool.noConfusion (hd.2 x)
    refine⟨b3,Ev.step base (Ev.bind K (by simp only [if_true,Bool.false_eq_true,if_false];exact e3)),?_⟩
    rw[h3]
    simp only [scan]
    exact⟨fun x=>⟨k1,fun a b=>absurd ⟨a,b⟩ hd',x.1,x.2⟩,fun x=>⟨x.2.2.1,x.2.2.2⟩⟩
   |true=>
    have hd':=hd.1 rfl
    by_cases k2:v∈ks
    ·refine⟨false,Ev.step base (Ev.bind K ?_),?_⟩
     ·simp only [if_true]
      exact Ev.bind (Ev.eq (vw ks v hk) (decide_eq_true k2)) (by simp only [if_true];exact J3t)
     simp only [scan,Bool.false_eq_true,false_iff]
     exact fun x=>(x.2.1 hd'.1 hd'.2).1 k2
    by_cases k3:v∈p
    ·refine⟨false,Ev.step base (Ev.bind K ?_),?_⟩
     ·simp only [if_true]
      refine Ev.bind (Ev.eq (vw ks v hk) (decide_eq_false k2)) ?_
      simp only [Bool.false_eq_true,if_false,if_pos cl,et]
      exact Ev.bind (Ev.eq (vw p v hl) (decide_eq_true k3)) J3t
     simp only [scan,Bool.false_eq_true,false_iff]
     exact fun x=>(x.2.1 hd'.1 hd'.2).2 k3
    refine⟨b3,Ev.step base (Ev.bind K ?_),?_⟩
    ·simp only [if_true]
     refine Ev.bind (Ev.eq (vw ks v hk) (decide_eq_false k2)) ?_
     simp only [Bool.false_eq_true,if_false,if_pos cl,et]
     exact Ev.bind (Ev.eq (vw p v hl) (decide_eq_false k3)) e3
    rw[h3]
    simp only [scan]
    exact⟨fun x=>⟨k1,fun _ _=>⟨k2,k3⟩,x.1,x.2⟩,fun x=>⟨x.2.2.1,x.2.2.2⟩⟩
  by_cases cp:(p.length:Int)>0
  ·have cp':p≠[]:=fun e=>by rw[e]at cp;simp at cp
   obtain⟨b,e2,h2⟩:=J2 (decide (wrap64 ((p.length:Int)+1)<((p++v::suf).length:Int))) (by
    rw[hs,decide_eq_true_eq]
    constructor
    ·intro x;refine⟨cp',fun e=>?_⟩;subst e;simp at x
    rintro⟨_,x⟩
    have:0<suf.length:=List.length_pos_iff.2 x
    simp;omega)
   exact⟨b,Ev.step (fun k=>by simp only [oP.l0,qV,if_true,if_pos cp]<;>exact rfl) e2,h2⟩
  have cp':p=[]:=List.eq_nil_of_length_eq_zero (by omega)
  obtain⟨b,e2,h2⟩:=J2 false (by simp[cp'])
  exact⟨b,Ev.step (fun k=>by simp only [oP.l0,qV,if_true,if_neg cp]<;>exact rfl) e2,h2⟩
theorem IP (n:Int) (E taken:List Tie) (ks:List Int) (z:Int):∀ (mid p:List Int) (u:Int),scan n E taken ks (p++[u]) (mid++[z])↔
  (∀v∈mid++[z],0<=v/\v<n)/\(∀t∈ties (u::(mid++[z])),t∈E/\t∉taken)/\(∀v∈mid,v∉ks/\v∉p++[u])/\mid.Nodup
 |[],p,u=>by
  simp only [List.nil_append,scan,List.mem_singleton,ties,forall_eq,List.not_mem_nil,false_implies,implies_true,List.nodup_nil,and_true,ne_eq,not_true_eq_false]
  constructor
  ·rintro⟨h1,_,h2⟩
   exact⟨h1,by simpa using h2 p u rfl⟩
  rintro⟨h1,h2⟩
  refine⟨h1,trivial,fun q u' e=>?_⟩
  obtain⟨rfl,e2⟩:=List.append_inj' e rfl
  injection e2 with e2
  subst e2
  simpa using h2
 |v::mid,p,u=>by
  have ih:=IP n E taken ks z mid (p++[u]) v
  simp only [List.cons_append,scan,ih]
  constructor
  ·rintro⟨h1,h2,h3,h4,h5,h6,h7⟩
   have h2':=h2 (by simp) (by simp)
   refine⟨?_,?_,?_,?_⟩
   ·intro w hw
    rcases List.mem_cons.1 hw with rfl|hw
    ·exact h1
    exact h4 w hw
   ·intro t ht
    simp only [ties,List.mem_cons]at ht
    rcases ht with rfl|ht
    ·exact h3 p u rfl
    exact h5 t ht
   ·intro w hw
    rcases List.mem_cons.1 hw with rfl|hw
    ·exact h2'
    exact⟨(h6 w hw).1,fun k=>(h6 w hw).2 (List.mem_append_left _ k)⟩
   refine List.nodup_cons.2 ⟨fun k=>(h6 v k).2 (by simp),h7⟩
  rintro⟨h1,h2,h3,h4⟩
  rw[List.nodup_cons]at h4
  refine⟨h1 v (by simp),fun _ _=>h3 v (by simp),fun q u' e=>?_,fun w hw=>h1 w (List.mem_cons_of_mem _ hw),fun t ht=>h2 t (by simp only [ties,List.mem_cons];exact Or.inr ht),fun w hw=>⟨(h3 w (by simp[hw])).1,fun k=>?_⟩,h4.2⟩
  ·obtain⟨rfl,e2⟩:=List.append_inj' e rfl
   injection e2 with e2
   subst e2
   exact h2 _ (by simp[ties])
  rcases List.mem_append.1 k with k|k
  ·exact(h3 w (by simp[hw])).2 k
  rw[List.mem_singleton]at k
  subst k
  exact h4.1 hw
theorem NB (n:Int) (E taken:List Tie) (ks:List Int) (a:Int) (m:List Int) (z:Int):scan n E taken ks [] (a::(m++[z]))↔
  (∀v∈a::(m++[z]),0<=v/\v<n)/\(∀t∈ties (a::(m++[z])),t∈E/\t∉taken)/\(∀v∈m,v∉ks/\v≠a)/\m.Nodup:=by
 have h:=IP n E taken ks z m [] a
 simp only [List.nil_append]at h
 simp only [scan,List.nil_append,h]
 constructor
 ·rintro⟨h1,_,_,h2,h3,h4,h5⟩
  exact⟨fun v hv=>(List.mem_cons.1 hv).elim (fun e=>e▸h1) (h2 v),h3,fun v hv=>⟨(h4 v hv).1,fun e=>(h4 v hv).2 (by simp[e])⟩,h5⟩
 rintro⟨h1,h2,h3,h4⟩
 exact⟨h1 a (by simp),fun h=>absurd rfl h,fun p u e=>by simp at e,fun v hv=>h1 v (List.mem_cons_of_mem _ hv),h2,fun v hv=>⟨(h3 v hv).1,fun k=>(h3 v hv).2 (List.mem_singleton.1 k)⟩,h4⟩
theorem M_ (row:List Int):rd row 0=uH row:=rfl
theorem EE {row:List Int}(h:0<row.length) (hb:(row.length:Int)<big):rd row (wrap64 ((row.length:Int) - 1))=uC row/\0<=wrap64 ((row.length:Int) - 1)/\wrap64 ((row.length:Int) - 1)<(row.length:Int):=by
 rcases List.eq_nil_or_concat row with rfl|⟨q,u,rfl⟩
 ·simp at h
 rw[List.concat_eq_append]at*
 have hl:((q++[u]).length:Int)<big:=hb
 rw[uS q u hl]
 refine⟨?_,nn _,by simp;omega⟩
 have:=sO q u []
 unfold uC
 rw[List.getLastD_concat]
 exact this
theorem K7 (row:List Int) (h:0<row.length) (hb:(row.length:Int)<big):uY.f row=some (uH row !=uC row):=by
 obtain⟨h1,h2,h3⟩:=EE h hb
 have c:(row.length:Int)>0:=by omega
 have c':0<(row.length:Int):=by omega
 unfold uY.f
 rw[if_pos c,if_pos c',if_pos h2,if_pos h3,h1]
 rfl
theorem Lt (n:Int) (E taken:List S59) (ks row:List Int) (first:Bool) (hok:ok n E) (ht:(taken.length:Int)<big) (hk:(ks.length:Int)<big) (hb:(row.length:Int)<big):
  ∃b,Ev (fun k=>oP.f k n E taken ks row first) b/\(b=true↔zR n E taken ks first row):=by
 have F:Ev (fun k=>oP.j0 k taken ks row true n E) false:=Ev.step (fun k=>by simp only [oP.j0,if_true]<;>exact rfl) (Ev.val rfl)
 unfold oP.f
 by_cases c:(row.length:Int)<2
 ·simp only [if_pos c]
  exact⟨false,F,by simp only [Bool.false_eq_true,false_iff];intro h;have:=h.len;omega⟩
 have hl:2<=row.length:=by omega
 have h0:0<row.length:=by omega
 obtain⟨b0,e0,hs⟩:=Lv n E taken ks hok ht hk row [] (by simpa using hb)
 simp only [List.nil_append,List.length_nil,Int.natCast_zero]at e0
 have G:Ev (fun k=>oP.j0 k taken ks row false n E) b0:=Ev.step (fun k=>by simp only [oP.j0,Bool.false_eq_true,if_false]<;>exact rfl) e0
 obtain⟨r1,r2,r3⟩:=EE h0 hb
 have hp:0<(row.length:Int):=by omega
 have op:=K7 row h0 hb
 have main:b0=true↔(∀v∈row,0<=v/\v<n)/\(∀t∈ties row,t∈E/\t∉taken)/\(∀v∈wZ row,v∉ks/\v≠uH row)/\(wZ row).Nodup:=by
  rw[hs]
  obtain⟨a,m,z,rfl⟩:=Be hl
  rw[CS,zb]
  exact NB n E taken ks a m z
 simp only [if_neg c]
 -- the test of the ends
 have ends:∀good:Prop,∀ (x:Bool),(x=false↔good)->(∀b:Bool,(b=true↔good/\b0=true)->Ev (fun k=>oP.j0 k taken ks row x n E) b):=by
  intro good x hx b hb'
  cases x with
  |true=>
   have:¬good:=fun g=>Bool.noConfusion (hx.2 g)
   have e:b=false:=Bool.eq_false_iff.2 (fun e=>this (hb'.1 e).1)
   rw[e];exact F
  |false=>
   have g:=hx.1 rfl
   have e:b=b0:=by
    cases b0
    ·exact Bool.eq_false_iff.2 (fun e=>Bool.noConfusion (hb'.1 e).2)
    exact hb'.2 ⟨g,rfl⟩
   rw[e];exact G
 cases first with
 |true=>
  simp only [if_true]
  by_cases o:uH row=uC row
  ·have ob:(uH row !=uC row)=false:=by simp[o]
   refine⟨decide (4<=row.length)&&b0,?_,?_⟩
   ·refine Ev.const op ?_
    simp only [ob,Bool.false_eq_true,if_false]
    by_cases l4:(row.length:Int)<4
    ·simp only [if_pos l4]
     refine Ev.eq F ?_
     rw[decide_eq_false (by omega)];rfl
    simp only [if_neg l4]
    refine Ev.const op ?_
    simp only [ob,Bool.false_eq_true,if_false]
    refine ends True _ (by simp[l4]) _ ?_
    simp;omega
   rw[Bool.and_eq_true,main,decide_eq_true_eq]
   constructor
   ·rintro⟨l4,h1,h2,h3,h4⟩
    exact⟨hl,h1,fun t h=>(h2 t h).1,fun _=>o,fun h=>Bool.noConfusion h,fun _=>l4,h4,h3,fun t h=>(h2 t h).2⟩
   intro h
   exact⟨h.long o,h.sN,fun t k=>⟨h.tied t k,h.new t k⟩,h.apart,h.mid⟩
  have ob:(uH row !=uC row)=true:=by simp[o]
  refine⟨false,?_,?_⟩
  ·refine Ev.const op ?_
   simp only [ob,if_true]
   exact F
  simp only [Bool.false_eq_true,false_iff]
  exact fun h=>o (h.ring rfl)
 |false=>
  simp only [Bool.false_eq_true,if_false,if_pos hp,if_pos r2,if_pos r3,r1,M_]
  by_cases k1:uH row∈ks;rotate_left
  ·refine⟨false,?_,?_⟩
   ·refine Ev.bind (Ev.eq (vw ks _ hk) (decide_eq_false k1)) ?_
    simp only [Bool.false_eq_true,if_false]
    exact F
   simp only [Bool.false_eq_true,false_iff]
   exact fun h=>k1 (h.ends rfl).1
  by_cases k2:uC row∈ks
  ·refine⟨decide (uH row=uC row->4<=row.length)&&b0,?_,?_⟩
   ·refine Ev.bind (Ev.eq (vw ks _ hk) (decide_eq_true k1)) ?_
    simp only [if_true]
    refine Ev.bind (Ev.eq (vw ks _ hk) (decide_eq_true k2)) ?_
    simp only [if_true]
    refine Ev.const op ?_
    by_cases o:uH row=uC row
    ·have ob:(uH row !=uC row)=false:=by simp[o]
     simp only [ob,Bool.false_eq_true,if_false]
     exact ends (4<=row.length) _ (by rw[decide_eq_false_iff_not];omega) _ (by rw[Bool.and_eq_true,decide_eq_true_eq];exact⟨fun h=>⟨h.1 o,h.2⟩,fun h=>⟨fun _=>h.1,h.2⟩⟩)
    have ob:(uH row !=uC row)=true:=by simp[o]
    simp only [ob,if_true]
    exact ends True _ (by simp) _ (by rw[Bool.and_eq_true,decide_eq_true_eq];exact⟨fun h=>⟨trivial,h.2⟩,fun h=>⟨fun e=>absurd e o,h.2⟩⟩)
   rw[Bool.and_eq_true,main,decide_eq_true_eq]
   constructor
   ·rintro⟨l4,h1,h2,h3,h4⟩
    exact⟨hl,h1,fun t h=>(h2 t h).1,fun h=>Bool.noConfusion h,fun _=>⟨k1,k2⟩,l4,h4,h3,fun t h=>(h2 t h).2⟩
   intro h
   exact⟨h.long,h.sN,fun t k=>⟨h.tied t k,h.new t k⟩,h.apart,h.mid⟩
  refine⟨false,?_,?_⟩
  ·refine Ev.bind (Ev.eq (vw ks _ hk) (decide_eq_true k1)) ?_
   simp only [if_true]
   refine Ev.bind (Ev.eq (vw ks _ hk) (decide_eq_false k2)) ?_
   simp only [Bool.false_eq_true,if_false]
   exact F
  simp only [Bool.false_eq_true,false_iff]
  exact fun h=>k2 (h.ends rfl).2
theorem Aa (pre:List (List Int)) (t:List Int) (suf:List (List Int)):nO (pre++t::suf) (pre.length:Int)=t:=by
 unfold nO
 exact za pre t suf _
def tot:List (List Int)->Nat
 |[]=>0
 |r::rs=>r.length+tot rs
theorem BJ (ks p:List Int) (v:Int):rO ks (p++[v])=if v∈rO ks p then rO ks p else rO ks p++[v]:=by rw[FP];rfl
theorem EP (q:List Int) (u v:Int):ties (q++[u])++[oM u v]=ties ((q++[u])++[v]):=by
 rw[show(q++[u])++[v]=q++[u,v] by simp,Df]
theorem Lb (n:Int) (E T:List S59) (pe se:List (List Int)) (row ks:List Int) (b:Bool) (hpe:((pe++row::se).length:Int)<big) (hT:T.length+row.length<4000000) (hk:ks.length+row.length<4000000)
  (h:Ev (fun k=>qa.l0 k (pe++row::se) (T++ties row) (rO ks row) ((pe++[row]).length:Int) n E) b):∀ (suf p:List Int),row=p++suf->
  Ev (fun k=>qa.l1 k (pe++row::se) (T++ties p) (rO ks p) (pe.length:Int) (p.length:Int) n E) b:=by
 have hpl:(pe.length:Int)<big:=ui hpe
 intro suf
 induction suf with
 |nil=>
  intro p e
  rw[List.append_nil]at e
  subst e
  have c:¬ (row.length:Int)<(row.length:Int):=by omega
  exact Ev.step (fun k=>by simp only [qa.l1,nn,qV,if_true,Aa,if_neg c,rC (t:=row) hpl]<;>exact rfl) h
 |cons v suf ih=>
  intro p e
  have c1:(p.length:Int)<(row.length:Int):=by rw[e];exact qV p v suf
  have rv:rd row (p.length:Int)=v:=by rw[e];exact sO p v suf
  have hpb:(p.length:Int)<big:=by unfold big;omega
  have hs:wrap64 ((p.length:Int)+1)=((p++[v]).length:Int):=rC hpb
  have nxt:=ih (p++[v]) (by rw[e];simp)
  have hl:=DF p ks
  have hkb:((rO ks p).length:Int)<big:=by unfold big;omega
  have hk8:(rO ks p).length<17592186044416:=by omega
  rcases List.eq_nil_or_concat p with rfl|⟨q,u,rfl⟩
  ·have c0:¬ (([]:List Int).length:Int)>0:=by simp
   have et:T++ties []=T++ties ([]++[v]):=by simp[ties]
   refine Ev.step (fun k=>by simp only [qa.l1,nn,qV,if_true,Aa,if_pos c1,if_neg c0,rv,hs]<;>exact rfl) (Ev.bind (vw _ v hkb) ?_)
   by_cases m:v∈rO ks []
   ·rw[decide_eq_true m]
    simp only [if_true]
    rw[BJ,if_pos m]at nxt
    rw[et]
    exact nxt
   rw[decide_eq_false m]
   simp only [Bool.false_eq_true,if_false,if_pos hk8]
   rw[BJ,if_neg m]at nxt
   rw[et]
   exact nxt
  rw[List.concat_eq_append]at*
  have c0:((q++[u]).length:Int)>0:=by simp
  have c2:0<=wrap64 (((q++[u]).length:Int) - 1):=by rw[uS q u hpb];exact nn _
  have c3:wrap64 (((q++[u]).length:Int) - 1)<(row.length:Int):=by rw[uS q u hpb];simp at c1;omega
  have ru:rd row (wrap64 (((q++[u]).length:Int) - 1))=u:=by rw[uS q u hpb,e,zi];exact sO q u (v::suf)
  have h5:(T++ties (q++[u])).length<8796093022208:=by rw[List.length_append,zy];omega
  have et:(T++ties (q++[u]))++[(⟨(oM u v).f0,(oM u v).f1⟩:S59)]=T++ties ((q++[u])++[v]):=by rw[List.append_assoc,←EP]
  refine Ev.step (fun k=>by simp only [qa.l1,nn,qV,if_true,Aa,if_pos c1,if_pos c0,if_pos c2,if_pos c3,ru,rv,hs,zg,Option.bind_some,if_pos h5,et]<;>exact rfl) (Ev.bind (vw _ v hkb) ?_)
  by_cases m:v∈rO ks (q++[u])
  ·rw[decide_eq_true m]
   simp only [if_true]
   rw[BJ,if_pos m]at nxt
   exact nxt
  rw[decide_eq_false m]
  simp only [Bool.false_eq_true,if_false,if_pos hk8]
  rw[BJ,if_neg m]at nxt
  exact nxt
theorem La (n:Int) (E:List S59) (hok:ok n E):∀ (se pe:List (List Int)) (T:List S59) (ks:List Int),((pe++se).length:Int)<big->T.length+tot se<4000000->ks.length+tot se<4000000->
  ∃b,Ev (fun k=>qa.l0 k (pe++se) T ks (pe.length:Int) n E) b/\(b=true↔uB n E ((pe.length:Int)==0) T ks se):=by
 intro se
 induction se with
 |nil=>
  intro pe T ks hb hT hk
  by_cases c:(T.length:Int)=(E.length:Int)
  ·refine⟨(ks.length:Int)==n,Ev.step (fun k=>by simp only [qa.l0,uj,if_false,if_pos c]<;>exact rfl) (Ev.val rfl),?_⟩
   simp only [uB,beq_iff_eq]
   exact⟨fun h=>⟨by omega,h⟩,fun h=>h.2⟩
  refine⟨false,Ev.step (fun k=>by simp only [qa.l0,uj,if_false,if_neg c]<;>exact rfl) (Ev.val rfl),?_⟩
  simp only [uB,Bool.false_eq_true,false_iff]
  exact fun h=>c (by omega)
 |cons row se ih=>
  intro pe T ks hb hT hk
  simp only [tot]at hT hk
  obtain⟨b1,e1,h1⟩:=Lt n E T ks row ((pe.length:Int)==0) hok (by unfold big;omega) (by unfold big;omega) (by unfold big;omega)
  have base:∀k,qa.l0 (k+1) (pe++row::se) T ks (pe.length:Int) n E=(oP.f k n E T ks row ((pe.length:Int)==0)).bind fun t=>if t=true then qa.l1 k (pe++row::se) T ks (pe.length:Int) 0 n E else some false:=fun k=>by
   simp only [qa.l0,qV,nn,if_true,Aa]
  cases b1 with
  |false=>
   refine⟨false,Ev.step base (Ev.bind e1 (by simp only [Bool.false_eq_true,if_false];exact Ev.val rfl)),?_⟩
   simp only [uB,Bool.false_eq_true,false_iff]
   exact fun h=>Bool.noConfusion (h1.2 h.1)
  |true=>
   have hl:=DF row ks
   obtain⟨b2,e2,h2⟩:=ih (pe++[row]) (T++ties row) (rO ks row) (by simpa using hb) (by rw[List.length_append,zy];omega) (by omega)
   rw[show(pe++[row])++se=pe++row::se by simp]at e2
   have f:((((pe++[row]).length:Nat):Int)==0)=false:=by rw[beq_eq_false_iff_ne];simp;omega
   rw[f]at h2
   have L:=Lb n E T pe se row ks b2 hb (by omega) (by omega) e2 row [] rfl
   refine⟨b2,Ev.step base (Ev.bind e1 ?_),?_⟩
   ·simp only [if_true]
    simpa [ties,rO] using L
   simp only [uB,h2]
   exact⟨fun h=>⟨h1.1 rfl,h⟩,fun h=>h.2⟩
def G7 (n:Int) (E:List Tie) (ears:List (List Int)):Prop:=ok n E/\ears≠[]/\uB n E true [] [] ears
theorem NF (n:Int) (E:List S59) (ears:List (List Int)) (hE:(E.length:Int)<big) (hb:(ears.length:Int)<big) (hT:tot ears<4000000):
  ∃b,Ev (fun k=>qa.f k n E ears) b/\(b=true↔G7 n E ears):=by
 have F:Ev (fun k=>qa.j0 k ears true n E) false:=Ev.step (fun k=>by simp only [qa.j0,if_true]<;>exact rfl) (Ev.val rfl)
 unfold qa.f
 by_cases c:ok n E;rotate_left
 ·refine⟨false,Ev.bind (Ev.eq (yC n E hE) (decide_eq_false c)) (by simp only [Bool.false_eq_true,if_false];exact F),?_⟩
  simp only [Bool.false_eq_true,false_iff]
  exact fun x=>c x.1
 have K:=Ev.eq (yC n E hE) (decide_eq_true c)
 by_cases c1:(ears.length:Int)<1
 ·refine⟨false,Ev.bind K (by simp only [if_true,if_pos c1];exact F),?_⟩
  simp only [Bool.false_eq_true,false_iff]
  exact fun h=>h.2.1 (List.eq_nil_of_length_eq_zero (by omega))
 obtain⟨b,e,h⟩:=La n E c ears [] [] [] (by simpa using hb) (by simpa using hT) (by simpa using hT)
 simp only [List.nil_append,List.length_nil,Int.natCast_zero,beq_self_eq_true]at e h
 have ne:ears≠[]:=fun x=>c1 (by rw[x];simp)
 by_cases c2:(ears.length:Int)> (E.length:Int)
 ·refine⟨false,Ev.bind K (by simp only [if_true,if_neg c1,decide_eq_true c2];exact F),?_⟩
  simp only [Bool.false_eq_true,false_iff]
  intro x
  have:=G8 _ _ _ _ x.2.2
  simp at this
  omega
 refine⟨b,Ev.bind K ?_,?_⟩
 ·simp only [if_true,if_neg c1,decide_eq_false c2]
  exact Ev.step (fun k=>by simp only [qa.j0,Bool.false_eq_true,if_false]<;>exact rfl) e
 rw[h]
 exact⟨fun x=>⟨c,ne,x⟩,fun x=>x.2.2⟩
def begins (x:Int) (b:List Int):Prop:=b.length<=9/\(b≠[]->∃r,b=x::r)
def yZ (E:List Tie) (a:Int) (r:List Int×Bool):Prop:=r.1.length<=10/\(r.2=true->∃x s,r.1=a::x::s/\oM a x∈E)
theorem Lp (n a b:Int) (E:List S59) (hl:(E.length:Int)<big):∃w,Ev (fun k=>qZ.f k n E a b) w/\(w.2=true->begins a w.1):=by
 have no:Ev (fun k=>qZ.j0 k a b [] true n E) ([],false):=Ev.step (fun k=>by simp only [qZ.j0,if_true]<;>exact rfl) (Ev.val rfl)
 unfold qZ.f
 simp only [Option.bind_some]
 have ka:=vQ n a E hl
 have kb:=vQ n b E hl
 by_cases ca:ok n E/\0<=a/\a<n;rotate_left
 ·rw[decide_eq_false ca]at ka
  refine⟨([],false),Ev.bind ka ?_,by simp⟩
  simp only [Bool.false_eq_true,if_false]
  exact no
 rw[decide_eq_true ca]at ka
 by_cases cc:ok n E/\0<=b/\b<n;rotate_left
 ·rw[decide_eq_false cc]at kb
  refine⟨([],false),Ev.bind ka ?_,by simp⟩
  simp only [if_true]
  exact Ev.bind kb no
 rw[decide_eq_true cc]at kb
 obtain⟨f,f1,f2,f3,F⟩:=Lf n E b ca.1 cc.2
 have a0:0<=a:=ca.2.1
 have a1:a<(f.length:Int):=by omega
 have fa:=f3 a ca.2.1 ca.2.2
 have h8:=ca.1.2.1
 by_cases c:rd f a<0
 ·refine⟨([],false),Ev.bind ka ?_,by simp⟩
  simp only [if_true]
  refine Ev.bind kb (Ev.step (fun k=>by simp only [qZ.j0,Bool.not_true,Bool.false_eq_true,if_false]<;>exact rfl) (Ev.bind f1 ?_))
  simp only [if_pos a0,if_pos a1,if_pos c]
  exact Ev.val rfl
 have hw:=Ll n b E ca.1 f f2 F (rd f a).toNat a [a] (by omega) (by simp;omega) ca.2 (by omega)
 obtain⟨r,e1,e2,_⟩:=AR F ca.1.2.2.1 (rd f a).toNat a ca.2 (by omega)
 rw[e1]at hw
 refine⟨([a]++(a::r).tail,true),Ev.bind ka ?_,?_⟩
 ·simp only [if_true]
  refine Ev.bind kb (Ev.step (fun k=>by simp only [qZ.j0,Bool.not_true,Bool.false_eq_true,if_false]<;>exact rfl) (Ev.bind f1 ?_))
  simp only [if_pos a0,if_pos a1,if_neg c,List.nil_append,List.length_nil,Nat.reduceLT,if_true]
  exact hw
 intro _
 exact⟨by simp;omega,fun _=>⟨r,by simp⟩⟩
theorem LB (n a x:Int) (E C:List S59) (ks:List Int) (i:Int) (best:List Int) (hk:ks.length<=1000) (hb:begins x best)
  (next:∀b,begins x b->∃r,Ev (fun k=>rz.l0 k ks a x b (wrap64 (i+1)) n E n C) r/\yZ E a r):∀ (suf p:List Int) (m:Int) (F:List S59),p++suf=ks->ok m F->
  ∃r,Ev (fun k=>rz.l1 k ks a x best i (p.length:Int) n E n C m F) r/\yZ E a r:=by
 intro suf
 induction suf with
 |nil=>
  intro p m F e hF
  rw[List.append_nil]at e
  subst e
  have c:¬ (p.length:Int)<(p.length:Int):=by omega
  have hl:=uX hF
  obtain⟨w,wf,wb⟩:=Lp m x i F (by unfold big;omega)
  obtain⟨r0,g1,g2⟩:=next best hb
  by_cases t:w.2=true
  ·have hbw:=wb t
   obtain⟨r1,h1,h2⟩:=next w.1 hbw
   by_cases z:(best.length:Int)=0
   ·refine⟨r1,Ev.step (fun k=>by simp only [rz.l1,if_neg c]<;>exact rfl) (Ev.bind wf ?_),h2⟩
    simp only [if_pos t,if_pos z];exact h1
   by_cases y:(w.1.length:Int)<(best.length:Int)
   ·refine⟨r1,Ev.step (fun k=>by simp only [rz.l1,if_neg c]<;>exact rfl) (Ev.bind wf ?_),h2⟩
    simp only [if_pos t,if_neg z,if_pos y];exact h1
   refine⟨r0,Ev.step (fun k=>by simp only [rz.l1,if_neg c]<;>exact rfl) (Ev.bind wf ?_),g2⟩
   simp only [if_pos t,if_neg z,if_neg y];exact g1
  refine⟨r0,Ev.step (fun k=>by simp only [rz.l1,if_neg c]<;>exact rfl) (Ev.bind wf ?_),g2⟩
  simp only [if_neg t];exact g1
 |cons v suf ih=>
  intro p m F e hF
  have c:(p.length:Int)<(ks.length:Int):=by rw[←e];exact qV p v suf
  have w:wrap64 ((p.length:Int)+1)=((p++[v]).length:Int):=rC (by unfold big;omega)
  by_cases q:rd ks (p.length:Int)=i
  ·obtain⟨r,h1,h2⟩:=ih (p++[v]) m F (by rw[←e];simp) hF
   exact⟨r,Ev.step (fun k=>by simp only [rz.l1,if_pos c,nn,if_true,if_pos q,w]<;>exact rfl) h1,h2⟩
  obtain⟨m',F',f1,f2⟩:=N_ m (rd ks (p.length:Int)) F hF
  obtain⟨r,h1,h2⟩:=ih (p++[v]) m' F' (by rw[←e];simp) f2
  exact⟨r,Ev.step (fun k=>by simp only [rz.l1,if_pos c,nn,if_true,if_neg q,w]<;>exact rfl) (Ev.bind f1 h1),h2⟩
theorem LA (n a x:Int) (E C:List S59) (hE:ok n E) (ks:List Int) (hk:ks.length<=1000) (hC:ok n C) (ht:oM a x∈E):∀ (d:Nat) (i:Int) (best:List Int),0<=i->i+d=n->begins x best->
  ∃r,Ev (fun k=>rz.l0 k ks a x best i n E n C) r/\yZ E a r:=by
 intro d
 induction d with
 |zero=>
  intro i best h0 h hb
  have c:¬i<n:=by omega
  by_cases z:(best.length:Int)=0
  ·exact⟨([],false),Ev.step (fun k=>by simp only [rz.l0,if_neg c,if_pos z]<;>exact rfl) (Ev.val rfl),by simp[yZ]⟩
  obtain⟨s,hs⟩:=hb.2 (fun e=>z (by rw[e];rfl))
  have hl:=hb.1
  have g:([a]:List Int).length+best.length<17592186044416:=by simp;omega
  refine⟨(a::best,true),Ev.step (fun k=>by simp only [rz.l0,if_neg c,if_neg z,Option.bind_some,if_pos g]<;>exact rfl) (Ev.val rfl),?_,fun _=>⟨x,s,by rw[hs],ht⟩⟩
  simp;omega
 |succ d ih=>
  intro i best h0 h hb
  have c:i<n:=by omega
  have h8:=hE.2.1
  have w:wrap64 (i+1)=i+1:=w64 (by omega) (by omega)
  have hh:=vw ks i (by unfold big;omega)
  have nxt:∀b,begins x b->∃r,Ev (fun k=>rz.l0 k ks a x b (wrap64 (i+1)) n E n C) r/\yZ E a r:=fun b hb=>by rw[w];exact ih (i+1) b (by omega) (by omega) hb
  by_cases q:i∈ks
  ·rw[decide_eq_true q]at hh
   obtain⟨r,h1,h2⟩:=LB n a x E C ks i best hk hb nxt ks [] n C rfl hC
   exact⟨r,Ev.step (fun k=>by simp only [rz.l0,if_pos c]<;>exact rfl) (Ev.bind hh (by simp only [if_true];exact h1)),h2⟩
  rw[decide_eq_false q]at hh
  obtain⟨r,h1,h2⟩:=nxt best hb
  exact⟨r,Ev.step (fun k=>by simp only [rz.l0,if_pos c]<;>exact rfl) (Ev.bind hh (by simp only [Bool.false_eq_true,if_false];exact h1)),h2⟩
theorem LC (n a:Int) (E:List S59) (hE:ok n E) (ks:List Int) (hk:ks.length<=1000):∃r,Ev (fun k=>rz.f k n E ks a) r/\yZ E a r:=by
 have hl:=uX hE
 unfold rz.f
 have hn:=AY n a E hE
 cases e:next n E a with
 |nil=>
  rw[e]at hn
  exact⟨([],false),Ev.bind hn (by simp only [List.length_nil,Int.natCast_zero,if_true];exact Ev.val rfl),by simp[yZ]⟩
 |cons x s=>
  rw[e]at hn
  have ht:oM a x∈E:=(wR hE.2.2.1).1 (by rw[e];simp)
  have c0:¬ ((x::s).length:Int)=0:=by simp only [List.length_cons];omega
  have c1:0<((x::s).length:Int):=by simp only [List.length_cons];omega
  have r0:rd (x::s) 0=x:=rfl
  have hh:=vw ks x (by unfold big;omega)
  by_cases q:x∈ks
  ·rw[decide_eq_true q]at hh
   refine⟨([a,x],true),Ev.bind hn ?_,by simp,fun _=>⟨x,[],rfl,ht⟩⟩
   simp only [if_neg c0,if_pos c1,r0]
   exact Ev.bind hh (by simp only [if_true];exact Ev.val rfl)
  rw[decide_eq_false q]at hh
  obtain⟨r,h1,h2⟩:=LA n a x E (cut E (oM a x)) hE ks hk (Ba _ hE) ht n.toNat 0 [] (Int.le_refl _) (by have:=hE.1;omega) ⟨by simp,by simp⟩
  refine⟨r,Ev.bind hn ?_,h2⟩
  simp only [if_neg c0,if_pos c1,r0]
  refine Ev.bind hh ?_
  simp only [Bool.false_eq_true,if_false]
  have hc:=Bj n a x E (by omega)
  rw[if_pos ⟨hE,ht⟩]at hc
  exact Ev.bind hc h1
theorem L8 (n:Int) (T:List S59) (hT:(T.length:Int)<=1000):∀ (suf p:List S59) (X:List S59),p++suf=T->ok n X->∃F,Ev (fun k=>sw.l0 k T (p.length:Int) n X) (n,F)/\F.Sublist X:=by
 intro suf
 induction suf with
 |nil=>
  intro p X e hX
  rw[List.append_nil]at e
  subst e
  have c:¬ (p.length:Int)<(p.length:Int):=by omega
  exact⟨X,Ev.step (fun k=>by simp only [sw.l0,if_neg c]<;>exact rfl) (Ev.val rfl),List.Sublist.refl _⟩
 |cons t suf ih=>
  intro p X e hX
  have hl:=uX hX
  have c:(p.length:Int)<(T.length:Int):=by rw[←e];exact qV p t suf
  have w:wrap64 ((p.length:Int)+1)=((p++[t]).length:Int):=rC (by unfold big;omega)
  obtain⟨a,ha⟩:∃a,a=(nk T (p.length:Int)).f0:=⟨_,rfl⟩
  obtain⟨b,hb⟩:∃b,b=(nk T (p.length:Int)).f1:=⟨_,rfl⟩
  have hc:=Bj n a b X (by omega)
  by_cases q:ok n X/\oM a b∈X
  ·rw[if_pos q]at hc
   obtain⟨F,h1,h2⟩:=ih (p++[t]) (cut X (oM a b)) (by rw[←e];simp) (Ba _ hX)
   refine⟨F,Ev.step (fun k=>by simp only [sw.l0,if_pos c,nn,if_true,w,←ha,←hb]<;>exact rfl) (Ev.bind hc (by simp only [if_true];exact h1)),h2.trans List.filter_sublist⟩
  rw[if_neg q]at hc
  obtain⟨F,h1,h2⟩:=ih (p++[t]) X (by rw[←e];simp) hX
  exact⟨F,Ev.step (fun k=>by simp only [sw.l0,if_pos c,nn,if_true,w,←ha,←hb]<;>exact rfl) (Ev.bind hc (by simp only [Bool.false_eq_true,if_false];exact h1)),h2⟩
theorem NQ {n:Int}{t:Tie}(h:inr n t):oM t.f0 t.f1=t:=by
 have:=h.2.1
 unfold oM
 split
 ·rfl
 exact absurd this (by omega)
theorem L9 (n:Int) (E:List S59) (hE:ok n E) (t:Tie) (ht:t∈E) (T:List S59) (hT:(T.length:Int)<=900):∃F,Ev (fun k=>sw.f k n E (t::T)) (n,F)/\ok n F/\F.length<E.length:=by
 have hl:=uX hE
 have ts:=NQ (hE.2.2.1 t ht)
 have hc:=Bj n t.f0 t.f1 E (by omega)
 rw[ts,if_pos ⟨hE,ht⟩]at hc
 obtain⟨F,h1,h2⟩:=L8 n (t::T) (by simp;omega) T [t] (cut E t) rfl (Ba _ hE)
 have cl:=KP (Kq hE.2.2.2) t
 rw[if_pos ht]at cl
 have hle:=h2.length_le
 refine⟨F,?_,Io (Ba t hE) h2,by omega⟩
 unfold sw.f
 rw[Eo n E (by omega)]
 simp only [Option.bind_some]
 have c:(0:Int)<((t::T).length:Int):=by simp only [List.length_cons];omega
 have r0:nk (t::T) 0=t:=rfl
 have w:wrap64 ((0:Int)+1)=(([t]:List S59).length:Int):=by rw[w64 (by omega) (by omega)];rfl
 exact Ev.step (fun k=>by simp only [sw.l0,if_pos c,Int.le_refl,if_true,r0,w]<;>exact rfl) (Ev.bind hc (by simp only [if_true];exact h1))
def few (r:List (List Int)×Bool):Prop:=r.1.length<=64/\∀x∈r.1,2<=x.length/\x.length<=10
theorem K5 (n:Int) (E X:List S59) (out:List (List Int)) (ear:List Int) (he:ear.length<=10) (m:Nat) (hm:m<=900)
  (next:∀ks:List Int,ks.length<=m->∃r,Ev (fun k=>(sw.f k n X (ties ear)).bind fun bt=>if out.length<5864062014805 then o9.l0 k (out++[ear]) ks n E bt.1 bt.2 else none) r/\few r):
  ∀ (suf p:List Int) (ks:List Int),p++suf=ear->ks.length+suf.length<=m->∃r,Ev (fun k=>o9.l2 k out ks ear (ties p) (p.length:Int) n E n X) r/\few r:=by
 intro suf
 induction suf with
 |nil=>
  intro p ks e hk
  rw[List.append_nil]at e
  subst e
  have c:¬ (p.length:Int)<(p.length:Int):=by omega
  obtain⟨r,h1,h2⟩:=next ks (by simpa using hk)
  exact⟨r,Ev.step (fun k=>by simp only [o9.l2,if_neg c]<;>exact rfl) h1,h2⟩
 |cons v suf ih=>
  intro p ks e hk
  simp only [List.length_cons]at hk
  have c1:(p.length:Int)<(ear.length:Int):=by rw[←e];exact qV p v suf
  have rv:rd ear (p.length:Int)=v:=by rw[←e];exact sO p v suf
  have hpb:(p.length:Int)<big:=by unfold big;omega
  have hs:wrap64 ((p.length:Int)+1)=((p++[v]).length:Int):=rC hpb
  have hh:=vw ks v (by unfold big;omega)
  have hk8:ks.length<17592186044416:=by omega
  have e':(p++[v])++suf=ear:=by rw[←e];simp
  rcases List.eq_nil_or_concat p with rfl|⟨q,u,rfl⟩
  ·have c0:¬ (([]:List Int).length:Int)>0:=by simp
   have et:ties ([]:List Int)=ties ([]++[v]):=by simp[ties]
   by_cases m:v∈ks
   ·rw[decide_eq_true m]at hh
    obtain⟨r,h1,h2⟩:=ih ([]++[v]) ks e' (by omega)
    refine⟨r,Ev.step (fun k=>by simp only [o9.l2,if_pos c1,if_neg c0,nn,if_true,rv,hs]<;>exact rfl) (Ev.bind hh ?_),h2⟩
    simp only [if_true];rw[et];exact h1
   rw[decide_eq_false m]at hh
   obtain⟨r,h1,h2⟩:=ih ([]++[v]) (ks++[v]) e' (by simp;omega)
   refine⟨r,Ev.step (fun k=>by simp only [o9.l2,if_pos c1,if_neg c0,nn,if_true,rv,hs]<;>exact rfl) (Ev.bind hh ?_),h2⟩
   simp only [Bool.false_eq_true,if_false,if_pos hk8];rw[et];exact h1
  rw[List.concat_eq_append]at*
  have c0:((q++[u]).length:Int)>0:=by simp
  have c2:0<=wrap64 (((q++[u]).length:Int) - 1):=by rw[uS q u hpb];exact nn _
  have c3:wrap64 (((q++[u]).length:Int) - 1)<(ear.length:Int):=by rw[uS q u hpb];simp at c1;omega
  have ru:rd ear (wrap64 (((q++[u]).length:Int) - 1))=u:=by rw[uS q u hpb,←e,zi];exact sO q u (v::suf)
  have h5:(ties (q++[u])).length<8796093022208:=by rw[zy];omega
  have et:ties (q++[u])++[(⟨(oM u v).f0,(oM u v).f1⟩:S59)]=ties ((q++[u])++[v]):=by rw[←EP]
  by_cases m:v∈ks
  ·rw[decide_eq_true m]at hh
   obtain⟨r,h1,h2⟩:=ih ((q++[u])++[v]) ks e' (by omega)
   refine⟨r,Ev.step (fun k=>by simp only [o9.l2,if_pos c1,if_pos c0,if_pos c2,if_pos c3,nn,if_true,ru,rv,hs,zg,Option.bind_some,if_pos h5,et]<;>exact rfl) (Ev.bind hh ?_),h2⟩
   simp only [if_true];exact h1
  rw[decide_eq_false m]at hh
  obtain⟨r,h1,h2⟩:=ih ((q++[u])++[v]) (ks++[v]) e' (by simp;omega)
  refine⟨r,Ev.step (fun k=>by simp only [o9.l2,if_pos c1,if_pos c0,if_pos c2,if_pos c3,nn,if_true,ru,rv,hs,zg,Option.bind_some,if_pos h5,et]<;>exact rfl) (Ev.bind hh ?_),h2⟩
  simp only [Bool.false_eq_true,if_false,if_pos hk8];exact h1
theorem K4 (n:Int) (E X:List S59) (hX:ok n X) (out:List (List Int)) (ks:List Int) (hk:ks.length<=900) (next:∀at_:Int,∃r,Ev (fun k=>o9.j3 k out ks at_ n E n X) r/\few r):∀ (d:Nat) (i:Int),0<=i->i+d=n->
  ∃r,Ev (fun k=>o9.l1 k out ks i n E n X) r/\few r:=by
 have h8:=hX.2.1
 intro d
 induction d with
 |zero=>
  intro i h0 h
  have c:¬i<n:=by omega
  obtain⟨r,h1,h2⟩:=next i
  exact⟨r,Ev.step (fun k=>by simp only [o9.l1,if_neg c]<;>exact rfl) h1,h2⟩
 |succ d ih=>
  intro i h0 h
  have c:i<n:=by omega
  have w:wrap64 (i+1)=i+1:=w64 (by omega) (by omega)
  have hh:=vw ks i (by unfold big;omega)
  obtain⟨r,h1,h2⟩:=ih (i+1) (by omega) (by omega)
  by_cases q:i∈ks
  ·rw[decide_eq_true q]at hh
   have ha:=Kk n i X hX
   obtain⟨b,hb⟩:∃b,b=(((G.next n X i).length:Int)==0):=⟨_,rfl⟩
   rw[←hb]at ha
   cases b with
   |true=>exact⟨r,Ev.step (fun k=>by simp only [o9.l1,if_pos c]<;>exact rfl) (Ev.bind hh (by simp only [if_true];exact Ev.bind ha (by simp only [if_true,w];exact h1))),h2⟩
   |false=>
    obtain⟨r',g1,g2⟩:=next i
    exact⟨r',Ev.step (fun k=>by simp only [o9.l1,if_pos c]<;>exact rfl) (Ev.bind hh (by simp only [if_true];exact Ev.bind ha (by simp only [Bool.false_eq_true,if_false];exact g1))),g2⟩
  rw[decide_eq_false q]at hh
  exact⟨r,Ev.step (fun k=>by simp only [o9.l1,if_pos c]<;>exact rfl) (Ev.bind hh (by simp only [Bool.false_eq_true,if_false,w];exact h1)),h2⟩
theorem K3 (n:Int) (E:List S59):∀ (m:Nat) (X:List S59) (ks:List Int) (out:List (List Int)),X.length<=m->ok n X->ks.length+10*m<=800->out.length+m<=64->(∀x∈out,2<=x.length/\x.length<=10)->
  ∃r,Ev (fun k=>o9.l0 k out ks n E n X) r/\few r:=by
 intro m
 induction m with
 |zero=>
  intro X ks out hm hX hk ho hr
  have c:¬ (X.length:Int)>0:=by omega
  exact⟨(out,true),Ev.step (fun k=>by simp only [o9.l0,if_neg c]<;>exact rfl) (Ev.val rfl),by simpa using ho,hr⟩
 |succ m ih=>
  intro X ks out hm hX hk ho hr
  by_cases c:(X.length:Int)>0;rotate_left
  ·exact⟨(out,true),Ev.step (fun k=>by simp only [o9.l0,if_neg c]<;>exact rfl) (Ev.val rfl),by simp only;omega,hr⟩
  have nxt:∀at_:Int,∃r,Ev (fun k=>o9.j3 k out ks at_ n E n X) r/\few r:=by
   intro at_
   obtain⟨⟨ear,t⟩,f1,f2,f3⟩:=LC n at_ X hX ks (by omega)
   cases t with
   |false=>exact⟨([],false),Ev.step (fun k=>by simp only [o9.j3]<;>exact rfl) (Ev.bind f1 (by simp only [Bool.false_eq_true,if_false];exact Ev.val rfl)),by simp[few]⟩
   |true=>
    obtain⟨x,s,e,ht⟩:=f3 rfl
    simp only at e f2
    obtain⟨F,g1,g2,g3⟩:=L9 n X hX (oM at_ x) ht (ties (x::s)) (by rw[zy];rw[e]at f2;simp only [List.length_cons]at*;omega)
    have te:ties ear=oM at_ x::ties (x::s):=by rw[e];rfl
    rw[←te]at g1
    have o5:out.length<5864062014805:=by omega
    obtain⟨r,h1,h2⟩:=K5 n E X out ear f2 (ks.length+10) (by omega) (fun ks' hk'=>by
     obtain⟨r,h1,h2⟩:=ih F ks' (out++[ear]) (by omega) g2 (by omega) (by simp;omega) (fun y hy=>by
      rcases List.mem_append.1 hy with hy|hy
      ·exact hr y hy
      rw[List.mem_singleton]at hy;rw[hy];exact⟨by rw[e];simp,f2⟩)
     exact⟨r,Ev.bind g1 (by simp only [if_pos o5];exact h1),h2⟩) ear [] ks rfl (by omega)
    exact⟨r,Ev.step (fun k=>by simp only [o9.j3]<;>exact rfl) (Ev.bind f1 (by simp only [if_true];exact h1)),h2⟩
  obtain⟨r,h1,h2⟩:=K4 n E X hX out ks (by omega) nxt n.toNat 0 (Int.le_refl _) (by have:=hX.1;omega)
  exact⟨r,Ev.step (fun k=>by simp only [o9.l0,if_pos c]<;>exact rfl) h1,h2⟩
theorem K6 (n:Int) (E:List S59) (hb:(E.length:Int)<big):∃r,Ev (fun k=>o9.f k n E) r/\few r:=by
 have no:Ev (fun k=>o9.j0 k [] true n E) ([],false):=Ev.step (fun k=>by simp only [o9.j0,if_true]<;>exact rfl) (Ev.val rfl)
 have fw:few ([],false):=by simp[few]
 unfold o9.f
 simp only [Option.bind_some]
 have hk:=yC n E hb
 by_cases c:ok n E
 ·rw[decide_eq_true c]at hk
  have hl:=uX c
  by_cases d:n<3
  ·exact⟨_,Ev.bind hk (by simp only [if_true,if_pos d];exact no),fw⟩
  obtain⟨w,hw⟩:=ES n E c
  by_cases e:w=1
  ·obtain⟨L,hL⟩:=KE n E c
   obtain⟨b,hb'⟩:∃b,b=decide ((L.length:Int)>0):=⟨_,rfl⟩
   cases b with
   |true=>exact⟨_,Ev.bind hk (by simp only [if_true,if_neg d];exact Ev.bind hw (by simp only [if_pos e];exact Ev.bind hL (by rw[←hb'];exact no))),fw⟩
   |false=>
    obtain⟨r,h1,h2⟩:=K3 n E E.length E [0] [] (Nat.le_refl _) c (by simp;omega) (by simp;omega) (by simp)
    refine⟨r,Ev.bind hk (by simp only [if_true,if_neg d];exact Ev.bind hw (by simp only [if_pos e];exact Ev.bind hL (by rw[←hb'];exact Ev.step (fun k=>by simp only [o9.j0,Bool.false_eq_true,if_false,Eo n E (by omega),Option.bind_some]<;>exact rfl) h1))),h2⟩
  exact⟨_,Ev.bind hk (by simp only [if_true,if_neg d];exact Ev.bind hw (by simp only [if_neg e];exact no)),fw⟩
 rw[decide_eq_false c]at hk
 exact⟨_,Ev.bind hk (by simp only [Bool.false_eq_true,if_false];exact no),fw⟩
theorem Nv (s:List Int) (hs:uW s) (hl:s.length<=2000):∀ (d:Nat) (p n:Int) (E:List S59),d<=20->0<=p->p<=50000 - 2*d->0<=n->n<=8->E.length+d<=55->
  ∃r,Ev (fun k=>qd.l2 k (d:Int) s p n E) r/\qP (-1) 9 60 (100+2*d) p r:=by
 intro d
 induction d with
 |zero=>
  intro p n E hd h0 h1 n0 n1 hE
  have c:¬ (0:Int)>0:=by omega
  obtain⟨v,v1,v2,v3⟩:=tN s hs hl p 8 h0 (by omega)
  by_cases z:v=0
  ·obtain⟨⟨m,F,q⟩,r1,r2⟩:=Kl s hs hl (p+1) (by omega) (by omega)
   refine⟨(m,F,q),Ev.step (fun k=>by simp only [qd.l2,Int.natCast_zero,if_neg c]<;>exact rfl) (Ev.bind v1 ?_),by unfold qP at*;omega⟩
   simp only [if_pos z]
   exact Ev.bind r1 (Ev.val rfl)
  refine⟨(n,E,p+1),Ev.step (fun k=>by simp only [qd.l2,Int.natCast_zero,if_neg c]<;>exact rfl) (Ev.bind v1 ?_),by simp[qP];omega⟩
  simp only [if_neg z]
  exact Ev.val rfl
 |succ d ih=>
  intro p n E hd h0 h1 n0 n1 hE
  have c:((d+1:Nat):Int)>0:=by omega
  have w:wrap64 (((d+1:Nat):Int) - 1)=(d:Int):=by rw[w64 (by omega) (by omega)];omega
  obtain⟨v,v1,_⟩:=tN s hs hl p n h0 (by omega)
  obtain⟨u,u1,_⟩:=tN s hs hl (p+1) n (by omega) (by omega)
  obtain⟨m',F,t,a1,a2,a3⟩:=yM n v u E (by omega)
  cases t with
  |true=>
   obtain⟨r,r1,r2⟩:=ih (p+1+1) m' F (by omega) (by omega) (by omega) (by omega) (by omega) (by omega)
   refine⟨r,Ev.step (fun k=>by simp only [qd.l2,if_pos c,w]<;>exact rfl) (Ev.bind v1 (Ev.bind u1 (Ev.bind a1 ?_))),by unfold qP at*;omega⟩
   simp only [if_true];exact r1
  |false=>
   obtain⟨r,r1,r2⟩:=ih (p+1+1) n E (by omega) (by omega) (by omega) (by omega) (by omega) (by omega)
   refine⟨r,Ev.step (fun k=>by simp only [qd.l2,if_pos c,w]<;>exact rfl) (Ev.bind v1 (Ev.bind u1 (Ev.bind a1 ?_))),by unfold qP at*;omega⟩
   simp only [Bool.false_eq_true,if_false];exact r1
theorem Nu (s:List Int) (hs:uW s) (hl:s.length<=2000):∀ (d:Nat) (i p n:Int) (E:List S59),i+d=9->1<=i->0<=p->p<=40000 - 2*d->0<=n->n<=8->(E.length:Int)<=2*i->
  ∃r,Ev (fun k=>qd.l1 k i s p n E) r/\qP (-1) 9 60 (120+2*d) p r:=by
 have done:∀ (i p n:Int) (E:List S59),¬i<n->i<=9->0<=p->p<=40000->0<=n->n<=8->(E.length:Int)<=2*i->∃r,Ev (fun k=>qd.l1 k i s p n E) r/\qP (-1) 9 60 120 p r:=by
  intro i p n E c i9 h0 h1 n0 n1 hE
  obtain⟨v,v1,v2,v3⟩:=tN s hs hl p 5 h0 (by omega)
  obtain⟨r,r1,r2⟩:=Nv s hs hl v.toNat (p+1) n E (by omega) (by omega) (by omega) n0 n1 (by omega)
  rw[Int.toNat_of_nonneg v2]at r1
  exact⟨r,Ev.step (fun k=>by simp only [qd.l1,if_neg c]<;>exact rfl) (Ev.bind v1 r1),by unfold qP at*;omega⟩
 intro d
 induction d with
 |zero=>
  intro i p n E hi i1 h0 h1 n0 n1 hE
  obtain⟨r,r1,r2⟩:=done i p n E (by omega) (by omega) h0 (by omega) n0 n1 hE
  exact⟨r,r1,by unfold qP at*;omega⟩
 |succ d ih=>
  intro i p n E hi i1 h0 h1 n0 n1 hE
  by_cases c:i<n
  ·obtain⟨v,v1,v2,v3⟩:=tN s hs hl p i h0 (by omega)
   obtain⟨m',F,t,a1,a2,a3⟩:=yM n i v E (by omega)
   obtain⟨u,u1,u2,u3⟩:=tN s hs hl (p+1) (wrap64 (i - 1)) (by omega) (by omega)
   have i0:¬i=0:=by omega
   obtain⟨m2,F2,t2,b1,b2,b3⟩:=yM m' i (Int.tmod (wrap64 ((wrap64 (v+1))+u)) i) F (by omega)
   have w:wrap64 (i+1)=i+1:=w64 (by omega) (by omega)
   obtain⟨r,r1,r2⟩:=ih (i+1) (p+1+1) m2 F2 (by omega) (by omega) (by omega) (by omega) (by omega) (by omega) (by omega)
   refine⟨r,Ev.step (fun k=>by simp only [qd.l1,if_pos c]<;>exact rfl) (Ev.bind v1 (Ev.bind a1 (Ev.bind u1 ?_))),by unfold qP at*;omega⟩
   simp only [if_neg i0,w]
   exact Ev.bind b1 r1
  obtain⟨r,r1,r2⟩:=done i p n E c (by omega) h0 (by omega) n0 n1 hE
  exact⟨r,r1,by unfold qP at*;omega⟩
theorem Nt (s:List Int) (hs:uW s) (hl:s.length<=2000) (m:Int) (m1:1<=m) (m8:m<=8) (p:Int) (h0:0<=p) (h1:p<=30000):∀ (d:Nat) (i n:Int) (E:List S59),i+d=m->0<=i->0<=n->n<=8->(E.length:Int)<=i->
  ∃r,Ev (fun k=>qd.l0 k m i s p n E) r/\qP (-1) 9 60 150 p r:=by
 intro d
 induction d with
 |zero=>
  intro i n E hi i0 n0 n1 hE
  have c:¬i<m:=by omega
  obtain⟨r,r1,r2⟩:=Nu s hs hl (9 - m).toNat m p n E (by omega) m1 h0 (by omega) n0 n1 (by omega)
  exact⟨r,Ev.step (fun k=>by simp only [qd.l0,if_neg c]<;>exact rfl) r1,by unfold qP at*;omega⟩
 |succ d ih=>
  intro i n E hi i0 n0 n1 hE
  have c:i<m:=by omega
  have mz:¬m=0:=by omega
  have w:wrap64 (i+1)=i+1:=w64 (by omega) (by omega)
  obtain⟨m',F,t,a1,a2,a3⟩:=yM n i (Int.tmod (i+1) m) E (by omega)
  obtain⟨r,r1,r2⟩:=ih (i+1) m' F (by omega) (by omega) (by omega) (by omega) (by omega)
  exact⟨r,Ev.step (fun k=>by simp only [qd.l0,if_pos c,if_neg mz,w]<;>exact rfl) (Ev.bind a1 r1),r2⟩
theorem Ns (s:List Int) (hs:uW s) (hl:s.length<=2000) (p:Int) (h0:0<=p) (h1:p<=20000):∃r,Ev (fun k=>qd.f k s p) r/\qP (-1) 9 60 160 p r:=by
 obtain⟨v,v1,v2,v3⟩:=tN s hs hl p 6 h0 (by omega)
 have w1:wrap64 (3+v)=3+v:=w64 (by omega) (by omega)
 have w2:wrap64 ((3+v) - 2)=3+v - 2:=w64 (by omega) (by omega)
 obtain⟨u,u1,u2,u3⟩:=tN s hs hl (p+1) (3+v - 2) (by omega) (by omega)
 have w3:wrap64 (3+u)=3+u:=w64 (by omega) (by omega)
 obtain⟨r,r1,r2⟩:=Nt s hs hl (3+u) (by omega) (by omega) (p+1+1) (by omega) (by omega) (3+u).toNat 0 (3+v) [] (by omega) (Int.le_refl _) (by omega) (by omega) (by simp)
 refine⟨r,?_,by unfold qP at*;omega⟩
 unfold qd.f
 refine Ev.bind v1 ?_
 simp only [w1,w2]
 refine Ev.bind u1 ?_
 simp only [w3]
 exact r1
def short (r:List (List Int)):Prop:=r.length<=70/\∀x∈r,x.length<=12
theorem CY {r:List (List Int)}(h:short r) (i:Int):(nO r i).length<=12:=by
 unfold nO
 rw[List.getD_eq_getElem?_getD]
 cases e:r[i.toNat]? with
 |none=>simp
 |some x=>exact h.2 x (List.mem_of_getElem? e)
theorem EJ {r:List (List Int)}(h:short r) (i:Nat) {x:List Int}(hx:x.length<=12):short (r.set i x):=
 ⟨by rw[List.length_set];exact h.1,fun y hy=>(List.mem_or_eq_of_mem_set hy).elim (fun q=>h.2 y q) (fun q=>by rw[q];exact hx)⟩
theorem KZ (s:List Int) (q n:Int) (E:List S59) (r:List (List Int)) (hr:short r) (i:Int) (h0:0<=i) (h1:i<(r.length:Int)):∀ (d:Nat) (x:List Int),d<=(nO r i).length->x.length+d<=12->
  ∃z,Ev (fun k=>rH.l0 k r i x ((d:Int) - 1) s q n E) (n,E,z,q)/\short z:=by
 intro d
 induction d with
 |zero=>
  intro x hd hx
  have c:¬ ((0:Nat):Int) - 1>=0:=by omega
  exact⟨_,Ev.step (fun k=>by simp only [rH.l0,if_neg c,if_pos h0,if_pos h1]<;>exact rfl) (Ev.val rfl),EJ hr _ (by omega)⟩
 |succ d ih=>
  intro x hd hx
  have hl:=CY hr i
  have c:((d+1:Nat):Int) - 1>=0:=by omega
  have c2:0<=((d+1:Nat):Int) - 1:=by omega
  have c3:((d+1:Nat):Int) - 1<((nO r i).length:Int):=by omega
  have x8:x.length<17592186044416:=by omega
  have w:wrap64 (((d+1:Nat):Int) - 1 - 1)=(d:Int) - 1:=by rw[w64 (by omega) (by omega)];omega
  obtain⟨z,h2,h3⟩:=ih (x++[rd (nO r i) (((d+1:Nat):Int) - 1)]) (by omega) (by simp;omega)
  exact⟨z,Ev.step (fun k=>by simp only [rH.l0,if_pos c,if_pos h0,if_pos h1,if_pos c2,if_pos c3,if_pos x8,w]<;>exact rfl) h2,h3⟩
theorem Lj {r:List (List Int)×Bool}(h:few r):short r.1:=⟨by have:=h.1;omega,fun x hx=>by have:=h.2 x hx;omega⟩
theorem Hm {r:List (List Int)}{b:Bool}(h:few (r,b)) {i:Int}(h0:0<=i) (h1:i<(r.length:Int)):2<=(nO r i).length:=by
 unfold nO
 rw[List.getD_eq_getElem?_getD,List.getElem?_eq_getElem (by omega)]
 exact(h.2 _ (List.getElem_mem _)).1
theorem K_ (s:List Int) (hs:uW s) (hl:s.length<=2000) (p:Int) (h0:0<=p) (h1:p<=20000):∃n E r q,Ev (fun k=>rH.f k s p) (n,E,r,q)/\E.length<=60/\short r:=by
 obtain⟨⟨n,E,q⟩,r1,r2⟩:=Ns s hs hl p h0 h1
 simp only [qP]at r2
 obtain⟨⟨r,b⟩,e1,e2⟩:=K6 n E (by unfold big;omega)
 have hr:=Lj e2
 simp only at hr
 have hr70:=hr.1
 have h60:E.length<=60:=by omega
 unfold rH.f
 by_cases c:(r.length:Int)=0
 ·exact⟨n,E,[[0,1,2,0]],q,Ev.bind r1 (Ev.bind e1 (by simp only [if_pos c];exact Ev.val rfl)),h60,by simp[short]⟩
 obtain⟨i,i1,i2,i3⟩:=tN s hs hl q (r.length:Int) (by omega) (by omega)
 obtain⟨v,v1,v2,v3⟩:=tN s hs hl (q+1) 8 (by omega) (by omega)
 have ir:i<(r.length:Int):=by omega
 have ile:i<=(r.length:Int):=by omega
 have o5:r.length<5864062014805:=by omega
 have core:∀ (g:Nat->Option (Int×List S59×List (List Int)×Int)) (z:List (List Int)) (q':Int),Ev g (n,E,z,q')->short z->∃n' E' z' q'',Ev g (n',E',z',q'')/\E'.length<=60/\short z':=fun g z q' hg hz=>⟨n,E,z,q',hg,h60,hz⟩
 by_cases v0:v=0
 ·have a1:([]:List (List Int)).length+(r.take i.toNat).length<5864062014805:=by simp;omega
  have w:wrap64 (i+1)=i+1:=w64 (by omega) (by omega)
  have a2:0<=i+1:=by omega
  have a3:i+1<=(r.length:Int):=by omega
  have a4:([]++r.take i.toNat:List (List Int)).length+(r.drop (i+1).toNat).length<5864062014805:=by simp;omega
  refine core _ ([]++r.take i.toNat++r.drop (i+1).toNat) (q+1+1) (Ev.bind r1 (Ev.bind e1 ?_)) ⟨by simp;omega,fun x hx=>?_⟩
  ·simp only [if_neg c]
   refine Ev.bind i1 (Ev.bind v1 ?_)
   simp only [if_pos v0,if_pos i2,if_pos ile,Option.bind_some,if_pos a1,w,if_pos a2,if_pos a3,if_pos a4]
   exact Ev.val rfl
  rcases List.mem_append.1 hx with hx|hx
  ·exact hr.2 x (List.mem_of_mem_take (by simpa using hx))
  exact hr.2 x (List.mem_of_mem_drop hx)
 by_cases v1':v=1
 ·by_cases g:1<=((nO r i).length:Int)
  ·refine core _ (r.set i.toNat ((nO r i).drop 1)) (q+1+1) (Ev.bind r1 (Ev.bind e1 ?_)) (EJ hr _ (by have:=CY hr i;rw[List.length_drop];omega))
   simp only [if_neg c]
   refine Ev.bind i1 (Ev.bind v1 ?_)
   simp only [if_neg v0,if_pos v1',if_pos i2,if_pos ir,if_pos g]
   exact Ev.val rfl
  exact absurd (by have:=Hm e2 i2 ir;omega) g
 by_cases v2':v=2
 ·refine core _ (r++[[0,1]]) (q+1+1) (Ev.bind r1 (Ev.bind e1 ?_)) ⟨by have:=e2.1;simp at*;omega,fun x hx=>?_⟩
  ·simp only [if_neg c]
   refine Ev.bind i1 (Ev.bind v1 ?_)
   simp only [if_neg v0,if_neg v1',if_pos v2',if_pos o5]
   exact Ev.val rfl
  rcases List.mem_append.1 hx with hx|hx
  ·exact hr.2 x hx
  rw[List.mem_singleton]at hx;subst hx;decide
 by_cases v3':v=3
 ·obtain⟨j,j1,j2,j3⟩:=tN s hs hl (q+1+1) ((nO r i).length:Int) (by omega) (by omega)
  obtain⟨u,u1,u2,u3⟩:=tN s hs hl (q+1+1+1) 9 (by omega) (by omega)
  by_cases g:j<((nO r i).length:Int)
  ·refine core _ (r.set i.toNat ((nO r i).set j.toNat u)) (q+1+1+1+1) (Ev.bind r1 (Ev.bind e1 ?_)) (EJ hr _ (by rw[List.length_set];exact CY hr i))
   simp only [if_neg c]
   refine Ev.bind i1 (Ev.bind v1 ?_)
   simp only [if_neg v0,if_neg v1',if_neg v2',if_pos v3',if_pos i2,if_pos ir]
   refine Ev.bind j1 (Ev.bind u1 ?_)
   simp only [if_pos j2,if_pos g]
   exact Ev.val rfl
  exact absurd (by have:=Hm e2 i2 ir;omega) g
 by_cases v4':v=4
 ·have hln:=CY hr i
  have w:wrap64 (((nO r i).length:Int) - 1)=((nO r i).length:Int) - 1:=w64 (by omega) (by omega)
  obtain⟨z,z1,z2⟩:=KZ s (q+1+1) n E r hr i i2 ir (nO r i).length [] (Nat.le_refl _) (by simp;omega)
  refine core _ z (q+1+1) (Ev.bind r1 (Ev.bind e1 ?_)) z2
  simp only [if_neg c]
  refine Ev.bind i1 (Ev.bind v1 ?_)
  simp only [if_neg v0,if_neg v1',if_neg v2',if_neg v3',if_pos v4',if_pos i2,if_pos ir,w]
  exact z1
 refine core _ r (q+1+1) (Ev.bind r1 (Ev.bind e1 ?_)) hr
 simp only [if_neg c]
 refine Ev.bind i1 (Ev.bind v1 ?_)
 simp only [if_neg v0,if_neg v1',if_neg v2',if_neg v3',if_neg v4']
 exact Ev.val rfl
theorem I8:∀ {r:List (List Int)}(h:∀x∈r,x.length<=12),tot r<=12*r.length
 |[],_=>by simp[tot]
 |x::r,h=>by
  have h1:=h x List.mem_cons_self
  have h2:=I8 (r:=r) (fun y hy=>h y (List.mem_cons_of_mem _ hy))
  simp only [tot,List.length_cons]
  omega
theorem KY (l:List Int) (h:uW l):∃n E r,Ev (fun k=>zn.f k l) (n,E,r)/\E.length<=60/\short r:=by
 obtain⟨s,o1,o2,o3⟩:=MG l h
 obtain⟨n,E,r,q,r1,r2,r3⟩:=K_ s o2 o3 0 (by omega) (by omega)
 refine⟨n,E,r,?_,r2,r3⟩
 unfold zn.f
 simp only [o1,Option.bind_some]
 exact Ev.bind r1 (Ev.val rfl)
def Bl (n:Int) (E:List Tie) (row:List Int):Prop:=(∀v∈row,0<=v/\v<n)/\∀t∈ties row,t∈E
instance(n:Int) (E:List Tie) (row:List Int):Decidable (Bl n E row):=by unfold Bl;infer_instance
theorem NW (n:Int) (E:List S59) (hE:(E.length:Int)<big):∀ (suf q:List Int) (a:Int),((q++a::suf).length:Int)<big->
  Ev (fun k=>qR.l0 k (q++a::suf) (q++a::suf) ((q++a::suf).length:Int) ((q.length:Int)+1) n E) (decide ((∀v∈suf,0<=v/\v<n)/\∀t∈ties (a::suf),t∈E)):=by
 intro suf
 induction suf with
 |nil=>
  intro q a hb
  have c:¬ (q.length:Int)+1<((q++[a]).length:Int):=by simp
  refine Ev.step (fun k=>by simp only [qR.l0,if_neg c]<;>exact rfl) (Ev.val ?_)
  simp[ties]
 |cons t suf ih=>
  intro q a hb
  have hl:(q++a::t::suf).length=q.length+(suf.length+2):=by simp
  have hb2:(q.length:Int)+(suf.length+2)<4611686018427387904:=by unfold big at hb;omega
  have c1:(q.length:Int)+1<((q++a::t::suf).length:Int):=by omega
  have c2:0<=(q.length:Int)+1:=by omega
  have c3:(q.length:Int)+1>0:=by omega
  have w1:wrap64 ((q.length:Int)+1 - 1)=(q.length:Int):=by rw[w64 (by omega) (by omega)];omega
  have c4:0<=(q.length:Int):=nn _
  have c5:(q.length:Int)<((q++a::t::suf).length:Int):=by omega
  have r1:rd (q++a::t::suf) ((q.length:Int)+1)=t:=by
   have:=sO (q++[a]) t suf
   simpa using this
  have r2:rd (q++a::t::suf) (q.length:Int)=a:=sO q a (t::suf)
  have w2:wrap64 ((q.length:Int)+1+1)=((q++[a]).length:Int)+1:=by rw[w64 (by omega) (by omega)];simp
  refine Ev.step (fun k=>by simp only [qR.l0,if_pos c1,if_pos c2,r1,Hw,Option.bind_some]<;>exact rfl) ?_
  by_cases k1:0<=t/\t<n;rotate_left
  ·rw[decide_eq_false k1]
   simp only [Bool.false_eq_true,if_false]
   exact Ev.val (congrArg some (decide_eq_false (fun h=>k1 (h.1 t (by simp)))).symm)
  rw[decide_eq_true k1]
  simp only [if_true,if_pos c3,w1,if_pos c4,if_pos c5,r2]
  refine Ev.bind (LF n a t E hE) ?_
  by_cases k2:oM a t∈E
  ·rw[decide_eq_true k2]
   simp only [if_true,w2]
   have:=ih (q++[a]) t (by simpa using hb)
   have e:(q++[a])++t::suf=q++a::t::suf:=by simp
   rw[e]at this
   refine Ev.eq this ?_
   refine decide_eq_decide.2 ⟨fun h=>⟨fun v hv=>?_,fun s hs=>?_⟩,fun h=>⟨fun v hv=>h.1 v (by simp[hv]),fun s hs=>h.2 s (by simp[ties,hs])⟩⟩
   ·rcases List.mem_cons.1 hv with rfl|hv
    ·exact k1
    exact h.1 v hv
   simp only [ties,List.mem_cons]at hs
   rcases hs with rfl|hs
   ·exact k2
   exact h.2 s hs
  rw[decide_eq_false k2]
  simp only [Bool.false_eq_true,if_false]
  exact Ev.val (congrArg some (decide_eq_false (fun h=>k2 (h.2 _ (by simp[ties])))).symm)
theorem Ja (n:Int) (E:List S59) (row:List Int) (hE:(E.length:Int)<big) (hr:(row.length:Int)<big):Ev (fun k=>qR.f k n E row) (decide (Bl n E row)):=by
 unfold qR.f Bl
 cases row with
 |nil=>
  have c:¬ (0:Int)<(([]:List Int).length:Int):=by simp
  exact Ev.step (fun k=>by simp only [qR.l0,if_neg c]<;>exact rfl) (Ev.val (by simp[ties]))
 |cons a suf=>
  have c1:(0:Int)<((a::suf).length:Int):=by rw[List.length_cons];omega
  have c3:¬ (0:Int)>0:=by omega
  have r1:rd (a::suf) 0=a:=rfl
  have w2:wrap64 (0+1)=1:=by rw[w64 (by omega) (by omega)];rfl
  refine Ev.step (fun k=>by simp only [qR.l0,if_pos c1,Int.le_refl,if_true,r1,Hw,Option.bind_some]<;>exact rfl) ?_
  by_cases k1:0<=a/\a<n
  ·rw[decide_eq_true k1]
   simp only [if_true,if_neg c3,w2]
   have:=NW n E hE suf [] a (by simpa using hr)
   simp only [List.nil_append,List.length_nil]at this
   refine Ev.eq this ?_
   refine decide_eq_decide.2 ⟨fun h=>⟨fun v hv=>?_,h.2⟩,fun h=>⟨fun v hv=>h.1 v (by simp[hv]),h.2⟩⟩
   rcases List.mem_cons.1 hv with rfl|hv
   ·exact k1
   exact h.1 v hv
  rw[decide_eq_false k1]
  simp only [Bool.false_eq_true,if_false]
  exact Ev.val (congrArg some (decide_eq_false (fun h=>k1 (h.1 a (by simp)))).symm)
theorem LM (a:Int):∀ (suf p:List Int),((p++suf).length:Int)<big->
  ∃r,Ev (fun k=>sS.l0 k (p++suf) a ((p++suf).length:Int) (p.length:Int)) r/\(r>=0↔a∈suf):=by
 intro suf
 induction suf with
 |nil=>
  intro p hb
  refine⟨-1,Ev.step (fun k=>by simp only [sS.l0,uj,if_false]<;>exact rfl) (Ev.val rfl),by simp⟩
 |cons t suf ih=>
  intro p hb
  have hp:(p.length:Int)<big:=ui hb
  by_cases c:a=t
  ·refine⟨p.length,?_,?_⟩
   ·refine Ev.step (fun k=>by simp only [sS.l0,qV,nn,if_true,sO,rC (t:=t) hp,if_pos c]<;>exact rfl) ?_
    exact Ev.val rfl
   simp[c]
  obtain⟨r,hr,hi⟩:=ih (p++[t]) (wY hb)
  refine⟨r,?_,?_⟩
  ·refine Ev.step (fun k=>by simp only [sS.l0,qV,nn,if_true,sO,rC (t:=t) hp,if_neg c]<;>exact rfl) ?_
   rw[ry p t suf]
   exact hr
  rw[hi];simp[c]
theorem KM (l:List Int) (a:Int) (hb:(l.length:Int)<big):Ev (fun k=>vR.f k l a) (decide (a∈l)):=by
 unfold vR.f sS.f
 obtain⟨r,hr,hi⟩:=LM a l [] hb
 refine Ev.bind hr (Ev.val ?_)
 exact congrArg some (decide_eq_decide.2 hi)
def fresh:List Int->List Int->Prop
 |_,[]=>True
 |vs,x::r=>x∉vs/\fresh (vs++[x]) r
instance Ls:(vs l:List Int)->Decidable (fresh vs l)
 |_,[]=>isTrue trivial
 |vs,x::r=>by
  have:=Ls (vs++[x]) r
  unfold fresh
  infer_instance
theorem Lu (l:List Int):∀vs:List Int,fresh vs l↔l.Nodup/\∀x∈l,x∉vs:=by
 induction l with
 |nil=>intro vs;simp[fresh]
 |cons x r ih=>
  intro vs
  unfold fresh
  rw[ih,List.nodup_cons]
  constructor
  ·rintro⟨h1,h2,h3⟩
   refine⟨⟨fun hx=>?_,h2⟩,fun y hy=>?_⟩
   ·exact h3 x hx (by simp)
   rcases List.mem_cons.1 hy with rfl|hy
   ·exact h1
   exact fun hv=>h3 y hy (by simp[hv])
  rintro⟨⟨h1,h2⟩,h3⟩
  refine⟨h3 x (by simp),h2,fun y hy hv=>?_⟩
  rcases List.mem_append.1 hv with hv|hv
  ·exact h3 y (by simp[hy]) hv
  rw[List.mem_singleton]at hv
  subst hv
  exact h1 hy
theorem KT:∀ (suf p:List Int),((p++suf).length:Int)<big->
  Ev (fun k=>sj.l0 k (p++suf) (p++suf) ((p++suf).length:Int) (p.length:Int)) (decide (fresh p suf)):=by
 intro suf
 induction suf with
 |nil=>
  intro p hb
  refine Ev.step (fun k=>by simp only [sj.l0,uj,if_false]<;>exact rfl) ?_
  exact Ev.val (congrArg some (decide_eq_true (by simp[fresh])).symm)
 |cons t suf ih=>
  intro p hb
  have hp:(p.length:Int)<big:=ui hb
  have hle:(p.length:Int)<=((p++t::suf).length:Int):=Int.le_of_lt (qV _ _ _)
  have htk:(p++t::suf).take ((p.length:Int)).toNat=p:=by simp
  refine Ev.step (fun k=>by simp only [sj.l0,qV,nn,if_true,sO,rC (t:=t) hp,hle,htk]<;>exact rfl) ?_
  refine Ev.bind (KM p t hp) ?_
  by_cases c:t∈p
  ·simp only [c,decide_true,if_true]
   exact Ev.val (congrArg some (decide_eq_false (by simp[fresh,c])).symm)
  simp only [c,decide_false,Bool.false_eq_true,if_false]
  rw[ry p t suf]
  refine Ev.eq (ih (p++[t]) (wY hb)) ?_
  rw[decide_eq_decide]
  simp[fresh,c]
theorem GZ (l:List Int) (hb:(l.length:Int)<big):Ev (fun k=>sj.f k l) (decide l.Nodup):=by
 unfold sj.f
 refine Ev.eq (KT l [] hb) ?_
 rw[decide_eq_decide,Lu]
 simp
theorem IR (a b:Int):∀l:List Tie,uK l a b=decide ((⟨a,b⟩:Tie)∈l)
  |[]=>by simp[uK]
  |t::r=>by
    rw[uK,IR a b r]
    obtain⟨x,y⟩:=t
    by_cases h:a=x<;>by_cases k:b=y<;>simp[h,k]
def kn (n:Int) (K:List Bool) (ks:List Int):Prop:=(K.length:Int)=n/\∀v,0<=v->v<n->qz false K v=decide (v∈ks)
theorem LW (K:List Bool) (v x:Int) (h0:0<=v) (h1:v<(K.length:Int)) (x0:0<=x):qz false (K.set v.toNat true) x=if x=v then true else qz false K x:=by
  unfold qz
  simp only [List.getD_eq_getElem?_getD,List.getElem?_set]
  by_cases c:x=v
  · subst c
    have:x.toNat<K.length:=by omega
    simp[this]
  have c':¬v.toNat=x.toNat:=fun e=>c (by omega)
  simp[c,c']
theorem LX {n:Int}{K:List Bool}{ks:List Int}{v:Int}(h:kn n K ks) (h0:0<=v) (h1:v<n):kn n (K.set v.toNat true) (wL ks v):=by
  refine⟨by rw[List.length_set];exact h.1,fun x x0 x1=>?_⟩
  rw[LW K v x h0 (by rw[h.1];exact h1) x0,h.2 x x0 x1]
  by_cases c:x=v
  · rw[if_pos c];exact(decide_eq_true ((CR ks v x).2 (Or.inr c))).symm
  rw[if_neg c]
  exact decide_eq_decide.2 ⟨fun y=>(CR ks v x).2 (Or.inl y),fun y=>((CR ks v x).1 y).resolve_right c⟩
theorem LV {n:Int}{K:List Bool}{ks:List Int}(h:kn n K ks) (hn:ks.Nodup) (hr:∀v∈ks,0<=v/\v<n):false∉K↔(ks.length:Int)=n:=by
  have hall:false∉K↔∀v:Int,0<=v->v<n->v∈ks:=by
    constructor
    · intro hf v h0 h1
      have e:=h.2 v h0 h1
      by_cases c:v∈ks
      · exact c
      rw[decide_eq_false c]at e
      exfalso
      apply hf
      have hl:v.toNat<K.length:=by have:=h.1;omega
      unfold qz at e
      rw[List.getD_eq_getElem?_getD,List.getElem?_eq_getElem hl]at e
      simp at e
      rw[←e]
      exact List.getElem_mem hl
    intro hv hf
    obtain⟨i,hi,e⟩:=List.getElem_of_mem hf
    have e2:=h.2 (i:Int) (nn i) (by rw[←h.1];omega)
    unfold qz at e2
    rw[List.getD_eq_getElem?_getD,Int.toNat_natCast,List.getElem?_eq_getElem hi,e]at e2
    simp at e2
    exact e2 (hv i (nn i) (by rw[←h.1];omega))
  rw[hall]
  have hn0:0<=n:=by rw[←h.1];exact nn _
  have rl:((List.range n.toNat).map (fun i:Nat=>(i:Int))).length=n.toNat:=by simp
  have rn:((List.range n.toNat).map (fun i:Nat=>(i:Int))).Nodup:=by
    rw[List.Nodup,List.pairwise_map]
    exact List.nodup_range.imp (fun hne e=>hne (by exact_mod_cast e))
  constructor
  · intro hv
    have:=MC hn rn (fun x=>⟨fun hx=>by
      have:=hr x hx
      exact List.mem_map.2 ⟨x.toNat,List.mem_range.2 (by omega),by omega⟩,fun hx=>by
      obtain⟨i,hi,rfl⟩:=List.mem_map.1 hx
      have:=List.mem_range.1 hi
      exact hv i (nn i) (by omega)⟩)
    rw[rl]at this
    omega
  intro hlen v h0 h1
  by_cases c:v∈ks
  · exact c
  exfalso
  have:(v::ks).length<=((List.range n.toNat).map (fun i:Nat=>(i:Int))).length:=AZ (List.nodup_cons.2 ⟨c,hn⟩) (fun x hx=>by
    rcases List.mem_cons.1 hx with rfl|hx
    · exact List.mem_map.2 ⟨x.toNat,List.mem_range.2 (by omega),by omega⟩
    have:=hr x hx
    exact List.mem_map.2 ⟨x.toNat,List.mem_range.2 (by omega),by omega⟩)
  rw[rl]at this
  simp at this
  omega
theorem LK (a:Bool):∀ (suf p:List Bool),((p++suf).length:Int)<big->a∉p->
    ∃r,Ev (fun k=>sP.l0 k (p++suf) a ((p++suf).length:Int) (p.length:Int)) r/\(r>=0↔a∈p++suf):=by
  intro suf
  induction suf with
  |nil=>
    intro p hb hp
    refine⟨-1,Ev.step (fun k=>by simp only [sP.l0,uj,if_false]<;>exact rfl) (Ev.val rfl),?_⟩
    simp[hp]
  |cons t suf ih=>
    intro p hb hp
    have hl:(p.length:Int)<big:=ui hb
    by_cases c:a=t
    · refine⟨(p.length:Int),Ev.step (fun k=>by simp only [sP.l0,qV,nn,if_true,IA,if_pos (show(a==t)=true by simp[c])]<;>exact rfl) (Ev.val rfl),?_⟩
      simp[c]
    obtain⟨r,h1,h2⟩:=ih (p++[t]) (by rw[←ry];exact hb) (by simp[hp,c])
    rw[←ry]at h1 h2
    exact⟨r,Ev.step (fun k=>by simp only [sP.l0,qV,nn,if_true,IA,if_neg (show¬ (a==t)=true by simp[c]),rC (t:=t) hl]<;>exact rfl) h1,h2⟩
theorem KL (l:List Bool) (a:Bool) (hb:(l.length:Int)<big):Ev (fun k=>vY.f k l a) (decide (a∈l)):=by
  unfold vY.f sP.f
  obtain⟨r,h1,h2⟩:=LK a l [] hb (by simp)
  refine Ev.bind h1 (Ev.val ?_)
  rw[decide_eq_decide.2 h2];rfl
section
variable {n:Int}{E T:List S59}{D:List Int}{ears:List (List Int)}{len at_:Int}{row ks:List Int}{P:Prop}
theorem Mq (U:List S59) (hr:∀v∈row,0<=v/\v<n) (hb:(row.length:Int)<big)
    (H:∀K,kn n K (rO ks row)->∃b,Ev (fun k=>nV.l0 k D K ears len (wrap64 (at_+1)) n E U 0) b/\(b=true↔P)):∀ (suf p:List Int) (K:List Bool),row=p++suf->kn n K (rO ks p)->
    ∃b,Ev (fun k=>nV.l3 k D K ears len at_ row (row.length:Int) (p.length:Int) n E U 0) b/\(b=true↔P):=by
  intro suf
  induction suf with
  |nil=>
    intro p K e hK
    rw[List.append_nil]at e
    subst e
    obtain⟨b,e1,h1⟩:=H K hK
    have c:¬ (row.length:Int)<(row.length:Int):=by omega
    exact⟨b,Ev.step (fun k=>by simp only [nV.l3,if_neg c]<;>exact rfl) e1,h1⟩
  |cons v suf ih=>
    intro p K e hK
    have c1:(p.length:Int)<(row.length:Int):=by rw[e];exact qV p v suf
    have rv:rd row (p.length:Int)=v:=by rw[e];exact sO p v suf
    have hv:=hr v (by rw[e];simp)
    have hs:wrap64 ((p.length:Int)+1)=((p++[v]).length:Int):=rC (by omega)
    have c2:v<(K.length:Int):=by rw[hK.1];exact hv.2
    obtain⟨b,e1,h1⟩:=ih (p++[v]) (K.set v.toNat true) (by rw[e];simp) (by rw[FP];exact LX hK hv.1 hv.2)
    exact⟨b,Ev.step (fun k=>by simp only [nV.l3,nn,if_true,if_pos c1,rv,if_pos hv.1,if_pos c2,hs]<;>exact rfl) e1,h1⟩
theorem NS (K:List Bool) (hnd:(ties row).Nodup) (hb:(row.length:Int)<big)
    (H:∃b,Ev (fun k=>nV.l3 k D K ears len at_ row (row.length:Int) 0 n E (T++ties row) 0) b/\(b=true↔P)):∀ (suf p:List Int) (u:Int),row=(p++[u])++suf->
    ∃b,Ev (fun k=>nV.l2 k D K row ((p++[u]).length:Int) ears len at_ n E (T++ties (p++[u])) 0) b/\(b=true↔(∀t∈ties (u::suf),t∉T)/\P):=by
  intro suf
  induction suf with
  |nil=>
    intro p u e
    rw[List.append_nil]at e
    subst e
    obtain⟨b,e1,h1⟩:=H
    have c:¬ ((p++[u]).length:Int)<((p++[u]).length:Int):=by omega
    exact⟨b,Ev.step (fun k=>by simp only [nV.l2,if_neg c]<;>exact rfl) e1,by simp[ties,h1]⟩
  |cons v suf ih=>
    intro p u e
    have hpb:((p++[u]).length:Int)<big:=by rw[e]at hb;exact ui hb
    have c1:((p++[u]).length:Int)<(row.length:Int):=by rw[e];exact qV (p++[u]) v suf
    have c2:0<=wrap64 (((p++[u]).length:Int) - 1):=by rw[uS p u hpb];exact nn _
    have c3:wrap64 (((p++[u]).length:Int) - 1)<(row.length:Int):=by rw[uS p u hpb];simp at c1;omega
    have rv:rd row ((p++[u]).length:Int)=v:=by rw[e];exact sO (p++[u]) v suf
    have ru:rd row (wrap64 (((p++[u]).length:Int) - 1))=u:=by rw[uS p u hpb,e,zi];exact sO p u (v::suf)
    have hs:wrap64 (((p++[u]).length:Int)+1)=(((p++[u])++[v]).length:Int):=rC hpb
    have er:ties row=ties (p++[u])++oM u v::ties (v::suf):=by
      rw[e,show(p++[u])++v::suf=p++u::v::suf by simp];exact I5 p u v suf
    have hni:oM u v∉ties (p++[u]):=fun h=>by
      rw[er,List.nodup_append]at hnd
      exact hnd.2.2 _ h _ (by simp) rfl
    have et:(T++ties (p++[u]))++[(⟨(oM u v).f0,(oM u v).f1⟩:S59)]=T++ties ((p++[u])++[v]):=by rw[List.append_assoc,←EP]
    have ed:decide ((⟨(oM u v).f0,(oM u v).f1⟩:Tie)∈T++ties (p++[u]))=decide (oM u v∈T++ties (p++[u])):=rfl
    have base:∀k,nV.l2 (k+1) D K row ((p++[u]).length:Int) ears len at_ n E (T++ties (p++[u])) 0=if decide (oM u v∈T++ties (p++[u]))=true then some false else nV.l2 k D K row (((p++[u])++[v]).length:Int) ears len at_ n E (T++ties ((p++[u])++[v])) 0:=fun k=>by
      simp only [nV.l2,nn,if_true,if_pos c1,if_pos c2,if_pos c3,ru,rv,hs,I4,Option.bind_some,IR,et,ed]
    by_cases m:oM u v∈T
    · refine⟨false,Ev.step base (by rw[decide_eq_true (List.mem_append_left _ m)];exact Ev.val rfl),?_⟩
      simp only [Bool.false_eq_true,false_iff]
      exact fun h=>h.1 (oM u v) (by simp[ties]) m
    obtain⟨b,e1,h1⟩:=ih (p++[u]) v (by rw[e];simp)
    refine⟨b,Ev.step base (by rw[decide_eq_false (fun h=>(List.mem_append.1 h).elim m hni)];simpa using e1),?_⟩
    rw[h1]
    simp only [ties,List.mem_cons,forall_eq_or_imp]
    exact⟨fun h=>⟨⟨m,h.1⟩,h.2⟩,fun h=>⟨h.1.2,h.2⟩⟩
theorem Mv (K:List Bool) (U:List S59) (inner:List Int) (hK:kn n K ks) (hi:∀v∈inner,0<=v/\v<n) (hb:(inner.length:Int)<big)
    (H:(∀v∈inner,v∉ks)->∃b,Ev (fun k=>nV.l2 k D K row 1 ears len at_ n E U 0) b/\(b=true↔P)):∀ (suf p:List Int),inner=p++suf->(∀v∈p,v∉ks)->
    ∃b,Ev (fun k=>nV.l1 k D K row ears len at_ inner (inner.length:Int) (p.length:Int) n E U 0) b/\(b=true↔(∀v∈suf,v∉ks)/\P):=by
  intro suf
  induction suf with
  |nil=>
    intro p e hp
    rw[List.append_nil]at e
    subst e
    obtain⟨b,e1,h1⟩:=H hp
    have c:¬ (inner.length:Int)<(inner.length:Int):=by omega
    exact⟨b,Ev.step (fun k=>by simp only [nV.l1,if_neg c]<;>exact rfl) e1,by simp[h1]⟩
  |cons v suf ih=>
    intro p e hp
    have c1:(p.length:Int)<(inner.length:Int):=by rw[e];exact qV p v suf
    have rv:rd inner (p.length:Int)=v:=by rw[e];exact sO p v suf
    have hv:=hi v (by rw[e];simp)
    have hs:wrap64 ((p.length:Int)+1)=((p++[v]).length:Int):=rC (by omega)
    have c2:v<(K.length:Int):=by rw[hK.1];exact hv.2
    have base:∀k,nV.l1 (k+1) D K row ears len at_ inner (inner.length:Int) (p.length:Int) n E U 0=if decide (v∈ks)=true then some false else nV.l1 k D K row ears len at_ inner (inner.length:Int) ((p++[v]).length:Int) n E U 0:=fun k=>by
      simp only [nV.l1,nn,if_true,if_pos c1,rv,if_pos hv.1,if_pos c2,hs,hK.2 v hv.1 hv.2]
    by_cases m:v∈ks
    · refine⟨false,Ev.step base (by rw[decide_eq_true m];exact Ev.val rfl),?_⟩
      simp only [Bool.false_eq_true,false_iff]
      exact fun h=>h.1 v (by simp) m
    obtain⟨b,e1,h1⟩:=ih (p++[v]) (by rw[e];simp) (fun x hx=>(List.mem_append.1 hx).elim (hp x) (fun h=>by rw[List.mem_singleton]at h;subst h;exact m))
    refine⟨b,Ev.step base (by rw[decide_eq_false m];simpa using e1),?_⟩
    rw[h1]
    simp only [List.mem_cons,forall_eq_or_imp]
    exact⟨fun h=>⟨⟨m,h.1⟩,h.2⟩,fun h=>⟨h.1.2,h.2⟩⟩
end
theorem MW (a:Int) (m:List Int) (z:Int):(a::(m++[z])).drop 1=m++[z]/\((a::(m++[z])).take ((a::(m++[z])).length - 1)).drop 1=m:=by
  refine⟨rfl,?_⟩
  simp
theorem K9 (n:Int) (E:List S59) (hok:ok n E) (D:List Int):∀ (se pe:List (List Int)) (T:List S59) (ks:List Int) (K:List Bool),((pe++se).length:Int)<big->T.length+tot se<4000000->kn n K ks->ks.Nodup->(∀v∈ks,0<=v/\v<n)->(pe=[]->ks=[])->
    ∃b,Ev (fun k=>nV.l0 k D K (pe++se) ((pe++se).length:Int) (pe.length:Int) n E T 0) b/\(b=true↔uB n E ((pe.length:Int)==0) T ks se):=by
  have hE:(E.length:Int)<big:=by have:=uX hok;unfold big;omega
  intro se
  induction se with
  |nil=>
    intro pe T ks K hb hT hK hn hr h0
    by_cases c:(T.length:Int)=(E.length:Int)
    · refine⟨!decide (false∈K),Ev.step (fun k=>by simp only [nV.l0,uj,if_false,if_pos c]<;>exact rfl) (Ev.bind (KL K false (by have:=hK.1;have:=hok.2.1;unfold big;omega)) (Ev.val rfl)),?_⟩
      simp only [uB,Bool.not_eq_true',decide_eq_false_iff_not]
      rw[LV hK hn hr]
      exact⟨fun h=>⟨by omega,h⟩,fun h=>h.2⟩
    refine⟨false,Ev.step (fun k=>by simp only [nV.l0,uj,if_false,if_neg c]<;>exact rfl) (Ev.val rfl),?_⟩
    simp only [uB,Bool.false_eq_true,false_iff]
    exact fun h=>c (by omega)
  |cons row se ih=>
    intro pe T ks K hb hT hK hn hr h0
    simp only [tot]at hT
    have hrb:(row.length:Int)<big:=by unfold big;omega
    have hpl:(pe.length:Int)<big:=ui hb
    have fst:(((pe.length:Int)==0)=true)↔pe=[]:=by rw[beq_iff_eq];exact⟨fun h=>List.eq_nil_of_length_eq_zero (by omega),fun h=>by rw[h];rfl⟩
    have J2f:Ev (fun k=>nV.j2 k D K (pe.length:Int) row (pe++row::se) ((pe++row::se).length:Int) (pe.length:Int) true n E T 0) false:=Ev.step (fun k=>by simp only [nV.j2,if_true]<;>exact rfl) (Ev.val rfl)
    have bad:¬zR n E T ks ((pe.length:Int)==0) row->(false=true↔uB n E ((pe.length:Int)==0) T ks (row::se)):=fun h=>by
      simp only [uB,Bool.false_eq_true,false_iff];exact fun x=>h x.1
    by_cases cl:(row.length:Int)<2
    · exact⟨false,Ev.step (fun k=>by simp only [nV.l0,qV,nn,if_true,Aa,if_pos cl]<;>exact rfl) J2f,bad (fun h=>by have:=h.len;omega)⟩
    have hl:2<=row.length:=by omega
    have base:∀k,nV.l0 (k+1) D K (pe++row::se) ((pe++row::se).length:Int) (pe.length:Int) n E T 0=(qR.f k n E row).bind fun t=>nV.j2 k D K (pe.length:Int) row (pe++row::se) ((pe++row::se).length:Int) (pe.length:Int) (!t) n E T 0:=fun k=>by
      simp only [nV.l0,qV,nn,if_true,Aa,if_neg cl]
    by_cases hw:Bl n E row;rotate_left
    · have W:=Ev.eq (Ja n E row hE hrb) (decide_eq_false hw)
      exact⟨false,Ev.step base (Ev.bind W J2f),bad (fun h=>hw ⟨h.sN,h.tied⟩)⟩
    have W:=Ev.eq (Ja n E row hE hrb) (decide_eq_true hw)
    obtain⟨a,m,z,rfl⟩:=Be hl
    have r0:rd (a::(m++[z])) 0=a:=rfl
    obtain⟨r1,r2,r3⟩:=EE (row:=a::(m++[z])) (by simp) hrb
    rw[zX]at r1
    have ha:=hw.1 a (by simp)
    have hz:=hw.1 z (by simp)
    have hrl:0<((a::(m++[z])).length:Int):=by simp;omega
    have hK1:∀v:Int,v<n->v<(K.length:Int):=fun v h=>by rw[hK.1];exact h
    have hwl:wrap64 (((a::(m++[z])).length:Int) - 1)=(((a::(m++[z])).length - 1:Nat):Int):=by
      unfold big at hrb
      rw[w64 (by omega) (by omega)];omega
    -- behind the tests of the ends
    have J4:∀inner:List Int,(∀v∈inner,v∈a::(m++[z]))->(inner.length:Int)<big->(inner.Nodup->(∀v∈inner,v∉ks)->(ties (a::(m++[z]))).Nodup)->
        ∃b,Ev (fun k=>nV.j4 k D K (a::(m++[z])) inner (pe++(a::(m++[z]))::se) ((pe++(a::(m++[z]))::se).length:Int) (pe.length:Int) n E T 0) b/\
          (b=true↔inner.Nodup/\(∀v∈inner,v∉ks)/\(∀t∈ties (a::(m++[z])),t∉T)/\uB n E false (T++ties (a::(m++[z]))) (rO ks (a::(m++[z]))) se):=by
      intro inner hin hib hnd
      have base4:∀k,nV.j4 (k+1) D K (a::(m++[z])) inner (pe++(a::(m++[z]))::se) ((pe++(a::(m++[z]))::se).length:Int) (pe.length:Int) n E T 0=(sj.f k inner).bind fun t=>if t=true then nV.l1 k D K (a::(m++[z])) (pe++(a::(m++[z]))::se) ((pe++(a::(m++[z]))::se).length:Int) (pe.length:Int) inner (inner.length:Int) 0 n E T 0 else some false:=fun k=>by
        simp only [nV.j4]
      by_cases d:inner.Nodup
      · have H3:∀K',kn n K' (rO ks (a::(m++[z])))->∃b,Ev (fun k=>nV.l0 k D K' (pe++(a::(m++[z]))::se) ((pe++(a::(m++[z]))::se).length:Int) (wrap64 ((pe.length:Int)+1)) n E (T++ties (a::(m++[z]))) 0) b/\(b=true↔uB n E false (T++ties (a::(m++[z]))) (rO ks (a::(m++[z]))) se):=by
          intro K' hK'
          obtain⟨b,e1,h1⟩:=ih (pe++[a::(m++[z])]) (T++ties (a::(m++[z]))) (rO ks (a::(m++[z]))) K' (by simpa using hb) (by rw[List.length_append,zy];omega) hK' (Im _ hn) (fun v hv=>((zh _ _ _).1 hv).elim (hr v) (hw.1 v)) (fun e=>by simp at e)
          have f:((((pe++[a::(m++[z])]).length:Nat):Int)==0)=false:=by rw[beq_eq_false_iff_ne];simp;omega
          rw[f]at h1
          rw[show(pe++[a::(m++[z])])++se=pe++(a::(m++[z]))::se by simp]at e1
          rw[rC (t:=a::(m++[z])) hpl]
          exact⟨b,e1,h1⟩
        obtain⟨b,e1,h1⟩:=Mv (D:=D) (E:=E) (row:=a::(m++[z])) (ears:=pe++(a::(m++[z]))::se) (len:=((pe++(a::(m++[z]))::se).length:Int)) (at_:=(pe.length:Int)) K T inner hK (fun v hv=>hw.1 v (hin v hv)) hib (P:=(∀t∈ties (a::(m++[z])),t∉T)/\uB n E false (T++ties (a::(m++[z]))) (rO ks (a::(m++[z]))) se) (fun hnew=>by
            have h3:=Mq (D:=D) (E:=E) (len:=((pe++(a::(m++[z]))::se).length:Int)) (T++ties (a::(m++[z]))) hw.1 hrb H3 (a::(m++[z])) [] K rfl hK
            have h2:=NS (T:=T) (P:=uB n E false (T++ties (a::(m++[z]))) (rO ks (a::(m++[z]))) se) K (hnd d hnew) hrb h3 (m++[z]) [] a rfl
            simpa [ties] using h2) inner [] rfl (by simp)
        refine⟨b,Ev.step base4 (Ev.bind (Ev.eq (GZ inner hib) (decide_eq_true d)) (by simp only [if_true];exact e1)),?_⟩
        rw[h1]
        exact⟨fun h=>⟨d,h⟩,fun h=>h.2⟩
      refine⟨false,Ev.step base4 (Ev.bind (Ev.eq (GZ inner hib) (decide_eq_false d)) (by simp only [Bool.false_eq_true,if_false];exact Ev.val rfl)),?_⟩
      simp only [Bool.false_eq_true,false_iff]
      exact fun h=>d h.1
    have c1:1<=wrap64 (((a::(m++[z])).length:Int) - 1):=by rw[hwl];simp;omega
    have c2:wrap64 (((a::(m++[z])).length:Int) - 1)<=((a::(m++[z])).length:Int):=by rw[hwl];omega
    have c3:1<=((a::(m++[z])).length:Int):=by simp;omega
    have hmb:(m.length:Int)<big/\((m++[z]).length:Int)<big:=by simp at hrb⊢;omega
    have J3t:Ev (fun k=>nV.j3 k D K (pe.length:Int) (a::(m++[z])) a z (pe++(a::(m++[z]))::se) ((pe++(a::(m++[z]))::se).length:Int) (pe.length:Int) true n E T 0) false:=Ev.step (fun k=>by simp only [nV.j3,if_true]<;>exact rfl) (Ev.val rfl)
    have base2:∀k,nV.j2 (k+1) D K (pe.length:Int) (a::(m++[z])) (pe++(a::(m++[z]))::se) ((pe++(a::(m++[z]))::se).length:Int) (pe.length:Int) false n E T 0=
        (if a=z then(if((a::(m++[z])).length:Int)<4 then nV.j3 k D K (pe.length:Int) (a::(m++[z])) a z (pe++(a::(m++[z]))::se) ((pe++(a::(m++[z]))::se).length:Int) (pe.length:Int) true n E T 0 else(if(pe.length:Int)=0 then nV.j3 k D K (pe.length:Int) (a::(m++[z])) a z (pe++(a::(m++[z]))::se) ((pe++(a::(m++[z]))::se).length:Int) (pe.length:Int) (a !=z) n E T 0 else nV.j3 k D K (pe.length:Int) (a::(m++[z])) a z (pe++(a::(m++[z]))::se) ((pe++(a::(m++[z]))::se).length:Int) (pe.length:Int) false n E T 0))
         else(if(pe.length:Int)=0 then nV.j3 k D K (pe.length:Int) (a::(m++[z])) a z (pe++(a::(m++[z]))::se) ((pe++(a::(m++[z]))::se).length:Int) (pe.length:Int) (a !=z) n E T 0 else nV.j3 k D K (pe.length:Int) (a::(m++[z])) a z (pe++(a::(m++[z]))::se) ((pe++(a::(m++[z]))::se).length:Int) (pe.length:Int) false n E T 0)):=fun k=>by
      simp only [nV.j2,Bool.false_eq_true,if_false,if_pos hrl,if_pos r2,if_pos r3,r0,r1]
    have fin:∀b,Ev (fun k=>nV.j2 k D K (pe.length:Int) (a::(m++[z])) (pe++(a::(m++[z]))::se) ((pe++(a::(m++[z]))::se).length:Int) (pe.length:Int) false n E T 0) b->Ev (fun k=>nV.l0 k D K (pe++(a::(m++[z]))::se) ((pe++(a::(m++[z]))::se).length:Int) (pe.length:Int) n E T 0) b:=fun b h=>Ev.step base (Ev.bind W h)
    have lp:=zX a m z
    have hp:=zb a m z
    have mp:=CS a m z
    by_cases l4:a=z/\((a::(m++[z])).length:Int)<4
    · refine⟨false,fin _ (Ev.step base2 (by simp only [if_pos l4.1,if_pos l4.2];exact J3t)),bad (fun h=>?_)⟩
      have:=h.long (by rw[hp,lp];exact l4.1)
      omega
    have hlong:uH (a::(m++[z]))=uC (a::(m++[z]))->4<=(a::(m++[z])).length:=by
      rw[hp,lp];intro e
      have:¬ ((a::(m++[z])).length:Int)<4:=fun h=>l4 ⟨e,h⟩
      omega
    by_cases cp:pe=[]
    · have cp0:(pe.length:Int)=0:=by rw[cp];rfl
      have ek:=h0 cp
      by_cases az:a=z;rotate_left
      · have ne:(a !=z)=true:=by simp[az]
        refine⟨false,fin _ (Ev.step base2 (by simp only [if_neg az,if_pos cp0,ne];exact J3t)),bad (fun h=>?_)⟩
        have:=h.ring (fst.2 cp)
        rw[hp,lp]at this
        exact az this
      have l4':¬ ((a::(m++[z])).length:Int)<4:=fun h=>l4 ⟨az,h⟩
      have ne:(a !=z)=false:=by simp[az]
      have base3:∀k,nV.j3 (k+1) D K (pe.length:Int) (a::(m++[z])) a z (pe++(a::(m++[z]))::se) ((pe++(a::(m++[z]))::se).length:Int) (pe.length:Int) false n E T 0=nV.j4 k D K (a::(m++[z])) (m++[z]) (pe++(a::(m++[z]))::se) ((pe++(a::(m++[z]))::se).length:Int) (pe.length:Int) n E T 0:=fun k=>by
        simp only [nV.j3,Bool.false_eq_true,if_false,if_pos c1,if_pos c2,if_pos c3,if_pos cp0,List.drop_succ_cons,List.drop_zero]
      obtain⟨b,e1,h1⟩:=J4 (m++[z]) (fun v hv=>List.mem_cons_of_mem _ hv) hmb.2 (fun d _=>by
        rw[List.nodup_append]at d
        have hzm:z∉m:=fun h=>d.2.2 z h z (by simp) rfl
        exact Er (n:=n) (E:=E) (taken:=T) (ks:=ks) (first:=true) hl hlong (by rw[mp];exact d.1) (by rw[hp,mp,az];exact hzm) (by rw[lp,mp];exact hzm))
      refine⟨b,fin _ (Ev.step base2 (by simp only [if_pos az,if_neg l4',if_pos cp0,ne];exact Ev.step base3 e1)),?_⟩
      rw[h1,fst.2 cp]
      simp only [uB]
      constructor
      · rintro⟨d,hnew,ht,he⟩
        rw[List.nodup_append]at d
        have hzm:z∉m:=fun h=>d.2.2 z h z (by simp) rfl
        exact⟨⟨hl,hw.1,hw.2,fun _=>by rw[hp,lp];exact az,fun h=>Bool.noConfusion h,hlong,by rw[mp];exact d.1,by rw[mp,hp];exact fun v hv=>⟨hnew v (List.mem_append_left _ hv),fun e=>hzm (by rw[←az,←e];exact hv)⟩,ht⟩,he⟩
      rintro⟨h,he⟩
      refine⟨?_,fun v _=>by rw[ek];simp,h.new,he⟩
      have hm:=h.mid
      have hap:=h.apart
      rw[mp]at hm
      rw[mp,hp]at hap
      rw[List.nodup_append]
      exact⟨hm,by simp,fun x hx y hy e=>by rw[List.mem_singleton]at hy;subst hy;subst e;exact(hap x hx).2 az.symm⟩
    have cp0:¬ (pe.length:Int)=0:=fun h=>cp (List.eq_nil_of_length_eq_zero (by omega))
    have ff:((pe.length:Int)==0)=false:=Bool.eq_false_iff.2 (fun h=>cp (fst.1 h))
    have ca:a<(K.length:Int):=hK1 a ha.2
    have cz:z<(K.length:Int):=hK1 z hz.2
    have tk:((a::(m++[z])).take (wrap64 (((a::(m++[z])).length:Int) - 1)).toNat).drop 1=m:=by rw[hwl,Int.toNat_natCast];exact(MW a m z).2
    have base3:∀k,nV.j3 (k+1) D K (pe.length:Int) (a::(m++[z])) a z (pe++(a::(m++[z]))::se) ((pe++(a::(m++[z]))::se).length:Int) (pe.length:Int) false n E T 0=if decide (a∈ks)=true then(if decide (z∈ks)=true then nV.j4 k D K (a::(m++[z])) m (pe++(a::(m++[z]))::se) ((pe++(a::(m++[z]))::se).length:Int) (pe.length:Int) n E T 0 else some false) else some false:=fun k=>by
      simp only [nV.j3,Bool.false_eq_true,if_false,if_pos c1,if_pos c2,if_neg cp0,if_pos ha.1,if_pos hz.1,if_pos ca,if_pos cz,tk,hK.2 a ha.1 ha.2,hK.2 z hz.1 hz.2]
    have base2':∀b,Ev (fun k=>nV.j3 k D K (pe.length:Int) (a::(m++[z])) a z (pe++(a::(m++[z]))::se) ((pe++(a::(m++[z]))::se).length:Int) (pe.length:Int) false n E T 0) b->Ev (fun k=>nV.j2 k D K (pe.length:Int) (a::(m++[z])) (pe++(a::(m++[z]))::se) ((pe++(a::(m++[z]))::se).length:Int) (pe.length:Int) false n E T 0) b:=fun b h=>by
      refine Ev.step base2 ?_
      by_cases az:a=z
      · simp only [if_pos az,if_neg (fun h=>l4 ⟨az,h⟩),if_neg cp0];exact h
      simp only [if_neg az,if_neg cp0];exact h
    by_cases ka:a∈ks
    · by_cases kz:z∈ks
      · obtain⟨b,e1,h1⟩:=J4 m (fun v hv=>List.mem_cons_of_mem _ (List.mem_append_left _ hv)) hmb.1 (fun d hnew=>Er (n:=n) (E:=E) (taken:=T) (ks:=ks) (first:=false) hl hlong (by rw[mp];exact d) (by rw[hp,mp];exact fun h=>hnew a h ka) (by rw[lp,mp];exact fun h=>hnew z h kz))
        refine⟨b,fin _ (base2' _ (Ev.step base3 (by simp only [decide_eq_true ka,decide_eq_true kz,if_true];exact e1))),?_⟩
        rw[h1,ff]
        simp only [uB]
        constructor
        · rintro⟨d,hnew,ht,he⟩
          exact⟨⟨hl,hw.1,hw.2,fun h=>Bool.noConfusion h,fun _=>by rw[hp,lp];exact⟨ka,kz⟩,hlong,by rw[mp];exact d,by rw[mp,hp];exact fun v hv=>⟨hnew v hv,fun e=>hnew v hv (e▸ka)⟩,ht⟩,he⟩
        rintro⟨h,he⟩
        have hm:=h.mid
        have hap:=h.apart
        rw[mp]at hm hap
        exact⟨hm,fun v hv=>(hap v hv).1,h.new,he⟩
      refine⟨false,fin _ (base2' _ (Ev.step base3 (by simp only [decide_eq_true ka,decide_eq_false kz,if_true,Bool.false_eq_true,if_false];exact Ev.val rfl))),bad (fun h=>?_)⟩
      have:=(h.ends ff).2
      rw[lp]at this
      exact kz this
    refine⟨false,fin _ (base2' _ (Ev.step base3 (by simp only [decide_eq_false ka,Bool.false_eq_true,if_false];exact Ev.val rfl))),bad (fun h=>?_)⟩
    have:=(h.ends ff).1
    rw[hp]at this
    exact ka this
theorem LH (n:Int) (E:List S59) (ears:List (List Int)) (hE:(E.length:Int)<big) (hb:(ears.length:Int)<big) (hT:tot ears<4000000):
    ∃b,Ev (fun k=>zT.f k n E ears) b/\(b=true↔G7 n E ears):=by
  have F:Ev (fun k=>nV.j0 k ears [] true n E) false:=Ev.step (fun k=>by simp only [nV.j0,if_true]<;>exact rfl) (Ev.val rfl)
  unfold zT.f nV.f
  by_cases c:ok n E;rotate_left
  · refine⟨false,Ev.bind (Ev.eq (Hr n E hE) (decide_eq_false c)) (by simp only [Bool.false_eq_true,if_false];exact F),?_⟩
    simp only [Bool.false_eq_true,false_iff]
    exact fun x=>c x.1
  have K:=Ev.eq (Hr n E hE) (decide_eq_true c)
  by_cases c1:ears=[]
  · refine⟨false,Ev.bind K ?_,?_⟩
    · simp only [if_true,c1,List.length_nil,Int.natCast_zero,beq_self_eq_true]
      rw[c1]at F
      exact F
    simp only [Bool.false_eq_true,false_iff]
    exact fun h=>h.2.1 c1
  have n0:=c.1
  have n8:=c.2.1
  have hc:n.toNat<=281474976710656:=by omega
  have cb:((ears.length:Int)==0)=false:=by
    rw[beq_eq_false_iff_ne]
    exact fun h=>c1 (List.eq_nil_of_length_eq_zero (by omega))
  have hK:kn n (List.replicate n.toNat false) []:=by
    refine⟨by rw[List.length_replicate];omega,fun v h0 h1=>?_⟩
    unfold qz
    rw[List.getD_eq_getElem?_getD,List.getElem?_replicate]
    split<;>simp
  obtain⟨b,e,h⟩:=K9 n E c [] ears [] [] [] (List.replicate n.toNat false) (by simpa using hb) (by simpa using hT) hK (by simp) (by simp) (fun _=>rfl)
  simp only [List.nil_append,List.length_nil,Int.natCast_zero,beq_self_eq_true]at e h
  refine⟨b,Ev.bind K ?_,?_⟩
  · simp only [if_true,cb]
    exact Ev.step (fun k=>by simp only [nV.j0,Bool.false_eq_true,if_false,if_pos n0,if_pos hc]<;>exact rfl) e
  rw[h]
  exact⟨fun x=>⟨c,c1,x⟩,fun x=>x.2.2⟩
end Go.Proofs.Ytgeonpciodepgaa.P
namespace Go.Proofs.Ytgeonpciodepgaa.G
theorem H6 {n:Int}{E T:List Tie}{ks row:List Int}{first:Bool}(h:zR n E T ks first row):∀v∈wZ row,v≠uC row:=by
 intro v hv e
 cases first with
 |true=>exact(h.apart v hv).2 (e.trans (h.ring rfl).symm)
 |false=>exact(h.apart v hv).1 (e▸ (h.ends rfl).2)
theorem En {E:List Tie}:∀ (r:List Int) (a:Int),(∀t∈ties (a::r),t∈E)->∀x∈a::r,qK E a x
 |[],a,_,x,hx=>by simp at hx;subst hx;exact .refl _
 |b::r,a,h,x,hx=>by
  rcases List.mem_cons.1 hx with rfl|q
  ·exact .refl _
  exact(qK.one (h _ (by simp[ties]))).trans (En r b (fun t ht=>h t (by simp[ties,ht])) x q)
theorem NY {T:List Tie}{ks:List Int}{a b:Int}{p:List Int}(h:vv T a b p) (ha:a∈ks) (hT:∀t∈T,t.f0∈ks/\t.f1∈ks):∀x∈p,x∈ks:=by
 intro x hx
 cases p with
 |nil=>simp at hx
 |cons y r=>
  have:y=a:=by have:=h.head;simpa using this
  subst this
  have c:=En r y h.ties x hx
  refine c.closed (fun v=>v∈ks) ha (fun u v hu ht=>?_)
  have:=hT _ ht
  unfold oM at this
  split at this
  ·exact this.2
  exact this.1
def hangs (T:List Tie) (ks:List Int):Prop:=(∀u∈ks,∀v∈ks,qK T u v)/\∀t∈T,t.f0∈ks/\t.f1∈ks
theorem Hq {n:Int}{E T:List Tie}{ks row:List Int}{first:Bool}(hf:first=true->ks=[]) (h:zR n E T ks first row) (hh:hangs T ks):hangs (T++ties row) (rO ks row):=by
 obtain⟨a,m,z,rfl⟩:=Be h.len
 have hrow:∀x∈a::(m++[z]),qK (T++ties (a::(m++[z]))) a x:=En _ _ (fun t ht=>List.mem_append_right _ ht)
 have hall:∀x∈rO ks (a::(m++[z])),qK (T++ties (a::(m++[z]))) a x:=fun x hx=>by
  rcases(zh _ ks x).1 hx with q|q
  ·cases first with
   |true=>rw[hf rfl]at q;simp at q
   |false=>
    have:=(h.ends rfl).1
    rw[zb]at this
    exact(hh.1 a this x q).mono (fun t ht=>List.mem_append_left _ ht)
  exact hrow x q
 refine⟨fun u hu v hv=>(hall u hu).symm.trans (hall v hv),fun t ht=>?_⟩
 rcases List.mem_append.1 ht with q|q
 ·exact⟨(zh _ ks _).2 (Or.inl (hh.2 t q).1),(zh _ ks _).2 (Or.inl (hh.2 t q).2)⟩
 have:=De _ q
 exact⟨(zh _ ks _).2 (Or.inr this.1),(zh _ ks _).2 (Or.inr this.2)⟩
theorem I7 (a:Int):∀ (p:List Int) (z:Int) (q:List Int),ties (p++z::q)=ties (p++[z])++ties (z::q)
 |[],z,q=>by simp[ties]
 |[b],z,q=>by simp[ties]
 |b::c::p,z,q=>by
  have:=I7 a (c::p) z q
  simp only [List.cons_append,ties]at this⊢
  rw[this]
theorem K8 {n:Int}(h8:n<=8) {E T:List Tie}{ks row:List Int}{first:Bool}(hE:∀t∈E,inr n t) (hf:first=true->ks=[]) (h:zR n E T ks first row) (hh:hangs T ks) (hT:∀t∈T,t∈E) {a b:Int}{r:List Int}(e:row=a::b::r):
  ∃p,vv (cut E (oM a b)) b a p/\∀s∈ties (b::r),s∈ties p:=by
 obtain⟨a',m,z,rfl⟩:=Be h.len
 injection e with e1 e2
 subst e1
 have hmid:=h.mid;have hap:=h.apart;have hnew:=h.new;have htd:=h.tied;have hlast:=H6 h
 rw[CS]at hmid hap hlast
 rw[zb]at hap
 rw[zX]at hlast
 have hnd:(ties (a'::(m++[z]))).Nodup:=Er (n:=n) (E:=E) (taken:=T) (ks:=ks) (first:=first) h.len h.long h.mid (fun k=>(h.apart _ k).2 rfl) (fun k=>H6 h _ k rfl)
 have et:ties (a'::(m++[z]))=oM a' b::ties (b::r):=by rw[e2];rfl
 rw[et,List.nodup_cons]at hnd
 -- the way back
 obtain⟨q,q1,q2,q3,q4⟩:∃q,(∃q',q=z::q')/\q.getLast? =some a'/\(∀t∈ties q,t∈T)/\q.Nodup/\∀x∈q,x∉m:=by
  by_cases c:a'=z
  ·subst c
   exact⟨[a'],⟨[],rfl⟩,rfl,by simp[ties],by simp,fun x hx k=>by simp at hx;subst hx;exact(hap _ k).2 rfl⟩
  have hfa:first=false:=by
   cases first with
   |true=>have:=h.ring rfl;rw[zb,zX]at this;exact absurd this c
   |false=>rfl
  obtain⟨hk1,hk2⟩:=h.ends hfa
  rw[zb]at hk1
  rw[zX]at hk2
  have hz:=h.sN z (by simp)
  have hTi:∀t∈T,inr n t:=fun t ht=>hE t (hT t ht)
  obtain⟨p,_,_,_,hp⟩:=Lr h8 hTi hz (hh.1 z hk2 a' hk1)
  have hin:=NY hp hk2 hh.2
  cases p with
  |nil=>have:=hp.head;simp at this
  |cons y s=>
   have:y=z:=by have:=hp.head;simpa using this
   subst this
   exact⟨y::s,⟨s,rfl⟩,hp.last,hp.ties,hp.nodup,fun x hx k=>(hap x k).1 (hin x hx)⟩
 obtain⟨q',rfl⟩:=q1
 have hbr:b::r=m++[z]:=e2.symm
 have tp:ties (m++z::q')=ties (b::r)++ties (z::q'):=by rw[I7 0,←hbr]
 have hne:∀t∈T,t≠oM a' b:=fun t ht k=>hnew (oM a' b) (by rw[et];simp) (k▸ht)
 refine⟨m++z::q',{head:= ?_,last:= ?_,ties:=fun t ht=>?_,nodup:= ?_},fun s hs=>by rw[tp];exact List.mem_append_left _ hs⟩
 ·cases m with
  |nil=>simp at hbr;rw[hbr.1];rfl
  |cons y m=>simp at hbr;rw[hbr.1];rfl
 ·rw[List.getLast?_append]
  rw[q2];rfl
 ·rw[tp]at ht
  rcases List.mem_append.1 ht with k|k
  ·exact Ie.2 ⟨htd t (by rw[et];exact List.mem_cons_of_mem _ k),fun e=>hnd.1 (e▸k)⟩
  exact Ie.2 ⟨hT t (q3 t k),hne t (q3 t k)⟩
 rw[List.nodup_append]
 exact⟨hmid,q4.1,fun x hx y hy e=>q4.2 y hy (e▸hx)⟩
theorem G9 {n:Int}(h8:n<=8) {E:List Tie}(hE:∀t∈E,inr n t):∀ (rows:List (List Int)) (first:Bool) (T:List Tie) (ks:List Int),(first=true->ks=[])->hangs T ks->(∀t∈T,t∈E)->uB n E first T ks rows->
  ∀row∈rows,∀a b r,row=a::b::r->(∀t∈ties row,t∈E)/\∃p,vv (cut E (oM a b)) b a p/\∀s∈ties (b::r),s∈ties p
 |[],_,_,_,_,_,_,_,row,hr=>by simp at hr
 |x::rows,first,T,ks,hf,hh,hT,h,row,hr=>by
  intro a b r e
  rcases List.mem_cons.1 hr with rfl|q
  ·exact⟨h.1.tied,K8 h8 hE hf h.1 hh hT e⟩
  exact G9 h8 hE rows false _ _ (by simp) (Hq hf h.1 hh) (fun t ht=>by
   rcases List.mem_append.1 ht with k|k
   ·exact hT t k
   exact h.1.tied t k) h.2 row q a b r e
end Go.Proofs.Ytgeonpciodepgaa.G
namespace Go.Proofs.Ytgeonpciodepgaa.G
open Go.RowKit Go.Proofs.YtgeonpciodepgaaW.PrintWords
def OE (l:List Int) (g:Int->Int):Int:=(l.map g).sum
theorem OJ (a:Int) (l:List Int) (g:Int->Int):OE (a::l) g=g a+OE l g:=by simp[OE]
theorem O_ (l:List Int) (g h:Int->Int):OE l (fun u=>g u+h u)=OE l g+OE l h:=by
 induction l with
 |nil=>rfl
 |cons a l ih=>rw[OJ,OJ,OJ,ih];omega
theorem OP {l:List Int}{g h:Int->Int}(k:∀u∈l,g u<=h u):OE l g<=OE l h:=by
 induction l with
 |nil=>exact Int.le_refl _
 |cons a l ih=>
  rw[OJ,OJ]
  have a1:=k a List.mem_cons_self
  have a2:=ih (fun u hu=>k u (List.mem_cons_of_mem _ hu))
  omega
theorem OH {l:List Int}{g h:Int->Int}(k:∀u∈l,g u=h u):OE l g=OE l h:=
 Int.le_antisymm (OP fun u hu=>Int.le_of_eq (k u hu)) (OP fun u hu=>Int.le_of_eq (k u hu).symm)
theorem OQ (l:List Int):OE l (fun _=>0)=0:=by
 induction l with
 |nil=>rfl
 |cons a l ih=>rw[OJ,ih];rfl
theorem Pf {l:List Int}(hn:l.Nodup) {p:Int}(hp:p∈l) (c:Int):OE l (fun u=>if u=p then c else 0)=c:=by
 induction l with
 |nil=>simp at hp
 |cons a l ih=>
  rw[List.nodup_cons]at hn
  rw[OJ]
  by_cases e:a=p
  ·subst e
   rw[if_pos rfl,OH (h:=fun _=>0) (fun u hu=>if_neg (fun(q:u=a)=>hn.1 (q▸hu))),OQ];omega
  rw[if_neg e]
  have:=ih hn.2 ((List.mem_cons.1 hp).resolve_left (fun q=>e q.symm))
  omega
def OG (l:List Int) (g:Int->Int->Int):Int:=OE l fun u=>OE l (g u)
theorem OU (l:List Int) (g h:Int->Int->Int):OG l (fun u v=>g u v+h u v)=OG l g+OG l h:=by
 unfold OG
 rw[←O_]
 exact OH fun u _=>O_ l _ _
theorem OV {l:List Int}{g h:Int->Int->Int}(k:∀u∈l,∀v∈l,g u v<=h u v):OG l g<=OG l h:=OP fun u hu=>OP fun v hv=>k u hu v hv
theorem O0 {l:List Int}{g h:Int->Int->Int}(k:∀u∈l,∀v∈l,g u v=h u v):OG l g=OG l h:=OH fun u hu=>OH fun v hv=>k u hu v hv
theorem O1 (l:List Int):OG l (fun _ _=>0)=0:=by
 unfold OG
 rw[OH (h:=fun _=>0) (fun u _=>OQ l),OQ]
theorem OO {l:List Int}(hn:l.Nodup) {p q:Int}(hp:p∈l) (hq:q∈l) (c:Int):OG l (fun u v=>if u=p/\v=q then c else 0)=c:=by
 unfold OG
 refine(OH (h:=fun u=>if u=p then c else 0) (fun u _=>?_)).trans (Pf hn hp c)
 by_cases e:u=p
 ·rw[if_pos e]
  refine(OH (h:=fun v=>if v=q then c else 0) (fun v _=>?_)).trans (Pf hn hq c)
  show(if u=p/\v=q then c else 0)=if v=q then c else 0
  by_cases d:v=q
  ·rw[if_pos ⟨e,d⟩,if_pos d]
  rw[if_neg (fun k=>d k.2),if_neg d]
 rw[if_neg e,OH (h:=fun _=>0) (fun v _=>if_neg (fun k=>e k.1)),OQ]
def mM (x:List Int) (u v:Int):Int:=rd x (8*u+v)
def in8 (u:Int):Prop:=0<=u/\u<8
def cap (x:List Int) (n:Int) (S:Int->Bool):Int:=OG (sN n) fun u v=>if S u=true/\S v=false then mM x u v else 0
structure Mat (x:List Int):Prop where
 len:(x.length:Int)=64
 low:∀u v,in8 u->in8 v->0<=mM x u v
 two:∀u v,in8 u->in8 v->mM x u v+mM x v u<=2
def OI (x:List Int) (p q:Int):List Int:=(x.set (8*p+q).toNat (mM x p q - 1)).set (8*q+p).toNat (mM x q p+1)
theorem OM {x:List Int}(hl:(x.length:Int)=64) {p q u v:Int}(hp:in8 p) (hq:in8 q) (hpq:p≠q) (hu:in8 u) (hv:in8 v):
  mM (OI x p q) u v=mM x u v+((if u=p/\v=q then -1 else 0)+(if u=q/\v=p then 1 else 0)):=by
 unfold in8 at*
 have e1:mM (OI x p q) u v=if 8*q+p=8*u+v then mM x q p+1 else(if 8*p+q=8*u+v then mM x p q - 1 else mM x u v):=by
  unfold OI
  show rd _ (8*u+v)=_
  rw[Ab (by omega) (by rw[List.length_set];omega) (by omega),Ab (by omega) (by omega) (by omega)]
  rfl
 rw[e1]
 by_cases c:u=q/\v=p
 ·obtain⟨rfl,rfl⟩:=c
  have n1:¬ (u=v/\v=u):=fun k=>hpq k.2
  have y1:u=u/\v=v:=⟨rfl,rfl⟩
  rw[if_pos rfl,if_neg n1,if_pos y1]
  omega
 rw[if_neg (by omega),if_neg c]
 by_cases d:u=p/\v=q
 ·obtain⟨rfl,rfl⟩:=d
  rw[if_pos rfl,if_pos ⟨rfl,rfl⟩];omega
 rw[if_neg (by omega),if_neg d];omega
def ind (b:Bool):Int:=if b=true then 1 else 0
theorem Pk {x:List Int}(hl:(x.length:Int)=64) {n p q:Int}(h8:n<=8) (hp:p∈sN n) (hq:q∈sN n) (hpq:p≠q) (S:Int->Bool):
  cap (OI x p q) n S+ind (S p)=cap x n S+ind (S q):=by
 have k8:∀u∈sN n,in8 u:=fun u hu=>by have:=Ey.1 hu;unfold in8;omega
 have e:cap (OI x p q) n S=cap x n S+((if S p=true/\S q=false then -1 else 0)+(if S q=true/\S p=false then 1 else 0)):=by
  unfold cap
  rw[←OO (OL n) hp hq (if S p=true/\S q=false then(-1:Int) else 0),←OO (OL n) hq hp (if S q=true/\S p=false then(1:Int) else 0),←OU,←OU]
  refine O0 fun u hu v hv=>?_
  rw[OM hl (k8 p hp) (k8 q hq) hpq (k8 u hu) (k8 v hv)]
  by_cases c:u=p/\v=q
  ·obtain⟨rfl,rfl⟩:=c
   have n1:¬ (u=v/\v=u):=fun k=>hpq k.1
   have y1:u=u/\v=v:=⟨rfl,rfl⟩
   simp only [if_pos y1,if_neg n1]
   by_cases d:S u=true/\S v=false
   ·simp only [if_pos d]
   simp only [if_neg d];rfl
  by_cases d:u=q/\v=p
  ·obtain⟨rfl,rfl⟩:=d
   have y1:u=u/\v=v:=⟨rfl,rfl⟩
   simp only [if_neg c,if_pos y1]
   by_cases f:S u=true/\S v=false
   ·simp only [if_pos f]
   simp only [if_neg f];rfl
  simp only [if_neg c,if_neg d];simp
 rw[e]
 unfold ind
 cases S p<;>cases S q<;>simp<;>omega
theorem OW {x:List Int}{n:Int}(h8:n<=8) (hx:Mat x) (S:Int->Bool):0<=cap x n S:=by
 have:=OV (l:=sN n) (g:=fun _ _=>0) (h:=fun u v=>if S u=true/\S v=false then mM x u v else 0) (fun u hu v hv=>by
  have a:=Ey.1 hu
  have b:=Ey.1 hv
  split
  ·exact hx.low u v ⟨a.1,by omega⟩ ⟨b.1,by omega⟩
  exact Int.le_refl _)
 rw[O1]at this
 exact this
theorem OX {x:List Int}{n:Int}(h8:n<=8) (hx:Mat x) (S:Int->Bool) (h:∀u∈sN n,∀v∈sN n,S u=true->S v=false->mM x u v<=0):cap x n S=0:=by
 unfold cap
 rw[O0 (h:=fun _ _=>0) (fun u hu v hv=>?_),O1]
 have a:=Ey.1 hu
 have b:=Ey.1 hv
 split
 ·rename_i c
  have:=h u hu v hv c.1 c.2
  have:=hx.low u v ⟨a.1,by omega⟩ ⟨b.1,by omega⟩
  omega
 rfl
theorem Pb (l:List Int) (c:Int):OE l (fun _=>c)=(l.length:Int)*c:=by
 induction l with
 |nil=>simp[OE]
 |cons a l ih=>rw[OJ,ih,List.length_cons,Int.natCast_add,Int.add_mul];omega
theorem Pj {x:List Int}{n:Int}(h0:0<=n) (h8:n<=8) (hx:Mat x) (S:Int->Bool):cap x n S<=128:=by
 have:=OV (l:=sN n) (h:=fun _ _=>2) (g:=fun u v=>if S u=true/\S v=false then mM x u v else 0) (fun u hu v hv=>by
  have a:=Ey.1 hu
  have b:=Ey.1 hv
  have c:=hx.two u v ⟨a.1,by omega⟩ ⟨b.1,by omega⟩
  have d:=hx.low v u ⟨b.1,by omega⟩ ⟨a.1,by omega⟩
  show(if _ then _ else _)<=(2:Int)
  split<;>omega)
 have e:OG (sN n) (fun _ _=>(2:Int))=n*(n*2):=by
  unfold OG
  rw[OH (h:=fun _=>((sN n).length:Int)*2) (fun u _=>Pb _ _),Pb,yu,Int.toNat_of_nonneg h0]
 rw[e]at this
 have h1:n*2<=16:=by omega
 have h2:n*(n*2)<=n*16:=Int.mul_le_mul_of_nonneg_left h1 h0
 unfold cap
 omega
theorem OZ {F:List Tie}{a b:Int}(h:qK F a b) (S:Int->Bool) (ha:S a=true) (hb:S b=false):∃p q,oM p q∈F/\S p=true/\S q=false:=by
 refine Classical.byContradiction fun no=>?_
 have:=h.closed (fun u=>S u=true) ha (fun x y hx ht=>by
  cases e:S y with
  |true=>rfl
  |false=>exact absurd ⟨x,y,ht,hx,e⟩ no)
 rw[hb]at this
 cases this
theorem OY {F:List Tie}{x y:Int}(h:qK F x y):qK F (oM x y).f0 (oM x y).f1:=by
 unfold oM
 split
 ·exact h
 exact h.symm
theorem Pn {F:List Tie}{x y:Int}(h:qK F (oM x y).f0 (oM x y).f1):qK F x y:=by
 unfold oM at h
 split at h
 ·exact h
 exact h.symm
theorem Pm {n:Int}{E:List Tie}{x:List Int}(h8:n<=8) (hE:∀t∈E,inr n t) (hx:Mat x) (hm:∀u∈sN n,∀v∈sN n,oM u v∈E->mM x u v=1)
  (hb:∀t∈E,qK (cut E t) t.f0 t.f1) {a b:Int}(hc:qK E a b) (S:Int->Bool) (sa:S a=true) (sb:S b=false):2<=cap x n S:=by
 obtain⟨p,q,ht,hp,hq⟩:=OZ hc S sa sb
 obtain⟨p',q',ht',hp',hq'⟩:=OZ (Pn (hb _ ht)) S hp hq
 rw[Ie]at ht'
 obtain⟨r1,r2,_⟩:=vB (hE _ ht)
 obtain⟨r3,r4,_⟩:=vB (hE _ ht'.1)
 have kp:=Ey.2 r1
 have kq:=Ey.2 r2
 have kp':=Ey.2 r3
 have kq':=Ey.2 r4
 have hd:¬ (p=p'/\q=q'):=fun k=>ht'.2 (by rw[k.1,k.2])
 have:=OV (l:=sN n) (g:=fun u v=>(if u=p/\v=q then(1:Int) else 0)+(if u=p'/\v=q' then(1:Int) else 0)) (h:=fun u v=>if S u=true/\S v=false then mM x u v else 0) (fun u hu v hv=>by
  have a:=Ey.1 hu
  have b:=Ey.1 hv
  have low:=hx.low u v ⟨a.1,by omega⟩ ⟨b.1,by omega⟩
  show(if _ then _ else _)+(if _ then _ else _)<=(if _ then _ else _)
  by_cases c:u=p/\v=q
  ·rw[if_pos c,if_neg (fun k=>hd ⟨c.1.symm.trans k.1,c.2.symm.trans k.2⟩),if_pos ⟨by rw[c.1];exact hp,by rw[c.2];exact hq⟩,c.1,c.2,hm p kp q kq ht];omega
  rw[if_neg c]
  by_cases d:u=p'/\v=q'
  ·rw[if_pos d,if_pos ⟨by rw[d.1];exact hp',by rw[d.2];exact hq'⟩,d.1,d.2,hm p' kp' q' kq' ht'.1];omega
  rw[if_neg d]
  split<;>omega)
 rw[OU,OO (OL n) kp kq,OO (OL n) kp' kq']at this
 exact this
theorem Pg {s:Tie}:∀ (p:List Int),s∈ties p->∃p1 x y p2,p=p1++x::y::p2/\s=oM x y
 |[],h=>by simp[ties]at h
 |[_],h=>by simp[ties]at h
 |a::b::r,h=>by
  simp only [ties,List.mem_cons]at h
  rcases h with h|h
  ·exact⟨[],a,b,r,rfl,h⟩
  obtain⟨p1,x,y,p2,e,hs⟩:=Pg (b::r) h
  exact⟨a::p1,x,y,p2,by rw[e];rfl,hs⟩
theorem OT {F:List Tie}{b:Int}{r:List Int}(h:∀t∈ties (b::r),t∈F) {a:Int}(ha:(b::r).getLast? =some a):qK F b a:=En r b h a (List.mem_of_getLast? ha)
theorem Pw {E:List Tie}{a b:Int}{p:List Int}(h:vv (cut E (oM a b)) b a p) (ht:oM a b∈E) {s:Tie}(hs:s∈ties p):qK (cut E s) s.f0 s.f1:=by
 obtain⟨p1,x,y,p2,e,rfl⟩:=Pg p hs
 subst e
 have hn:=EO _ h.nodup
 rw[I5]at hn
 have hn1:=List.nodup_append.1 hn
 have hn2:=List.nodup_cons.1 hn1.2.1
 have hE:∀t∈ties (p1++x::y::p2),t∈E:=fun t k=>(Ie.1 (h.ties t k)).1
 rw[I5]at hE
 have f1:∀t∈ties (p1++[x]),t∈cut E (oM x y):=fun t k=>Ie.2 ⟨hE t (List.mem_append_left _ k),fun q=>hn1.2.2 t k _ List.mem_cons_self q⟩
 have f2:∀t∈ties (y::p2),t∈cut E (oM x y):=fun t k=>Ie.2 ⟨hE t (List.mem_append_right _ (List.mem_cons_of_mem _ k)),fun q=>hn2.1 (q▸k)⟩
 have f0:oM a b∈cut E (oM x y):=Ie.2 ⟨ht,fun q=>(Ie.1 (h.ties _ hs)).2 q.symm⟩
 have c1:qK (cut E (oM x y)) b x:=by
  have hh:=h.head
  cases p1 with
  |nil=>simp at hh;subst hh;exact .refl _
  |cons c p1=>
   simp at hh
   subst hh
   exact OT (a:=x) (r:=p1++[x]) f1 (by rw[←List.cons_append,List.getLast?_concat])
 have c2:qK (cut E (oM x y)) y a:=OT f2 (by
  have hl:=h.last
  rw[show p1++x::y::p2=(p1++[x])++y::p2 by simp,List.getLast?_append]at hl
  cases g:(y::p2).getLast? with
  |none=>simp at g
  |some z=>rw[g]at hl;exact hl)
 exact OY (c1.symm.trans ((qK.one f0).symm.trans c2.symm))
theorem O3 {n:Int}{E:List Tie}(h0:0<=n):∀ (rows:List (List Int)) (first:Bool) (T:List Tie) (ks:List Int),(first=true->ks=[])->hangs T ks->(∀t∈T,t∈E)->ks.Nodup->(∀v∈ks,0<=v/\v<n)->uB n E first T ks rows->∀u∈sN n,∀v∈sN n,qK E u v
 |[],first,T,ks,hf,hh,hT,hd,hr,h=>by
  have all:∀u∈sN n,u∈ks:=fun u hu=>by
   refine Classical.byContradiction fun q=>?_
   have:=AZ (l:=u::ks) (m:=sN n) (List.nodup_cons.2 ⟨q,hd⟩) (fun x hx=>by
    rcases List.mem_cons.1 hx with e|e
    ·rw[e];exact hu
    exact Ey.2 (hr x e))
   rw[yu]at this
   have:=h.2
   simp only [List.length_cons]at*
   omega
  exact fun u hu v hv=>(hh.1 u (all u hu) v (all v hv)).mono hT
 |row::rows,first,T,ks,hf,hh,hT,hd,hr,h=>by
  refine O3 h0 rows false _ _ (by simp) (Hq hf h.1 hh) (fun t ht=>?_) (Im row hd) (fun v hv=>?_) h.2
  ·rcases List.mem_append.1 ht with q|q
   ·exact hT t q
   exact h.1.tied t q
  rcases(zh row ks v).1 hv with q|q
  ·exact hr v q
  exact h.1.sN v q
theorem O4 {n:Int}{E:List Tie}(P:Tie->Prop):∀ (rows:List (List Int)) (first:Bool) (T:List Tie) (ks:List Int),(∀t∈T,t∈E/\P t)->T.Nodup->uB n E first T ks rows->(∀row∈rows,∀s∈ties row,P s)->∀t∈E,P t
 |[],first,T,ks,hT,hn,h,hp=>by
  intro t ht
  refine Classical.byContradiction fun q=>?_
  have hq:t∉T:=fun k=>q (hT t k).2
  have:=AZ (l:=t::T) (m:=E) (List.nodup_cons.2 ⟨hq,hn⟩) (fun x hx=>by
   rcases List.mem_cons.1 hx with e|e
   ·rw[e];exact ht
   exact(hT x e).1)
  have:=h.1
  simp only [List.length_cons]at*
  omega
 |row::rows,first,T,ks,hT,hn,h,hp=>by
  refine O4 P rows false _ _ (fun t ht=>?_) ?_ h.2 (fun r hr=>hp r (List.mem_cons_of_mem _ hr))
  ·rcases List.mem_append.1 ht with q|q
   ·exact hT t q
   exact⟨h.1.tied t q,hp row List.mem_cons_self t q⟩
  rw[List.nodup_append]
  refine⟨hn,Er (n:=n) (E:=E) (taken:=T) (ks:=ks) (first:=first) h.1.len h.1.long h.1.mid (fun k=>(h.1.apart _ k).2 rfl) (fun k=>H6 h.1 _ k rfl),fun x hx y hy e=>?_⟩
  subst e
  exact h.1.new x hy hx
theorem Po {n:Int}{E:List Tie}(h8:n<=8) (hE:∀t∈E,inr n t) {rows:List (List Int)}(h:uB n E true [] [] rows):∀t∈E,qK (cut E t) t.f0 t.f1:=by
 refine O4 _ rows true [] [] (by simp) (by simp) h (fun row hrow s hs=>?_)
 have hl:2<=row.length:=by
  refine Classical.byContradiction fun q=>?_
  match row,hs with
  |[],hs=>simp[ties]at hs
  |[_],hs=>simp[ties]at hs
  |_::_::_,_=>simp at q
 obtain⟨a,b,r0,rfl⟩:∃a b r0,row=a::b::r0:=by
  match row,hl with
  |a::b::r0,_=>exact⟨a,b,r0,rfl⟩
 obtain⟨k1,p,k2,k3⟩:=G9 h8 hE rows true [] [] (fun _=>rfl) ⟨by simp,by simp⟩ (by simp) h _ hrow a b r0 rfl
 have hab:=k1 (oM a b) (by simp[ties])
 simp only [ties,List.mem_cons]at hs
 rcases hs with rfl|hs
 ·refine OY ?_
  have hh:=k2.head
  cases p with
  |nil=>simp at hh
  |cons c p=>
   simp at hh
   subst hh
   exact(OT k2.ties k2.last).symm
 exact Pw k2 hab (k3 s hs)
end Go.Proofs.Ytgeonpciodepgaa.G
namespace Go.Proofs.Ytgeonpciodepgaa.P
open Go.RowKit Go.Proofs.YtgeonpciodepgaaW.PrintWords Go.Proofs.Ytgeonpciodepgaa.G Go.Proofs.YtgeonpciodepgaaW.PrintWords.Kd
def Tab (x:List Int) (P:List Tie):Prop:=(x.length:Int)=64/\∀u v,in8 u->in8 v->mM x u v=if oM u v∈P then 1 else 0
theorem Py {t:Tie}(h:t.f0<t.f1) (u v:Int):oM u v=t↔u=t.f0/\v=t.f1\/u=t.f1/\v=t.f0:=by
 obtain⟨p,q⟩:=t
 simp only at*
 unfold oM
 constructor
 ·intro k
  split at k<;>simp only [Tie.mk.injEq]at k<;>omega
 intro k
 split<;>simp only [Tie.mk.injEq]<;>omega
theorem Pq (n a b:Int) (E:List S59) (hE:ok n E):∀ (suf p:List S59) (x:List Int),p++suf=E->Tab x p->
  ∃x',Tab x' E/\∀r,Ev (fun k=>pK.l1 k a b x' 0 n E) r->Ev (fun k=>pK.l0 k a b x (p++suf) ((p++suf).length:Int) (p.length:Int) n E) r:=by
 have hl:=uX hE
 intro suf
 induction suf with
 |nil=>
  intro p x e hx
  rw[List.append_nil]at e
  subst e
  exact⟨x,hx,fun r h=>Ev.step (fun k=>by simp only [pK.l0,uj,if_false]<;>exact rfl) h⟩
 |cons t suf ih=>
  intro p x e hx
  have ht:t∈E:=by rw[←e];simp
  have hr:=hE.2.2.1 t ht
  have h8:=hE.2.1
  unfold inr at hr
  have hp:(p.length:Int)<big:=ui (suf:=suf) (t:=t) (by rw[e];unfold big;omega)
  have c0:0<=t.f0/\t.f0<8:=by omega
  have c1:0<=t.f1/\t.f1<8:=by omega
  obtain⟨x',h1,h2⟩:=ih (p++[t]) ((x.set (8*t.f0+t.f1).toNat 1).set (8*t.f1+t.f0).toNat 1) (by rw[←e];simp) (by
   refine⟨by rw[List.length_set,List.length_set];exact hx.1,fun u v hu hv=>?_⟩
   have hxl:=hx.1
   unfold in8 at hu hv
   show rd _ (8*u+v)=_
   rw[Ab (by omega) (by rw[List.length_set];omega) (by omega),Ab (by omega) (by omega) (by omega)]
   have hi:=Py hr.2.1 u v
   have hm:oM u v∈p++[t]↔oM u v∈p\/oM u v=t:=by simp
   by_cases k:oM u v=t
   ·rw[if_pos (hm.2 (Or.inr k))]
    rcases hi.1 k with q|q
    ·rw[if_neg (by omega),if_pos (by omega)]
    rw[if_pos (by omega)]
   have k2:¬ (u=t.f0/\v=t.f1\/u=t.f1/\v=t.f0):=fun q=>k (hi.2 q)
   rw[if_neg (by omega),if_neg (by omega)]
   have:=hx.2 u v hu hv
   unfold mM at this
   rw[this]
   by_cases g:oM u v∈p
   ·rw[if_pos g,if_pos (hm.2 (Or.inl g))]
   rw[if_neg g,if_neg (fun q=>(hm.1 q).elim g k)])
  refine⟨x',h1,fun r h=>?_⟩
  refine Ev.step (fun k=>by simp only [pK.l0,qV,nn,if_true,Bc,if_pos c0,if_pos c1,rC (t:=t) hp]<;>exact rfl) ?_
  have:=h2 r h
  rw[←ry]at this
  exact this
theorem O6 (n a b many:Int) (E:List S59) (x:List Int) (ha:in8 a):∀ (d:Nat) (i:Int) (fr:List Int),0<=i->i+d=8->(fr.length:Int)=8->(∀j,0<=j->j<i->rd fr j= -1)->
  ∃fr',(fr'.length:Int)=8/\(∀j,0<=j->j<8->rd fr' j=if a=j then a else -1)/\∀r,Ev (fun k=>pK.l3 k a b x many fr' [a] 0 n E) r->Ev (fun k=>pK.l2 k a b x many fr i n E) r:=by
 unfold in8 at ha
 intro d
 induction d with
 |zero=>
  intro i fr h0 hi hl hj
  have c:¬i<8:=by omega
  have ca:a<(fr.length:Int):=by omega
  refine⟨fr.set a.toNat a,by rw[List.length_set];exact hl,fun j j0 j8=>?_,fun r h=>Ev.step (fun k=>by simp only [pK.l2,if_neg c,if_pos ha.1,if_pos ca]<;>exact rfl) h⟩
  rw[Ab ha.1 (by omega) j0]
  by_cases q:a=j
  ·rw[if_pos q,if_pos q]
  rw[if_neg q,if_neg q];exact hj j j0 (by omega)
 |succ d ih=>
  intro i fr h0 hi hl hj
  have c:i<8:=by omega
  have cl:i<(fr.length:Int):=by omega
  have w:wrap64 (i+1)=i+1:=w64 (by omega) (by omega)
  obtain⟨fr',h1,h2,h3⟩:=ih (i+1) (fr.set i.toNat (-1)) (by omega) (by omega) (by rw[List.length_set];exact hl) (fun j j0 j1=>by
   rw[Ab h0 cl j0]
   by_cases q:i=j
   ·rw[if_pos q]
   rw[if_neg q];exact hj j j0 (by omega))
  exact⟨fr',h1,h2,fun r h=>Ev.step (fun k=>by simp only [pK.l2,if_pos c,if_pos h0,if_pos cl,w]<;>exact rfl) (h3 r h)⟩
structure Bfs (n a:Int) (x fr q:List Int):Prop where
 len:(fr.length:Int)=8
 hd:a∈q
 nodup:q.Nodup
 inn:∀v∈q,0<=v/\v<n
 out:∀v,0<=v->v<n->v∉q->rd fr v<0
 inq:∀v∈q,0<=rd fr v
 par:∀p v s,q=p++v::s->v≠a->rd fr v∈p/\0<mM x (rd fr v) v
theorem Bfs.more {n a:Int}{x fr q:List Int}(h:Bfs n a x fr q) (h8:n<=8) {u v:Int}(hu:u∈q) (hv:0<=v/\v<n) (hn:v∉q) (hm:0<mM x u v):Bfs n a x (fr.set v.toNat u) (q++[v]) where
 len:=by rw[List.length_set];exact h.len
 hd:=List.mem_append_left _ h.hd
 nodup:=by
  rw[List.nodup_append]
  exact⟨h.nodup,by simp,fun y hy z hz e=>by rw[List.mem_singleton]at hz;subst hz;subst e;exact hn hy⟩
 inn:=fun y hy=>by
  rcases List.mem_append.1 hy with k|k
  ·exact h.inn y k
  rw[List.mem_singleton]at k;subst k;exact hv
 out:=fun y y0 y1 k=>by
  have hl:=h.len
  rw[Ab hv.1 (by omega) y0,if_neg (fun e=>k (by simp[e]))]
  exact h.out y y0 y1 (fun g=>k (by simp[g]))
 inq:=fun y hy=>by
  have hl:=h.len
  rcases List.mem_append.1 hy with k|k
  ·have:=h.inn y k
   rw[Ab hv.1 (by omega) this.1,if_neg (fun(e:v=y)=>hn (e▸k))]
   exact h.inq y k
  rw[List.mem_singleton]at k
  subst k
  rw[Ab hv.1 (by omega) hv.1,if_pos rfl]
  exact(h.inn u hu).1
 par:=fun p w s e hw=>by
  have hl:=h.len
  rcases List.eq_nil_or_concat s with rfl|⟨s',z,rfl⟩
  ·have e2:q++[v]=p++[w]:=e
   obtain⟨rfl,k⟩:=List.append_inj' e2 rfl
   simp at k
   subst k
   rw[Ab hv.1 (by omega) hv.1,if_pos rfl]
   exact⟨hu,hm⟩
  have e2:q++[v]=(p++w::s')++[z]:=by rw[e];simp
  obtain⟨rfl,k⟩:=List.append_inj' e2 rfl
  have hwq:w∈p++w::s':=by simp
  have:=h.inn w hwq
  rw[Ab hv.1 (by omega) this.1,if_neg (fun(e:v=w)=>hn (e▸hwq))]
  exact h.par p w s' rfl hw
theorem Pt (n a b many:Int) (E:List S59) (x:List Int) (h8:n<=8) (u:Int) (p:List Int):∀ (d:Nat) (i:Int) (fr s:List Int),0<=i->i+d=n->Bfs n a x fr (p++u::s)->
  (∀v,0<=v->v<i->v∈p++u::s\/mM x u v<=0)->
  ∃fr' s',Bfs n a x fr' (p++u::s')/\(∀w∈p++u::s,w∈p++u::s')/\(∀v,0<=v->v<n->v∈p++u::s'\/mM x u v<=0)/\
   ∀r,Ev (fun k=>pK.l3 k a b x many fr' (p++u::s') (((p++[u]).length:Int)) n E) r->Ev (fun k=>pK.l4 k a b x many fr (p++u::s) (p.length:Int) n i n E) r:=by
 intro d
 induction d with
 |zero=>
  intro i fr s h0 hi hB hc
  have c:¬i<n:=by omega
  have hlen:=AZ (m:=sN n) hB.nodup (fun v hv=>Ey.2 (hB.inn v hv))
  rw[yu,List.length_append]at hlen
  have hp:(p.length:Int)<big:=by unfold big;omega
  refine⟨fr,s,hB,fun w hw=>hw,fun v v0 v1=>hc v v0 (by omega),fun r h=>Ev.step (fun k=>by simp only [pK.l4,if_neg c,rC (t:=u) hp]<;>exact rfl) h⟩
 |succ d ih=>
  intro i fr s h0 hi hB hc
  have c:i<n:=by omega
  have hl:=hB.len
  have cl:i<(fr.length:Int):=by omega
  have w:wrap64 (i+1)=i+1:=w64 (by omega) (by omega)
  have hlen:=AZ (m:=sN n) hB.nodup (fun v hv=>Ey.2 (hB.inn v hv))
  rw[yu]at hlen
  have hu:=hB.inn u (by simp)
  have ru:rd (p++u::s) (p.length:Int)=u:=sO p u s
  by_cases e:rd fr i<0;rotate_left
  ·have hiq:i∈p++u::s:=Classical.byContradiction fun k=>e (hB.out i h0 c k)
   obtain⟨fr',s',a1,a2,a3,a4⟩:=ih (i+1) fr s (by omega) (by omega) hB (fun v v0 v1=>by
    by_cases q:v=i
    ·subst q;exact Or.inl hiq
    exact hc v v0 (by omega))
   exact⟨fr',s',a1,a2,a3,fun r h=>Ev.step (fun k=>by simp only [pK.l4,if_pos c,if_pos h0,if_pos cl,if_neg e,w]<;>exact rfl) (a4 r h)⟩
  have hiq:i∉p++u::s:=fun k=>by have:=hB.inq i k;omega
  have cu:0<=u/\u<8:=by omega
  have ci:0<=i/\i<8:=by omega
  have l17:(p++u::s).length<17592186044416:=by omega
  by_cases g:mM x u i>0;rotate_left
  ·have gr:¬rd x (8*u+i)>0:=g
   obtain⟨fr',s',a1,a2,a3,a4⟩:=ih (i+1) fr s (by omega) (by omega) hB (fun v v0 v1=>by
    by_cases q:v=i
    ·subst q;exact Or.inr (by omega)
    exact hc v v0 (by omega))
   exact⟨fr',s',a1,a2,a3,fun r h=>Ev.step (fun k=>by simp only [pK.l4,if_pos c,if_pos h0,if_pos cl,if_pos e,nn,if_true,qV,ru,if_pos cu,if_pos ci,if_neg gr,w]<;>exact rfl) (a4 r h)⟩
  have gr:rd x (8*u+i)>0:=g
  obtain⟨fr',s',a1,a2,a3,a4⟩:=ih (i+1) (fr.set i.toNat u) (s++[i]) (by omega) (by omega) (by
   have:=hB.more h8 (u:=u) (v:=i) (by simp) ⟨h0,c⟩ hiq g
   rw[List.append_assoc,List.cons_append]at this
   exact this) (fun v v0 v1=>by
    by_cases q:v=i
    ·exact Or.inl (by simp[q])
    refine(hc v v0 (by omega)).imp (fun k=>?_) id
    simp only [List.mem_append,List.mem_cons]at k⊢
    rcases k with k|k|k
    ·exact Or.inl k
    ·exact Or.inr (Or.inl k)
    exact Or.inr (Or.inr (Or.inl k)))
  refine⟨fr',s',a1,fun y hy=>a2 y ?_,a3,fun r h=>?_⟩
  ·simp only [List.mem_append,List.mem_cons]at hy⊢
   rcases hy with k|k|k
   ·exact Or.inl k
   ·exact Or.inr (Or.inl k)
   exact Or.inr (Or.inr (Or.inl k))
  refine Ev.step (fun k=>by simp only [pK.l4,if_pos c,if_pos h0,if_pos cl,if_pos e,nn,if_true,qV,ru,if_pos cu,if_pos ci,if_pos gr,if_pos l17,w]<;>exact rfl) ?_
  have:=a4 r h
  rw[show p++u::s++[i]=p++u::(s++[i]) by simp]
  exact this
theorem O7 (n a b many:Int) (E:List S59) (x:List Int) (h0:0<=n) (h8:n<=8):∀ (d:Nat) (p s fr:List Int),p.length+d=n.toNat->Bfs n a x fr (p++s)->
  (∀w∈p,∀v,0<=v->v<n->v∈p++s\/mM x w v<=0)->
  ∃fr' q',Bfs n a x fr' q'/\(∀w∈q',∀v,0<=v->v<n->v∈q'\/mM x w v<=0)/\
   ∀r,Ev (fun k=>if 0<=b then(if b<(fr'.length:Int) then(if rd fr' b<0 then some many else pK.l5 k a b x many fr' b n E) else none) else none) r->Ev (fun k=>pK.l3 k a b x many fr (p++s) (p.length:Int) n E) r:=by
 intro d
 induction d with
 |zero=>
  intro p s fr hd hB hc
  have hlen:=AZ (m:=sN n) hB.nodup (fun v hv=>Ey.2 (hB.inn v hv))
  rw[yu,List.length_append]at hlen
  have:s=[]:=List.eq_nil_of_length_eq_zero (by omega)
  subst this
  rw[List.append_nil]at*
  have c:¬ (p.length:Int)<(p.length:Int):=by omega
  exact⟨fr,p,hB,hc,fun r h=>Ev.step (fun k=>by simp only [pK.l3,if_neg c]<;>exact rfl) h⟩
 |succ d ih=>
  intro p s fr hd hB hc
  cases s with
  |nil=>
   rw[List.append_nil]at*
   have c:¬ (p.length:Int)<(p.length:Int):=by omega
   exact⟨fr,p,hB,hc,fun r h=>Ev.step (fun k=>by simp only [pK.l3,if_neg c]<;>exact rfl) h⟩
  |cons u s=>
   obtain⟨fr1,s1,a1,a2,a3,a4⟩:=Pt n a b many E x h8 u p n.toNat 0 fr s (Int.le_refl 0) (by omega) hB (fun v v0 v1=>by omega)
   have e1:p++u::s1=(p++[u])++s1:=by simp
   obtain⟨fr',q',b1,b2,b3⟩:=ih (p++[u]) s1 fr1 (by simp;omega) (by rw[←e1];exact a1) (fun w hw v v0 v1=>by
    rw[←e1]
    rcases List.mem_append.1 hw with k|k
    ·exact(hc w k v v0 v1).imp (a2 v) id
    rw[List.mem_singleton]at k;subst k;exact a3 v v0 v1)
   refine⟨fr',q',b1,b2,fun r h=>?_⟩
   refine Ev.step (fun k=>by simp only [pK.l3,qV,if_true]<;>exact rfl) (a4 r ?_)
   have:=b3 r h
   rw[←e1]at this
   exact this
theorem O8 (n a b many:Int) (E:List S59) (h8:n<=8) {x fr q:List Int}(hB:Bfs n a x fr q):∀ (m:Nat) (p:List Int) (v:Int) (s x':List Int),p.length=m->q=p++v::s->Mat x'->(∀w∈p++[v],w≠a->0<mM x' (rd fr w) w)->
  ∃xf,Mat xf/\(∀S:Int->Bool,cap xf n S+ind (S a)=cap x' n S+ind (S v))/\∀r,Ev (fun k=>pK.l1 k a b xf (wrap64 (many+1)) n E) r->Ev (fun k=>pK.l5 k a b x' many fr v n E) r:=by
 intro m
 induction m using Nat.strongRecOn with
 |ind m ih=>
  intro p v s x' hm hq hx hpos
  by_cases e:v=a
  ·subst e
   exact⟨x',hx,fun S=>rfl,fun r h=>Ev.step (fun k=>by simp only [pK.l5,if_true]<;>exact rfl) h⟩
  obtain⟨hup,_⟩:=hB.par p v s hq e
  have hvq:v∈q:=by rw[hq];simp
  have huq:rd fr v∈q:=by rw[hq];exact List.mem_append_left _ hup
  have hv:=hB.inn v hvq
  have hu:=hB.inn _ huq
  have hnd:=hB.nodup
  rw[hq,List.nodup_append,List.nodup_cons]at hnd
  have hvp:v∉p:=fun k=>hnd.2.2 v k v (by simp) rfl
  generalize hue:rd fr v=u at*
  have huv:u≠v:=fun k=>hvp (k▸hup)
  have c1:0<=u/\u<8:=by omega
  have c2:0<=v/\v<8:=by omega
  have hl:=hB.len
  have cl:v<(fr.length:Int):=by omega
  have p1:=hpos v (by simp) e
  rw[hue]at p1
  have t1:=hx.two u v c1 c2
  have l1:=hx.low v u c2 c1
  have hxl:=hx.len
  have w1:wrap64 (rd x' (8*u+v) - 1)=mM x' u v - 1:=by
   show wrap64 (mM x' u v - 1)=_
   exact w64 (by omega) (by omega)
  have r2:rd (x'.set (8*u+v).toNat (mM x' u v - 1)) (8*v+u)=mM x' v u:=by
   rw[Ab (by omega) (by omega) (by omega),if_neg (by omega)];rfl
  have w2:wrap64 (mM x' v u+1)=mM x' v u+1:=w64 (by omega) (by omega)
  obtain⟨pa,pb,hpp⟩:=List.append_of_mem hup
  have hM:Mat (OI x' u v):=by
   refine⟨by unfold OI;rw[List.length_set,List.length_set];exact hx.len,fun y z hy hz=>?_,fun y z hy hz=>?_⟩
   ·rw[OM hx.len c1 c2 huv hy hz]
    have:=hx.low y z hy hz
    by_cases k:y=u/\z=v
    ·rw[if_pos k,if_neg (by omega),k.1,k.2];omega
    rw[if_neg k];split<;>omega
   rw[OM hx.len c1 c2 huv hy hz,OM hx.len c1 c2 huv hz hy]
   have:=hx.two y z hy hz
   split<;>split<;>split<;>split<;>omega
  obtain⟨xf,f1,f2,f3⟩:=ih pa.length (by rw[←hm,hpp];simp) pa u (pb++v::s) (OI x' u v) rfl (by rw[hq,hpp];simp) hM (fun w hw hwa=>by
   have hwp:w∈p:=by
    rw[hpp]
    rcases List.mem_append.1 hw with k|k
    ·exact List.mem_append_left _ k
    rw[List.mem_singleton]at k;subst k;simp
   have hwq:w∈q:=by rw[hq];exact List.mem_append_left _ hwp
   have hwi:=hB.inn w hwq
   obtain⟨wa,wb,hw2⟩:=List.append_of_mem hwq
   have hwu:=hB.inn _ (by rw[hw2];exact List.mem_append_left _ (hB.par wa w wb hw2 hwa).1)
   have hwv:w≠v:=fun k=>hvp (k▸hwp)
   rw[OM hx.len c1 c2 huv ⟨hwu.1,by omega⟩ ⟨hwi.1,by omega⟩,if_neg (fun k=>hwv k.2)]
   have:=hpos w (List.mem_append_left _ hwp) hwa
   split<;>omega)
  refine⟨xf,f1,fun S=>?_,fun r h=>?_⟩
  ·rw[f2 S]
   exact Pk hx.len h8 (Ey.2 hu) (Ey.2 hv) huv S
  refine Ev.step (fun k=>by simp only [pK.l5,if_neg e,if_pos hv.1,if_pos cl,hue,if_pos c1,if_pos c2,w1,Option.bind_some,r2,w2]<;>exact rfl) ?_
  exact f3 r h
theorem Ps (n a b:Int) (E:List S59) (h0:0<=n) (h8:n<=8) (ha:0<=a/\a<n) (hb:0<=b/\b<n) (hab:a≠b):∀ (m:Nat) (x:List Int) (many:Int),Mat x->cap x n (fun v=>decide (v=a))=(m:Int)->0<=many->many+m<=200->
  (∀S:Int->Bool,S a=true->S b=false->2<=cap x n S+many)->∃r,Ev (fun k=>pK.l1 k a b x many n E) r/\2<=r:=by
 intro m
 induction m with
 |zero=>
  intro x many hx hc hm hl hS
  obtain⟨fr0,f1,f2,f3⟩:=O6 n a b many E x ⟨ha.1,by omega⟩ 8 0 (List.replicate 8 0) (Int.le_refl 0) rfl (by simp) (fun j j0 j1=>by omega)
  have hB:Bfs n a x fr0 [a]:={
   len:=f1
   hd:=by simp
   nodup:=by simp
   inn:=fun v hv=>by rw[List.mem_singleton]at hv;subst hv;exact ha
   out:=fun v v0 v1 hv=>by rw[f2 v v0 (by omega),if_neg (fun k=>hv (by simp[k]))];omega
   inq:=fun v hv=>by rw[List.mem_singleton]at hv;subst hv;rw[f2 v ha.1 (by omega),if_pos rfl];exact ha.1
   par:=fun p v s e hv=>by
    cases p with
    |nil=>simp at e;exact absurd e.1.symm hv
    |cons y p=>simp at e}
  obtain⟨fr,q,b1,b2,b3⟩:=O7 n a b many E x h0 h8 n.toNat [] [a] fr0 (by simp) hB (by simp)
  have cb:b<(fr.length:Int):=by rw[b1.len];omega
  by_cases g:rd fr b<0
  ·refine⟨many,Ev.step (fun k=>by simp only [pK.l1,if_pos (show(8:Nat)<=35184372088832 by decide)]<;>exact rfl) (f3 _ (b3 _ ?_)),?_⟩
   ·simp only [if_pos hb.1,if_pos cb,if_pos g]
    exact Ev.val rfl
   have hbq:b∉q:=fun k=>by have:=b1.inq b k;omega
   have:=hS (fun v=>decide (v∈q)) (decide_eq_true b1.hd) (decide_eq_false hbq)
   rw[OX h8 hx _ (fun u hu v hv s_u s_v=>((b2 u (of_decide_eq_true s_u) v (Ey.1 hv).1 (Ey.1 hv).2).resolve_left (of_decide_eq_false s_v)))]at this
   omega
  have hbq:b∈q:=Classical.byContradiction fun k=>g (b1.out b hb.1 hb.2 k)
  obtain⟨p,s,hq⟩:=List.append_of_mem hbq
  obtain⟨xf,x1,x2,x3⟩:=O8 n a b many E h8 b1 p.length p b s x rfl hq hx (fun w hw hwa=>by
   have hwq:w∈q:=by
    rw[hq]
    rcases List.mem_append.1 hw with k|k
    ·exact List.mem_append_left _ k
    rw[List.mem_singleton]at k;subst k;simp
   obtain⟨wa,wb,hw2⟩:=List.append_of_mem hwq
   exact(b1.par wa w wb hw2 hwa).2)
  have:=x2 (fun v=>decide (v=a))
  have lw:=OW h8 x1 (fun v=>decide (v=a))
  unfold ind at this
  simp[Ne.symm hab]at this
  omega
 |succ m ih=>
  intro x many hx hc hm hl hS
  obtain⟨fr0,f1,f2,f3⟩:=O6 n a b many E x ⟨ha.1,by omega⟩ 8 0 (List.replicate 8 0) (Int.le_refl 0) rfl (by simp) (fun j j0 j1=>by omega)
  have hB:Bfs n a x fr0 [a]:={
   len:=f1
   hd:=by simp
   nodup:=by simp
   inn:=fun v hv=>by rw[List.mem_singleton]at hv;subst hv;exact ha
   out:=fun v v0 v1 hv=>by rw[f2 v v0 (by omega),if_neg (fun k=>hv (by simp[k]))];omega
   inq:=fun v hv=>by rw[List.mem_singleton]at hv;subst hv;rw[f2 v ha.1 (by omega),if_pos rfl];exact ha.1
   par:=fun p v s e hv=>by
    cases p with
    |nil=>simp at e;exact absurd e.1.symm hv
    |cons y p=>simp at e}
  obtain⟨fr,q,b1,b2,b3⟩:=O7 n a b many E x h0 h8 n.toNat [] [a] fr0 (by simp) hB (by simp)
  have cb:b<(fr.length:Int):=by rw[b1.len];omega
  by_cases g:rd fr b<0
  ·refine⟨many,Ev.step (fun k=>by simp only [pK.l1,if_pos (show(8:Nat)<=35184372088832 by decide)]<;>exact rfl) (f3 _ (b3 _ ?_)),?_⟩
   ·simp only [if_pos hb.1,if_pos cb,if_pos g]
    exact Ev.val rfl
   have hbq:b∉q:=fun k=>by have:=b1.inq b k;omega
   have:=hS (fun v=>decide (v∈q)) (decide_eq_true b1.hd) (decide_eq_false hbq)
   rw[OX h8 hx _ (fun u hu v hv s_u s_v=>((b2 u (of_decide_eq_true s_u) v (Ey.1 hv).1 (Ey.1 hv).2).resolve_left (of_decide_eq_false s_v)))]at this
   omega
  have hbq:b∈q:=Classical.byContradiction fun k=>g (b1.out b hb.1 hb.2 k)
  obtain⟨p,s,hq⟩:=List.append_of_mem hbq
  obtain⟨xf,x1,x2,x3⟩:=O8 n a b many E h8 b1 p.length p b s x rfl hq hx (fun w hw hwa=>by
   have hwq:w∈q:=by
    rw[hq]
    rcases List.mem_append.1 hw with k|k
    ·exact List.mem_append_left _ k
    rw[List.mem_singleton]at k;subst k;simp
   obtain⟨wa,wb,hw2⟩:=List.append_of_mem hwq
   exact(b1.par wa w wb hw2 hwa).2)
  have e1:=x2 (fun v=>decide (v=a))
  unfold ind at e1
  simp[Ne.symm hab]at e1
  have w_m:wrap64 (many+1)=many+1:=w64 (by omega) (by omega)
  obtain⟨r,r1,r2⟩:=ih xf (many+1) x1 (by omega) (by omega) (by omega) (fun S sa sb=>by
   have k:=x2 S
   have:=hS S sa sb
   rw[sa,sb]at k
   unfold ind at k
   simp at k
   omega)
  refine⟨r,Ev.step (fun k=>by simp only [pK.l1,if_pos (show(8:Nat)<=35184372088832 by decide)]<;>exact rfl) (f3 _ (b3 _ ?_)),r2⟩
  simp only [if_pos hb.1,if_pos cb,if_neg g]
  refine x3 r ?_
  rw[w_m]
  exact r1
theorem O5 (n a b:Int) (E:List S59) (hE:ok n E) (ha:0<=a/\a<n) (hb:0<=b/\b<n) (hab:a≠b) (hc:qK E a b) (hn:∀t∈E,qK (cut E t) t.f0 t.f1):∃r,Ev (fun k=>pK.f k n E a b) r/\2<=r:=by
 obtain⟨x,h1,h2⟩:=Pq n a b E hE E [] (List.replicate 64 0) rfl ⟨by simp,fun u v hu hv=>by
  unfold in8 at hu hv
  show rd _ _=_
  unfold rd
  rw[List.getD_eq_getElem?_getD,List.getElem?_replicate,if_pos (by omega)]
  simp⟩
 have h8:=hE.2.1
 have hM:Mat x:=⟨h1.1,fun u v hu hv=>by rw[h1.2 u v hu hv];split<;>omega,fun u v hu hv=>by rw[h1.2 u v hu hv,h1.2 v u hv hu];split<;>split<;>omega⟩
 have lw:=OW h8 hM (fun v=>decide (v=a))
 have hg:=Pj hE.1 h8 hM (fun v=>decide (v=a))
 obtain⟨r,r1,r2⟩:=Ps n a b E hE.1 h8 ha hb hab (cap x n (fun v=>decide (v=a))).toNat x 0 hM (by omega) (Int.le_refl 0) (by omega) (fun S sa sb=>by
  have:=Pm h8 hE.2.2.1 hM (fun u hu v hv ht=>by
   have a1:=Ey.1 hu
   have a2:=Ey.1 hv
   rw[h1.2 u v ⟨a1.1,by omega⟩ ⟨a2.1,by omega⟩,if_pos ht]) hn hc S sa sb
  omega)
 refine⟨r,?_,r2⟩
 unfold pK.f
 simp only [if_pos (show(64:Nat)<=35184372088832 by decide)]
 exact h2 r r1
end Go.Proofs.Ytgeonpciodepgaa.P
namespace Go.Proofs.Ytgeonpciodepgaa.G
open Go.RowKit Go.Proofs.YtgeonpciodepgaaW.PrintWords
def roots (n:Int) (f:List Int):List Int:=(sN n).filter fun v=>decide (rd f v=v)
theorem Mr {n v:Int}{f:List Int}:v∈roots n f↔(0<=v/\v<n)/\rd f v=v:=by
 unfold roots
 rw[List.mem_filter,Ey,decide_eq_true_eq]
theorem Px (n:Int) (f:List Int):(roots n f).Nodup:=(OL n).sublist List.filter_sublist
theorem Nz {n:Int}{E:List Tie}{f:List Int}(h:Parts n E f) (h1:1<=n):1<=(roots n f).length:=by
 have:=h.low 0 (by omega) (by omega)
 exact List.length_pos_of_mem (Mr.2 ⟨⟨by omega,by omega⟩,by omega⟩:(0:Int)∈roots n f)
end Go.Proofs.Ytgeonpciodepgaa.G
namespace Go.Proofs.Ytgeonpciodepgaa.P
open Go.RowKit Go.Proofs.YtgeonpciodepgaaW.PrintWords Go.Proofs.Ytgeonpciodepgaa.G Go.Proofs.YtgeonpciodepgaaW.PrintWords.Kd
theorem Ny (i:Int) (f:List Int):(roots i f).length<=i.toNat:=by
 rw[←yu i];exact List.length_filter_le _ _
theorem NA {i:Int}(h0:0<=i) (f:List Int):roots (i+1) f=roots i f++if rd f i=i then[i] else[]:=by
 unfold roots
 rw[Et h0,List.filter_append]
 congr 1
 by_cases c:rd f i=i
 ·rw[if_pos c,List.filter_cons,if_pos (decide_eq_true c)];rfl
 rw[if_neg c,List.filter_cons,if_neg (by simpa using c)];rfl
theorem KO (f:List Int) (h8:(f.length:Int)<=8):∀ (d:Nat) (i:Int),0<=i->i+d=(f.length:Int)->
  Ev (fun k=>uR.l0 k ((roots i f).length:Int) f (f.length:Int) i) ((roots (f.length:Int) f).length:Int):=by
 intro d
 induction d with
 |zero=>
  intro i h0 hi
  have c:¬i<(f.length:Int):=by omega
  have e:i=(f.length:Int):=by omega
  exact Ev.step (fun k=>by simp only [uR.l0,if_neg c]<;>exact rfl) (Ev.val (by rw[e]))
 |succ d ih=>
  intro i h0 hi
  have c:i<(f.length:Int):=by omega
  have w:wrap64 (i+1)=i+1:=w64 (by omega) (by omega)
  have nx:=ih (i+1) (by omega) (by omega)
  have hl:=Ny i f
  have w2:wrap64 (((roots i f).length:Int)+1)=((roots i f).length:Int)+1:=w64 (by omega) (by omega)
  rw[NA h0]at nx
  by_cases e:rd f i=i
  ·rw[if_pos e]at nx
   refine Ev.step (fun k=>by simp only [uR.l0,if_pos c,if_pos h0,if_pos e.symm,w,w2]<;>exact rfl) ?_
   simpa using nx
  rw[if_neg e]at nx
  refine Ev.step (fun k=>by simp only [uR.l0,if_pos c,if_pos h0,if_neg (fun h=>e (Eq.symm h)),w]<;>exact rfl) ?_
  simpa using nx
theorem KN (n:Int) (E:List S59) (hE:ok n E):∃f,Parts n E f/\Ev (fun k=>uR.f k n E) ((roots n f).length:Int):=by
 obtain⟨f,e,h⟩:=Ir n E hE
 refine⟨f,h,?_⟩
 have h8:=hE.2.1
 have hl:=h.len
 unfold uR.f
 refine Ev.bind e ?_
 have:=KO f (by omega) f.length 0 (Int.le_refl 0) (by omega)
 rw[hl]at this⊢
 exact this
theorem Pv (n a b:Int) (E:List S59) (hE:ok n E) (ha:0<=a/\a<n) (hb:0<=b/\b<n) (hc:qK E a b):Ev (fun k=>zf.f k n E a b) true:=by
 obtain⟨f,e,h⟩:=Ir n E hE
 have hl:=h.len
 have la:a<(f.length:Int):=by omega
 have lb:b<(f.length:Int):=by omega
 unfold zf.f
 refine Ev.bind e ?_
 simp only [if_pos ha.1,if_pos hb.1,if_pos la,if_pos lb,h.same a b ha.1 ha.2 hb.1 hb.2 hc]
 exact Ev.val (by simp)
theorem Pi (n:Int) (E:List S59) (hE:ok n E) (hn:∀t∈E,qK (cut E t) t.f0 t.f1):∀ (suf p:List S59),p++suf=E->Ev (fun k=>sW.l0 k [] (p++suf) ((p++suf).length:Int) (p.length:Int) n E) []:=by
 have hl:=uX hE
 intro suf
 induction suf with
 |nil=>
  intro p _
  exact Ev.step (fun k=>by simp only [sW.l0,uj,if_false]<;>exact rfl) (Ev.val rfl)
 |cons t suf ih=>
  intro p e
  have ht:t∈E:=by rw[←e];simp
  have hr:=hE.2.2.1 t ht
  unfold inr at hr
  have hp:(p.length:Int)<big:=ui (suf:=suf) (t:=t) (by rw[e];unfold big;omega)
  refine Ev.step (fun k=>by simp only [sW.l0,qV,nn,if_true,Bc,rC (t:=t) hp]<;>exact rfl) (Ev.bind (L_ n E t (by omega)) (Ev.bind (Pv n t.f0 t.f1 (cut E t) (Ba t hE) ⟨hr.1,by omega⟩ ⟨by omega,hr.2.2⟩ (hn t ht)) ?_))
  simp only [if_true]
  have:=ih (p++[t]) (by rw[←e];simp)
  rw[←ry]at this
  exact this
theorem Ph (n:Int) (E:List S59) (hE:ok n E) (hn:∀t∈E,qK (cut E t) t.f0 t.f1):Ev (fun k=>ze.f k n E) []:=by
 have hl:=uX hE
 unfold ze.f sW.f
 refine Ev.bind (Hr n E (by unfold big;omega)) ?_
 simp only [decide_eq_true hE,if_true]
 exact Ev.bind (Pi n E hE hn E [] rfl) (Ev.val rfl)
theorem Pz (n:Int) (E:List S59) (hE:ok n E) (h1:1<=n) (hc:∀u∈sN n,∀v∈sN n,qK E u v):Ev (fun k=>zU.f k n E) 1:=by
 have hl:=uX hE
 obtain⟨f,h,e⟩:=KN n E hE
 have r1:=Nz h h1
 have r2:(roots n f).length<=1:=by
  obtain⟨u,hu⟩:=List.exists_mem_of_length_pos (show 0<(roots n f).length by omega)
  refine AZ (m:=[u]) (Px n f) (fun v hv=>?_)
  have a:=Mr.1 hu
  have b:=Mr.1 hv
  have:=h.same u v a.1.1 a.1.2 b.1.1 b.1.2 (hc u (Ey.2 a.1) v (Ey.2 b.1))
  have:v=u:=by omega
  simp[this]
 unfold zU.f
 refine Ev.bind (Hr n E (by unfold big;omega)) ?_
 simp only [decide_eq_true hE,if_true]
 refine Ev.bind e (Ev.val ?_)
 congr 1
 omega
theorem PD (n:Int) (E:List S59) (hE:ok n E) (hc:∀u∈sN n,∀v∈sN n,qK E u v) (hn:∀t∈E,qK (cut E t) t.f0 t.f1):∀ (d:Nat) (i x:Int),1<=i->i+d=n->2<=x->∃r,Ev (fun k=>uQ.l0 k x i n E) r/\2<=r:=by
 have h8:=hE.2.1
 intro d
 induction d with
 |zero=>
  intro i x h1 hi hx
  have c:¬i<n:=by omega
  exact⟨x,Ev.step (fun k=>by simp only [uQ.l0,if_neg c]<;>exact rfl) (Ev.val rfl),hx⟩
 |succ d ih=>
  intro i x h1 hi hx
  have c:i<n:=by omega
  have w:wrap64 (i+1)=i+1:=w64 (by omega) (by omega)
  obtain⟨r1,e1,g1⟩:=O5 n 0 i E hE ⟨Int.le_refl 0,by omega⟩ ⟨by omega,c⟩ (by omega) (hc 0 (Ey.2 ⟨Int.le_refl 0,by omega⟩) i (Ey.2 ⟨by omega,c⟩)) hn
  obtain⟨r,e,g⟩:=ih (i+1) (mn x r1) (by omega) (by omega) (by rw[Ii];split<;>omega)
  exact⟨r,Ev.step (fun k=>by simp only [uQ.l0,if_pos c,w]<;>exact rfl) (Ev.bind e1 e),g⟩
theorem Pp (n:Int) (E:List S59) (hE:ok n E) (h2:2<=n) (hc:∀u∈sN n,∀v∈sN n,qK E u v) (hn:∀t∈E,qK (cut E t) t.f0 t.f1):∃r,Ev (fun k=>uQ.f k n E) r/\2<=r:=by
 have hl:=uX hE
 obtain⟨r1,e1,g1⟩:=O5 n 0 1 E hE ⟨Int.le_refl 0,by omega⟩ ⟨by omega,by omega⟩ (by omega) (hc 0 (Ey.2 ⟨Int.le_refl 0,by omega⟩) 1 (Ey.2 ⟨by omega,by omega⟩)) hn
 obtain⟨r,e,g⟩:=PD n E hE hc hn (n - 1).toNat 1 r1 (Int.le_refl 1) (by omega) g1
 refine⟨r,?_,g⟩
 unfold uQ.f
 refine Ev.bind (Hr n E (by unfold big;omega)) ?_
 simp only [decide_eq_true hE,if_true]
 have d:decide (n<2)=false:=decide_eq_false (by omega)
 rw[d]
 exact Ev.step (fun k=>by simp only [uQ.j0,Bool.false_eq_true,if_false]<;>exact rfl) (Ev.bind e1 e)
theorem Ju (l:List Int) (_hl:l.length<=9223372036854775807) (h:∀x∈l,0<=x/\x<=255):∃k,wz.f k l=some true:=by
 refine Ev.rounds ?_
 unfold wz.f
 by_cases d:(l.length:Int)>1048576
 ·simp only [if_pos d];exact Ev.val rfl
 simp only [if_neg d]
 obtain⟨n,E,r,d1,hE,hr⟩:=KY l h
 have hEb:(E.length:Int)<big:=by unfold big;omega
 have hrb:(r.length:Int)<big:=by have:=hr.1;unfold big;omega
 have hT:tot r<4000000:=by have:=hr.1;have:=I8 hr.2;omega
 obtain⟨b1,e1,i1⟩:=LH n E r hEb hrb hT
 obtain⟨b2,e2,i2⟩:=NF n E r hEb hrb hT
 have hb:b1=b2:=by rw[Bool.eq_iff_iff,i1,i2]
 subst hb
 refine Ev.bind d1 (Ev.bind e1 (Ev.bind e2 ?_))
 have nb:¬ (b1 !=b1)=true:=by simp
 simp only [if_neg nb]
 by_cases t:b1=true;rotate_left
 ·have:b1=false:=by simpa using t
  subst this
  refine Ev.step (fun k=>by simp only [wz.j0,Bool.not_false,if_true]<;>exact rfl) ?_
  exact Ev.bind e2 (Ev.val (by simp))
 subst t
 refine Ev.step (fun k=>by simp only [wz.j0,Bool.not_true,Bool.false_eq_true,if_false]<;>exact rfl) ?_
 obtain⟨a1,a2,a3⟩:=i1.1 rfl
 have hn:=Po a1.2.1 a1.2.2.1 a3
 have hc:=O3 a1.1 r true [] [] (fun _=>rfl) ⟨by simp,by simp⟩ (by simp) (by simp) (by simp) a3
 have h2:2<=n:=by
  cases r with
  |nil=>exact absurd rfl a2
  |cons row rest=>
   have q:=a3.1
   obtain⟨a,m,z,rfl⟩:=Be q.len
   obtain⟨b,s,hs⟩:∃b s,m++[z]=b::s:=by
    cases hm:m++[z] with
    |nil=>simp at hm
    |cons b s=>exact⟨b,s,rfl⟩
   have k:=a1.2.2.1 _ (q.tied (oM a b) (by rw[hs];simp[ties]))
   unfold inr at k
   omega
 obtain⟨w,e3,hw⟩:=Pp n E a1 h2 hc hn
 refine Ev.bind (Ph n E a1 hn) ?_
 simp only [List.length_nil,Int.natCast_zero,if_true]
 refine Ev.bind (Pz n E a1 (by omega) hc) ?_
 simp only [if_true]
 exact Ev.bind e3 (Ev.val (by rw[decide_eq_true hw]))
end Go.Proofs.Ytgeonpciodepgaa.P
namespace Go.Proofs.Ytgeonpciodepgaa.P
open Go.RowKit Go.Proofs.YtgeonpciodepgaaW.PrintWords Go.ChangeShapes Go.WideShapes Go.Deep Go.Proofs.YtgeonpciodepgaaW.PrintWords.Kd
theorem Nk {H:Type}{enc:TypeId×Value->H}{Pr:Program}{t e:TypeId}{k:IntKind}(ht:Pr.underlying t=some (.slice e)) (he:Pr.underlying e=some (.int k)) (hc:Pr.cellsOf e=1) {w:World}{base:Nat}{spare:Nat->Bool}{held:Bool}{fuel:Nat}{cs:List Value}{x:DataW H×List MemPlace}
  (h:DataW.trod enc Pr w base spare held fuel t cs=some x):
  ∃ (A:Option Addr) (c:Nat) (l:List Int),cs=[.slice A l.length c]/\l.length<=c/\Kd.C (Kd.int k) w A l.length l/\∀n∈l,(Lit.int k n).wf=true:=by
 rcases open_slice1 ht hc h with⟨rfl,_⟩|⟨a,len,cap,m,n,V,D,Pl,rfl,hb,hl,hm,hmm,hx,hi⟩
 ·exact⟨none,0,[],rfl,Nat.le_refl _,⟨rfl,by simp,fun h=>by simp at h⟩,fun t ht=>by simp at ht⟩
 have hlm:len<=m:=by rw[hmm];split<;>omega
 have key:∀i,i<len->∃z:Int,w.cell? (a.add i)=some (.int k z)/\(Lit.int k z).wf=true:=by
  intro i hil
  obtain⟨h0,r0⟩:=hi i (by omega)
  obtain⟨n0,e0,_,w0⟩:=DataW.trod_int he r0
  simp only [List.cons.injEq,and_true]at e0
  exact⟨n0,by rw[h0,e0],w0⟩
 obtain⟨f,hf⟩:=choose_lt key
 refine⟨some a,cap,(List.range len).map f,by simp,by simpa using hl,⟨by simp,?_,fun _=>⟨a,rfl,fun j p hj=>?_⟩⟩,fun t ht=>?_⟩
 ·unfold maxLen at hm;simp;omega
 ·obtain⟨hj1,hj2⟩:=List.getElem?_eq_some_iff.1 hj
  simp at hj1 hj2
  subst hj2
  refine⟨[.int k (f j)],rfl,rfl,fun i u hu=>?_⟩
  match i,hu with
  |0,hu=>
   simp at hu;subst hu
   have:j*(Kd.int k).sz+0=j:=Nat.mul_one j
   rw[this]
   exact(hf j hj1).1
 simp at ht
 obtain⟨i,hil,rfl⟩:=ht
 exact(hf i hil).2
end Go.Proofs.Ytgeonpciodepgaa.P
