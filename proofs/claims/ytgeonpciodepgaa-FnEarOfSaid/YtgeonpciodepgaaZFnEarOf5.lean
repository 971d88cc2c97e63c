/- The proof's parts ahead of the row: of no condition of their own. -/
import Derived.Test.YtgeonpciodepgaaZFnEarOf4
import Derived.Deep.Slices
import Derived.ProofKit
set_option linter.unusedVariables false
set_option linter.unusedSimpArgs false
namespace Go.Proofs.Ytgeonpciodepgaa.G
open Go.RowKit Go.Proofs.YtgeonpciodepgaaW.PrintWords
abbrev big:Int:=4611686018427387904
theorem w64 {x:Int}(h0: -9223372036854775808<=x) (h1:x<=9223372036854775807):wrap64 x=x:=by
 unfold wrap64
 omega
theorem nD {α:Type}(pre:List α) (t:α) (suf:List α):(pre.length:Int)<((pre++t::suf).length:Int):=by
 simp;omega
theorem qj {α:Type}(pre:List α):¬ (pre.length:Int)<((pre++[]).length:Int):=by
 simp
theorem nn (n:Nat):0<=(n:Int):=Int.natCast_nonneg n
theorem nM {α:Type}(pre:List α) (t:α) (suf:List α):pre++t::suf=(pre++[t])++suf:=by simp
theorem nP {α:Type}{pre:List α}{t:α}(h:(pre.length:Int)<big):wrap64 ((pre.length:Int)+1)=((pre++[t]).length:Int):=by
 rw[w64 (by omega) (by unfold big at h;omega)];simp
theorem vX {α:Type}(pre:List α) (t:α) (suf:List α) (d:α):(pre++t::suf).getD ((pre.length:Int)).toNat d=t:=by
 simp[List.getD]
theorem oQ (pre:List Int) (t:Int) (suf:List Int):rd (pre++t::suf) (pre.length:Int)=t:=by
 unfold rd;exact vX pre t suf 0
theorem FR {α:Type}(d:α) (pre:List α) (t:α) (suf:List α):l8 d (pre++t::suf) (pre.length:Int)=t:=by
 unfold l8;exact vX pre t suf d
theorem qx {α:Type}{pre:List α}{t:α}{suf:List α}(h:((pre++t::suf).length:Int)<big):(pre.length:Int)<big:=by
 simp at h;unfold big at*;omega
theorem tN {α:Type}{pre:List α}{t:α}{suf:List α}(h:((pre++t::suf).length:Int)<big):(((pre++[t])++suf).length:Int)<big:=by
 rw[←nM];exact h
theorem Ev.val {α:Type}{a:Option α}{r:α}(h:a=some r):Ev (fun _=>a) r:=⟨0,fun _ _=>h⟩
theorem Ev.eq {α:Type}{g:Nat->Option α}{r s:α}(h:Ev g r) (e:r=s):Ev g s:=e▸h
theorem Ev.unique {α:Type}{g:Nat->Option α}{r s:α}(h:Ev g r) (k:Ev g s):r=s:=by
 obtain⟨K,h⟩:=h
 obtain⟨L,k⟩:=k
 have:=(h (max K L) (by omega)).symm.trans (k (max K L) (by omega))
 injection this
def tlt (s t:Tie):Prop:=s.f0<t.f0\/s.f0=t.f0/\s.f1<t.f1
instance(s t:Tie):Decidable (tlt s t):=by unfold tlt;infer_instance
def inr (n:Int) (t:Tie):Prop:=0<=t.f0/\t.f0<t.f1/\t.f1<n
instance(n:Int) (t:Tie):Decidable (inr n t):=by unfold inr;infer_instance
def asc:List Tie->Prop
 |[]=>True
 |[_]=>True
 |a::b::r=>tlt a b/\asc (b::r)
instance Ho:(l:List Tie)->Decidable (asc l)
 |[]=>isTrue trivial
 |[_]=>isTrue trivial
 |a::b::r=>by
  have:=Ho (b::r)
  unfold asc
  infer_instance
def ok (n:Int) (E:List Tie):Prop:=0<=n/\n<=8/\(∀t∈E,inr n t)/\asc E
instance(n:Int) (E:List Tie):Decidable (ok n E):=by unfold ok;infer_instance
theorem LZ {a b c:Tie}(h:tlt a b) (k:tlt b c):tlt a c:=by
 unfold tlt at*;omega
theorem LY (a:Tie):¬tlt a a:=by unfold tlt;omega
theorem CV {a:Tie}{l:List Tie}:asc (a::l)↔(∀t∈l,tlt a t)/\asc l:=by
 induction l generalizing a with
 |nil=>simp[asc]
 |cons b r ih=>
  constructor
  ·intro h
   obtain⟨h1,h2⟩:=h
   refine⟨fun t ht=>?_,h2⟩
   rcases List.mem_cons.1 ht with rfl|ht
   ·exact h1
   exact LZ h1 ((ih.1 h2).1 t ht)
  rintro⟨h1,h2⟩
  exact⟨h1 b (List.mem_cons_self),h2⟩
theorem CX {l:List Tie}:asc l↔l.Pairwise tlt:=by
 induction l with
 |nil=>simp[asc]
 |cons a l ih=>rw[CV,List.pairwise_cons,ih]
theorem CW {l:List Tie}(h:asc l):l.Nodup:=by
 rw[CX]at h
 exact h.imp (fun{a b} hab e=>by subst e;exact LY a hab)
theorem CY {l m:List Tie}(h:asc m) (s:l.Sublist m):asc l:=by
 rw[CX]at*;exact h.sublist s
theorem Hq {l:List Tie}(p:Tie->Bool) (h:asc l):asc (l.filter p):=CY h List.filter_sublist
theorem wY {n:Int}{E:List Tie}(p:Tie->Bool) (h:ok n E):ok n (E.filter p):=
 ⟨h.1,h.2.1,fun t ht=>h.2.2.1 t (List.mem_filter.1 ht).1,Hq p h.2.2.2⟩
theorem FE {n:Int}{E F:List Tie}(h:ok n E) (s:F.Sublist E):ok n F:=
 ⟨h.1,h.2.1,fun t ht=>h.2.2.1 t (s.subset ht),CY h.2.2.2 s⟩
theorem Hr {l:List Tie}(lo:Int) (hl:∀t∈l,0<=t.f0/\t.f0<8/\0<=t.f1/\t.f1<8) (h:asc l) (hlo:∀t∈l,lo<=t.f0*8+t.f1) (h64:lo<=64):(l.length:Int)<=64 - lo:=by
 induction l generalizing lo with
 |nil=>simp;omega
 |cons a r ih=>
  obtain⟨h1,h2⟩:=CV.1 h
  have ha:=hlo a (List.mem_cons_self)
  have hb:=hl a (List.mem_cons_self)
  have:=ih (a.f0*8+a.f1+1) (fun t ht=>hl t (List.mem_cons_of_mem _ ht)) h2 (fun t ht=>by
   have:=h1 t ht
   have hc:=hl t (List.mem_cons_of_mem _ ht)
   unfold tlt at this;omega) (by omega)
  simp only [List.length_cons]
  omega
theorem oG {n:Int}{E:List Tie}(h:ok n E):(E.length:Int)<=64:=by
 have:=Hr (l:=E) 0 (fun t ht=>by have:=h.2.2.1 t ht;have:=h.2.1;unfold inr at*;omega) h.2.2.2 (fun t ht=>by have:=h.2.2.1 t ht;unfold inr at this;omega) (by omega)
 omega
end Go.Proofs.Ytgeonpciodepgaa.G
namespace Go.Proofs.Ytgeonpciodepgaa.P
open Go.RowKit Go.Proofs.YtgeonpciodepgaaW.PrintWords Go.Proofs.Ytgeonpciodepgaa.G Go.Proofs.YtgeonpciodepgaaW.PrintWords.Kd
theorem vK (pre:List S59) (t:S59) (suf:List S59):jQ (pre++t::suf) (pre.length:Int)=t:=by
  unfold jQ;exact vX pre t suf _
theorem zI (a b c:Int):qE.f a b c=some (decide (b<=a/\a<=c)):=by
  unfold qE.f
  by_cases h:b<=a<;>simp[h]
theorem Bw (a b c d:Int):tq.f a b c d=some (decide (tlt ⟨a,b⟩ ⟨c,d⟩)):=by
  unfold tq.f tlt
  by_cases h:a<c
  · simp[h]
  by_cases h2:a=c<;>simp[h,h2]
theorem tO {α:Type}(p:List α) (q:α) (h:((p++[q]).length:Int)<big):wrap64 (((p++[q]).length:Int) - 1)=(p.length:Int):=by
  rw[w64 (by rw[List.length_append];omega) (by unfold big at h;omega)];simp
theorem xZ {α:Type}(p:List α) (q:α) (suf:List α):p++[q]++suf=p++q::suf:=by simp
theorem Fg {α:Type}(p:List α) (q:α) (suf:List α):(p.length:Int)<((p++[q]++suf).length:Int):=by simp;omega
theorem LB (n:Int) (h0:0<=n) (h8:n<=8):∀ (suf p:List S59) (q:S59),(((p++[q])++suf).length:Int)<big->
    Ev (fun k=>mo.l0 k ((p++[q]).length:Int) n ((p++[q])++suf)) (decide ((∀t∈suf,inr n t)/\asc (q::suf))):=by
  intro suf
  induction suf with
  |nil=>
    intro p q hb
    refine Ev.step (fun k=>by simp only [mo.l0,qj,if_false]<;>exact rfl) ?_
    exact Ev.val (congrArg some (decide_eq_true (by simp[asc])).symm)
  |cons t suf ih=>
    intro p q hb
    have hp:((p++[q]).length:Int)<big:=qx hb
    have e1:((p++[q]).length:Int)>0:=by rw[List.length_append,List.length_singleton];omega
    refine Ev.step (fun k=>by simp only [mo.l0,nD,nn,if_true,vK,zI,Bw,Option.bind_some,e1,tO p q hp,Fg,nP (t:=t) hp]<;>exact rfl) ?_
    have e2:jQ (p++[q]++t::suf) (p.length:Int)=q:=by rw[xZ];exact vK p q _
    simp only [e2,decide_eq_true_eq]
    rw[w64 (by omega) (by omega)]
    by_cases c1:0<=t.f0/\t.f0<=n - 1
    · simp only [if_pos c1]
      rw[w64 (by omega) (by omega)]
      by_cases c2:t.f0+1<=t.f1/\t.f1<=n - 1
      · simp only [if_pos c2]
        have ht:inr n t:=by unfold inr;omega
        by_cases c3:tlt q t
        · simp only [if_pos c3]
          rw[nM (p++[q]) t suf]
          refine Ev.eq (ih (p++[q]) t (tN hb)) ?_
          rw[decide_eq_decide]
          simp[asc,ht,c3]
        simp only [if_neg c3]
        exact Ev.val (by simp[asc,c3])
      simp only [if_neg c2]
      refine Ev.val ?_
      have:¬inr n t:=by unfold inr;omega
      simp[this]
    simp only [if_neg c1]
    refine Ev.val ?_
    have:¬inr n t:=by unfold inr;omega
    simp[this]
theorem uW (n:Int) (E:List S59) (hb:(E.length:Int)<big):Ev (fun k=>mo.f k n E) (decide (ok n E)):=by
  unfold mo.f
  simp only [zI,Option.bind_some,decide_eq_true_eq]
  by_cases c1:0<=n/\n<=8;rotate_left
  · simp only [if_neg c1]
    refine Ev.step (fun k=>by simp only [mo.j0,if_true]<;>exact rfl) ?_
    refine Ev.val ?_
    have:¬ok n E:=fun h=>c1 ⟨h.1,h.2.1⟩
    simp[this]
  simp only [if_pos c1]
  by_cases c2:(E.length:Int)>64
  · refine Ev.step (fun k=>by simp only [mo.j0,c2,decide_true,if_true]<;>exact rfl) ?_
    exact Ev.val (by rw[decide_eq_false (fun h=>by have:=oG h;omega)])
  refine Ev.step (fun k=>by simp only [mo.j0,c2,decide_false,Bool.false_eq_true,if_false]<;>exact rfl) ?_
  cases E with
  |nil=>
    refine Ev.step (fun k=>by simp[mo.l0]<;>exact rfl) ?_
    exact Ev.val (by simp[ok,asc,c1])
  |cons t suf=>
    have l1:(0:Int)<((t::suf).length:Int):=by rw[List.length_cons];omega
    have r1:jQ (t::suf) 0=t:=rfl
    have h0:(0:Int)<=0:=Int.le_refl 0
    have w1:wrap64 (0+1)=1:=w64 (by omega) (by omega)
    have g1:¬ (0:Int)>0:=by omega
    refine Ev.step (fun k=>by simp only [mo.l0,l1,h0,if_true,r1,zI,Option.bind_some,w1,g1,if_false,decide_eq_true_eq]<;>exact rfl) ?_
    rw[w64 (by omega) (by omega)]
    by_cases d1:0<=t.f0/\t.f0<=n - 1
    · simp only [if_pos d1]
      rw[w64 (by omega) (by omega)]
      by_cases d2:t.f0+1<=t.f1/\t.f1<=n - 1
      · simp only [if_pos d2]
        have ht:inr n t:=by unfold inr;omega
        refine Ev.eq (LB n c1.1 c1.2 suf [] t hb) ?_
        rw[decide_eq_decide]
        simp[ok,c1,ht]
      simp only [if_neg d2]
      refine Ev.val ?_
      have:¬inr n t:=by unfold inr;omega
      simp[this,ok]
    simp only [if_neg d1]
    refine Ev.val ?_
    have:¬inr n t:=by unfold inr;omega
    simp[this,ok]
def sF (x y:Int):Int:=if x<y then -1 else if y<x then 1 else 0
theorem cmp_eq (a b:Int):cmp_Compare_int.f a b=some (sF a b):=by
  unfold cmp_Compare_int.f sF
  simp only [cmp_isNaN_int.f,bne_self_eq_false,Option.bind_some,Bool.false_eq_true,if_false]
  repeat' split
  all_goals first|rfl|omega
def ord (a b c d:Int):Int:=if sF a c=0 then sF b d else sF a c
theorem KA (a b c d:Int):ord a b c d>=0↔¬tlt ⟨a,b⟩ ⟨c,d⟩:=by
  unfold ord sF tlt
  simp only
  repeat' split
  all_goals omega
theorem Kz (x y:Int):Ev (fun k=>oP.f k [x,y]) (if x=0 then y else x):=by
  unfold oP.f
  have l:(([x,y]:List Int).length:Int)=2:=rfl
  have r0:rd [x,y] 0=x:=rfl
  have r1:rd [x,y] 1=y:=rfl
  have h0:(0:Int)<=0:=Int.le_refl 0
  have a1:(0:Int)<=1:=by omega
  have a2:(0:Int)<2:=by omega
  have a3:(1:Int)<2:=by omega
  have a4:¬ (2:Int)<2:=by omega
  have w1:wrap64 (0+1)=1:=w64 (by omega) (by omega)
  have w2:wrap64 (1+1)=2:=w64 (by omega) (by omega)
  refine Ev.step (fun k=>by simp only [oP.l0,l,r0,h0,a2,if_true,w1]<;>exact rfl) ?_
  by_cases c:x=0
  · simp only [if_pos c]
    refine Ev.step (fun k=>by simp only [oP.l0,l,r1,a1,a3,if_true,w2]<;>exact rfl) ?_
    by_cases d:y=0
    · simp only [if_pos d]
      refine Ev.step (fun k=>by simp only [oP.l0,a4,if_false]<;>exact rfl) ?_
      exact Ev.val (by rw[d])
    simp only [if_neg d]
    exact Ev.val rfl
  simp only [if_neg c]
  exact Ev.val rfl
theorem KC (a b c d:Int):Ev (fun k=>pU.f k a b c d) (ord a b c d):=by
  unfold pU.f
  simp only [cmp_eq,Option.bind_some]
  exact Ev.bind (Kz _ _) (Ev.val rfl)
theorem Hu:∀ (suf p:List S59) (q:S59),(((p++[q])++suf).length:Int)<big->
    Ev (fun k=>nO.l0 k ((p++[q])++suf) ((p++[q]).length:Int)) (decide (asc (q::suf))):=by
  intro suf
  induction suf with
  |nil=>
    intro p q hb
    refine Ev.step (fun k=>by simp only [nO.l0,qj,if_false]<;>exact rfl) ?_
    exact Ev.val (congrArg some (decide_eq_true (by simp[asc])).symm)
  |cons t suf ih=>
    intro p q hb
    have hp:((p++[q]).length:Int)<big:=qx hb
    have e2:jQ (p++[q]++t::suf) (p.length:Int)=q:=by rw[xZ];exact vK p q _
    refine Ev.step (fun k=>by simp only [nO.l0,nD,nn,if_true,vK,tO p q hp,Fg,nP (t:=t) hp,e2]<;>exact rfl) ?_
    refine Ev.bind (KC _ _ _ _) ?_
    simp only [KA]
    by_cases c3:tlt q t
    · simp only [c3,not_true_eq_false,if_false]
      rw[nM (p++[q]) t suf]
      refine Ev.eq (ih (p++[q]) t (tN hb)) ?_
      rw[decide_eq_decide]
      simp[asc,c3]
    simp only [c3,not_false_eq_true,if_true]
    exact Ev.val (by simp[asc,c3])
theorem Ht (E:List S59) (hb:(E.length:Int)<big):Ev (fun k=>nO.f k E) (decide (asc E)):=by
  unfold nO.f
  cases E with
  |nil=>
    refine Ev.step (fun k=>by simp[nO.l0]<;>exact rfl) ?_
    exact Ev.val (congrArg some (decide_eq_true (by simp[asc])).symm)
  |cons t suf=>exact Hu suf [] t hb
theorem JF (n:Int) (E:List S59) (hE:(E.length:Int)<big):∀ (suf p:List S59),((p++suf).length:Int)<big->
    Ev (fun k=>nH.l0 k (p++suf) ((p++suf).length:Int) (p.length:Int) n E) (decide ((∀t∈suf,inr n t)/\asc E)):=by
  intro suf
  induction suf with
  |nil=>
    intro p hb
    refine Ev.step (fun k=>by simp only [nH.l0,qj,if_false]<;>exact rfl) ?_
    refine Ev.bind (Ht E hE) ?_
    exact Ev.val (by simp)
  |cons t suf ih=>
    intro p hb
    have hp:(p.length:Int)<big:=qx hb
    refine Ev.step (fun k=>by simp only [nH.l0,nD,nn,if_true,vK,nP (t:=t) hp]<;>exact rfl) ?_
    by_cases c1:t.f0<0
    · simp only [if_pos c1]
      exact Ev.val (by have:¬inr n t:=by unfold inr;omega
                       simp[this])
    simp only [if_neg c1]
    by_cases c2:t.f0>=t.f1
    · simp only [if_pos c2]
      exact Ev.val (by have:¬inr n t:=by unfold inr;omega
                       simp[this])
    simp only [if_neg c2]
    by_cases c3:t.f1>=n
    · simp only [if_pos c3]
      exact Ev.val (by have:¬inr n t:=by unfold inr;omega
                       simp[this])
    simp only [if_neg c3]
    rw[nM p t suf]
    refine Ev.eq (ih (p++[t]) (tN hb)) ?_
    have:inr n t:=by unfold inr;omega
    rw[decide_eq_decide]
    simp[this]
theorem Bq (n:Int) (E:List S59) (hb:(E.length:Int)<big):Ev (fun k=>nH.f k n E) (decide (ok n E)):=by
  unfold nH.f
  by_cases c1:n<0
  · simp only [if_pos c1]
    refine Ev.step (fun k=>by simp only [nH.j0,if_true]<;>exact rfl) ?_
    exact Ev.val (by have:¬ok n E:=fun h=>by have:=h.1;omega
                     simp[this])
  simp only [if_neg c1]
  by_cases c2:n>8
  · refine Ev.step (fun k=>by simp only [nH.j0,c2,decide_true,if_true]<;>exact rfl) ?_
    exact Ev.val (by have:¬ok n E:=fun h=>by have:=h.2.1;omega
                     simp[this])
  refine Ev.step (fun k=>by simp only [nH.j0,c2,decide_false,Bool.false_eq_true,if_false]<;>exact rfl) ?_
  refine Ev.eq (JF n E hb E [] hb) ?_
  rw[decide_eq_decide]
  unfold ok
  constructor
  · exact fun h=>⟨by omega,by omega,h.1,h.2⟩
  exact fun h=>⟨h.2.2.1,h.2.2.2⟩
end Go.Proofs.Ytgeonpciodepgaa.P
namespace Go.Proofs.Ytgeonpciodepgaa.G
def kS (a b:Int):Tie:=if a<b then⟨a,b⟩ else⟨b,a⟩
theorem yx (a b:Int):kS a b=kS b a:=by
 unfold kS
 rcases Int.lt_trichotomy a b with h|h|h
 ·rw[if_pos h,if_neg (by omega)]
 ·subst h;rfl
 rw[if_neg (by omega),if_pos h]
theorem LP {n:Int}{t:Tie}(h:inr n t):kS t.f0 t.f1=t:=by
 unfold kS;rw[if_pos h.2.1]
theorem LQ {a b:Int}(h:a<b):kS a b=⟨a,b⟩:=by unfold kS;rw[if_pos h]
end Go.Proofs.Ytgeonpciodepgaa.G
namespace Go.Proofs.Ytgeonpciodepgaa.P
open Go.RowKit Go.Proofs.YtgeonpciodepgaaW.PrintWords Go.Proofs.Ytgeonpciodepgaa.G Go.Proofs.YtgeonpciodepgaaW.PrintWords.Kd
theorem w_ (pre:List S59) (t:S59) (suf:List S59):jQ (pre++t::suf) (pre.length:Int)=t:=by
 unfold jQ;exact vX pre t suf _
theorem vZ (a b:Int):rH.f a b=some ((kS a b).f0,(kS a b).f1):=by
 unfold rH.f kS
 by_cases h:a<b<;>simp[h]
theorem LU (s t:Tie):(s.f0==t.f0&&(s.f1==t.f1))=decide (s=t):=by
 obtain⟨a,b⟩:=s
 obtain⟨c,d⟩:=t
 simp only [Tie.mk.injEq]
 by_cases h:a=c<;>by_cases k:b=d<;>simp[h,k]
theorem JO (n a b:Int):∀ (suf p:List S59),((p++suf).length:Int)<big->
  Ev (fun k=>oN.l0 k a b (p.length:Int) n (p++suf)) (decide (kS a b∈suf)):=by
 intro suf
 induction suf with
 |nil=>
  intro p hb
  refine Ev.step (fun k=>by simp only [oN.l0,qj,if_false]<;>exact rfl) ?_
  exact Ev.val (congrArg some (decide_eq_false (by simp)).symm)
 |cons t suf ih=>
  intro p hb
  have hp:(p.length:Int)<big:=qx hb
  refine Ev.step (fun k=>by simp only [oN.l0,nD,nn,if_true,w_,nP (t:=t) hp,vZ,Option.bind_some,LU,decide_eq_true_eq]<;>exact rfl) ?_
  by_cases c:t=kS a b
  ·simp only [if_pos c]
   exact Ev.val (congrArg some (decide_eq_true (by simp[c])).symm)
  simp only [if_neg c]
  rw[nM p t suf]
  refine Ev.eq (ih (p++[t]) (tN hb)) ?_
  rw[decide_eq_decide]
  have:¬kS a b=t:=fun e=>c e.symm
  simp[this]
theorem Fb (n a b:Int) (E:List S59) (hb:(E.length:Int)<big):Ev (fun k=>oN.f k n E a b) (decide (kS a b∈E)):=by
 unfold oN.f
 exact JO n a b E [] hb
end Go.Proofs.Ytgeonpciodepgaa.P
namespace Go.Proofs.Ytgeonpciodepgaa.G
def cut (X:List Tie) (t:Tie):List Tie:=X.filter fun s=> !decide (s=t)
theorem ut {X:List Tie}{s t:Tie}:s∈cut X t↔s∈X/\s≠t:=by
 unfold cut
 rw[List.mem_filter]
 simp
theorem uU {n:Int}{X:List Tie}(t:Tie) (h:ok n X):ok n (cut X t):=wY _ h
theorem IJ {X:List Tie}{t:Tie}(h:t∉X):cut X t=X:=by
 unfold cut
 rw[List.filter_eq_self]
 intro s hs
 have:s≠t:=fun e=>h (e▸hs)
 simp[this]
theorem II {X:List Tie}(hX:X.Nodup) (t:Tie):(cut X t).length+(if t∈X then 1 else 0)=X.length:=by
 induction X with
 |nil=>simp[cut]
 |cons a r ih=>
  obtain⟨h1,h2⟩:=List.nodup_cons.1 hX
  have ih:=ih h2
  by_cases e:a=t
  ·subst e
   have:cut (a::r) a=cut r a:=by simp[cut]
   rw[this,IJ h1]
   simp
  have e1:cut (a::r) t=a::cut r t:=by simp[cut,e]
  rw[e1]
  have e2:(t∈a::r)=(t∈r):=by simp[Ne.symm e]
  simp only [e2,List.length_cons]
  omega
def ties:List Int->List Tie
 |a::b::r=>kS a b::ties (b::r)
 |_=>[]
def cuts:List Tie->List Tie->Prop
 |_,[]=>True
 |X,t::r=>t∈X/\cuts (cut X t) r
instance IK:(X T:List Tie)->Decidable (cuts X T)
 |_,[]=>isTrue trivial
 |X,t::r=>by
  have:=IK (cut X t) r
  unfold cuts
  infer_instance
theorem xk:∀ (r:List Int),(ties r).length=r.length - 1
 |[]=>rfl
 |[_]=>rfl
 |a::b::r=>by
  have:=xk (b::r)
  simp only [ties,List.length_cons]at*
  omega
def Gm (n:Int) (E:List Tie) (row:List Int):Prop:=ok n E/\row.length=E.length+1/\(∀v∈row,0<=v/\v<n)/\cuts E (ties row)
instance(n:Int) (E:List Tie) (row:List Int):Decidable (Gm n E row):=by unfold Gm;infer_instance
theorem o9 {n a b:Int}(h:inr n (kS a b)):(0<=a/\a<n)/\(0<=b/\b<n)/\a≠b:=by
 unfold kS inr at h
 by_cases c:a<b
 ·rw[if_pos c]at h;simp only at h;omega
 rw[if_neg c]at h;simp only at h;omega
theorem Cf {n:Int}{E:List Tie}(hE:∀t∈E,inr n t):∀ (r:List Int) (a:Int),0<=a/\a<n->(∀t∈ties (a::r),t∈E)->∀v∈a::r,0<=v/\v<n
 |[],a,ha,_=>by simpa using ha
 |b::r,a,ha,h=>by
  intro v hv
  have ht:kS a b∈E:=h _ (by simp[ties])
  have hb:=(o9 (hE _ ht)).2.1
  rcases List.mem_cons.1 hv with rfl|hv
  ·exact ha
  exact Cf hE r b hb (fun t ht=>h t (by simp[ties,ht])) v hv
end Go.Proofs.Ytgeonpciodepgaa.G
namespace Go.Proofs.Ytgeonpciodepgaa.P
open Go.RowKit Go.Proofs.YtgeonpciodepgaaW.PrintWords Go.Proofs.Ytgeonpciodepgaa.G Go.Proofs.YtgeonpciodepgaaW.PrintWords.Kd
theorem rq (n a:Int) (E:List S59) (hE:(E.length:Int)<big):Ev (fun k=>oz.f k n E a) (decide (ok n E/\0<=a/\a<n)):=by
 unfold oz.f
 refine Ev.bind (uW n E hE) ?_
 by_cases c:ok n E
 ·simp only [c,decide_true,if_true,zI,Option.bind_some]
  rw[w64 (by have:=c.1;omega) (by have:=c.2.1;omega)]
  refine Ev.val (congrArg some (decide_eq_decide.2 ?_))
  exact⟨fun h=>⟨trivial,h.1,by omega⟩,fun h=>⟨h.2.1,by omega⟩⟩
 simp only [c,decide_false,Bool.false_eq_true,if_false]
 exact Ev.val (congrArg some (decide_eq_false (by simp)).symm)
theorem F9 (n a b:Int) (E:List S59) (hE:(E.length:Int)<big):Ev (fun k=>uw.f k n E a b) (decide (ok n E/\kS a b∈E)):=by
 unfold uw.f
 refine Ev.bind (uW n E hE) ?_
 by_cases c:ok n E
 ·simp only [c,decide_true,if_true]
  refine Ev.bind (Fb n a b E hE) ?_
  exact Ev.val (by simp)
 simp only [c,decide_false,Bool.false_eq_true,if_false]
 exact Ev.val (by simp)
theorem xR (n:Int) (E:List S59) (hE:(E.length:Int)<=1048576):pE.f n E=some (n,E):=by
 unfold pE.f
 have:([]:List S59).length+E.length<8796093022208:=by simp;omega
 simp only [Option.bind_some,this,if_true,List.nil_append]
end Go.Proofs.Ytgeonpciodepgaa.P
namespace Go.Proofs.Ytgeonpciodepgaa.G
open Go.RowKit Go.Proofs.YtgeonpciodepgaaW.PrintWords
def rU (l:List Int):Prop:=∀x∈l,0<=x/\x<=255
theorem BU {l:List Int}(h:rU l) (i:Int):0<=rd l i/\rd l i<=255:=by
 unfold rd
 by_cases c:i.toNat<l.length
 ·rw[List.getD_eq_getElem?_getD,List.getElem?_eq_getElem c]
  exact h _ (List.getElem_mem c)
 rw[List.getD_eq_getElem?_getD,List.getElem?_eq_none (by omega)]
 simp
theorem Mr {a b:Int}(h0:0<=a) (h1:a<9223372036854775808) (h2:0<=b) (h3:b<9223372036854775808):0<=Go.bits .xor .i64 a b:=by
 obtain⟨x,rfl⟩:=Int.eq_ofNat_of_zero_le h0
 obtain⟨y,rfl⟩:=Int.eq_ofNat_of_zero_le h2
 have hx:x^^^y<2^63:=Nat.xor_lt_two_pow (by omega) (by omega)
 have e1:(BitVec.ofInt 64 (x:Int)).toNat=x:=by
  rw[BitVec.ofInt_natCast,BitVec.toNat_ofNat];exact Nat.mod_eq_of_lt (by omega)
 have e2:(BitVec.ofInt 64 (y:Int)).toNat=y:=by
  rw[BitVec.ofInt_natCast,BitVec.toNat_ofNat];exact Nat.mod_eq_of_lt (by omega)
 show 0<=IntKind.i64.wrap ((BitVec.ofInt 64 (x:Int)^^^BitVec.ofInt 64 (y:Int)).toNat:Int)
 rw[BitVec.toNat_xor,e1,e2]
 simp[IntKind.wrap,IntKind.bits,IntKind.signed]
 omega
theorem z8 {a b:Int}(h:0<=a) (hb:0<b):0<=Int.tmod a b/\Int.tmod a b<b:=by
 rw[Int.tmod_eq_emod_of_nonneg h]
 exact⟨Int.emod_nonneg _ (by omega),Int.emod_lt_of_pos _ hb⟩
theorem Gh {a b:Int}(h:0<=a) (hb:0<=b):0<=Int.tdiv a b/\Int.tdiv a b<=a:=by
 rw[Int.tdiv_eq_ediv_of_nonneg h]
 exact⟨Int.ediv_nonneg h hb,Int.ediv_le_self _ h⟩
def ny (lo hi:Int) (M:Nat) (c p:Int) (r:Int×List Tie×Int):Prop:=lo<=r.1/\r.1<=hi/\r.2.1.length<=M/\p<=r.2.2/\r.2.2<=p+c
end Go.Proofs.Ytgeonpciodepgaa.G
namespace Go.Proofs.Ytgeonpciodepgaa.P
open Go.RowKit Go.Proofs.YtgeonpciodepgaaW.PrintWords Go.Proofs.Ytgeonpciodepgaa.G Go.Proofs.YtgeonpciodepgaaW.PrintWords.Kd
theorem Ky (l:List Int) (h:rU l):∃s,wy.f l=some (s,0)/\rU s/\s.length<=2000:=by
 unfold wy.f
 by_cases c:(l.length:Int)>2000
 ·have c2:(2000:Int)<=(l.length:Int):=by omega
  exact⟨l.take 2000,by simp only [if_pos c,if_pos c2],fun x hx=>h x (List.mem_of_mem_take hx),List.length_take_le _ _⟩
 exact⟨l,by simp only [if_neg c],h,by omega⟩
theorem qL (s:List Int) (hs:rU s) (hl:s.length<=2000) (p n:Int) (h0:0<=p) (h1:p<=100000):
  ∃v,Ev (fun k=>lY.f k s p n) (v,p+1)/\0<=v/\(v<n\/n<1/\v=0):=by
 unfold lY.f
 rw[w64 (x:=p+1) (by omega) (by omega)]
 by_cases c:n<1
 ·refine⟨0,?_,Int.le_refl 0,.inr ⟨c,rfl⟩⟩
  simp only [if_pos c]
  exact Ev.step (fun k=>by simp only [lY.j0,if_true]<;>exact rfl) (Ev.val rfl)
 simp only [if_neg c]
 by_cases z:(s.length:Int)=0
 ·refine⟨0,?_,Int.le_refl 0,.inl (by omega)⟩
  have z':((s.length:Int)==0)=true:=beq_iff_eq.2 z
  exact Ev.step (fun k=>by simp only [lY.j0,z',if_true]<;>exact rfl) (Ev.val rfl)
 have z':((s.length:Int)==0)=false:=beq_eq_false_iff_ne.2 z
 have zp:(0:Int)<s.length:=by omega
 have e1:wrap64 (p+1 - 1)=p:=by rw[w64 (by omega) (by omega)];omega
 have n0:¬n=0:=by omega
 by_cases d:p<(s.length:Int)
 ·have hb:=BU hs p
  have t:=z8 hb.1 (b:=n) (by omega)
  refine⟨Int.tmod (rd s p) n,?_,t.1,.inl t.2⟩
  refine Ev.step (fun k=>by simp only [lY.j0,z',Bool.false_eq_true,if_false,e1,if_pos d,if_pos h0,if_neg n0,w64 (x:=rd s p) (by omega) (by omega)]<;>exact rfl) (Ev.val rfl)
 have t1:=z8 h0 zp
 have w1:wrap64 (p*7)=p*7:=w64 (by omega) (by omega)
 have w2:wrap64 (p*7+3)=p*7+3:=w64 (by omega) (by omega)
 have t2:=z8 (a:=p*7+3) (by omega) zp
 have b1:=BU hs (Int.tmod p (s.length:Int))
 have b2:=BU hs (Int.tmod (p*7+3) (s.length:Int))
 have q:=Gh h0 (b:=(s.length:Int)) (by omega)
 generalize hu:rd s (Int.tmod p (s.length:Int))=u at b1
 generalize hv:rd s (Int.tmod (p*7+3) (s.length:Int))=v at b2
 generalize hy:Int.tdiv p (s.length:Int)=y at q
 have hx0:0<=u*131+v*1117+p*29+y*53:=by omega
 have hx1:u*131+v*1117+p*29+y*53<100000000:=by omega
 have q2:=Gh hx0 (b:=64) (by omega)
 have w3:wrap64 (wrap64 (wrap64 (wrap64 (wrap64 u*131)+wrap64 (wrap64 v*1117))+wrap64 (p*29))+wrap64 (wrap64 y*53))=u*131+v*1117+p*29+y*53:=by
  rw[w64 (x:=u) (by omega) (by omega),w64 (x:=v) (by omega) (by omega),w64 (x:=y) (by omega) (by omega),w64 (x:=u*131) (by omega) (by omega),w64 (x:=v*1117) (by omega) (by omega),w64 (x:=y*53) (by omega) (by omega),w64 (x:=p*29) (by omega) (by omega),w64 (x:=u*131+v*1117) (by omega) (by omega),w64 (x:=u*131+v*1117+p*29) (by omega) (by omega),w64 (by omega) (by omega)]
 have w4:wrap64 (Int.tdiv (u*131+v*1117+p*29+y*53) 64)=Int.tdiv (u*131+v*1117+p*29+y*53) 64:=w64 (by omega) (by omega)
 generalize hX:u*131+v*1117+p*29+y*53=X at*
 have x0:=Mr hx0 (by omega) q2.1 (by omega)
 have t:=z8 x0 (b:=n) (by omega)
 refine⟨Int.tmod (Go.bits .xor .i64 X (Int.tdiv X 64)) n,?_,t.1,.inl t.2⟩
 refine Ev.step (fun k=>by simp only [lY.j0,z',Bool.false_eq_true,if_false,e1,if_neg d,if_neg z,w1,w2,if_pos t1.1,if_pos t1.2,if_pos t2.1,if_pos t2.2,if_neg n0,hu,hv,hy,w3,w4]<;>exact rfl) (Ev.val rfl)
theorem Hg (n m a b:Int):∀ (suf p q:List S59) (f:Bool),((p++suf).length:Int)<=1048576->q.length<=p.length+(if f then 1 else 0)->
  ∃E,Ev (fun k=>lI.l0 k f (p.length:Int) n (p++suf) m q a b) (m,E,true)/\E.length<=(p++suf).length+1:=by
 intro suf
 induction suf with
 |nil=>
  intro p q f hb hq
  have hq8:q.length<8796093022208:=by rw[List.length_append]at hb;split at hq<;>omega
  cases f with
  |true=>exact⟨q,Ev.step (fun k=>by simp only [lI.l0,qj,if_false,if_true]<;>exact rfl) (Ev.val rfl),by simpa using hq⟩
  |false=>exact⟨q++[⟨a,b⟩],Ev.step (fun k=>by simp only [lI.l0,qj,if_false,Bool.false_eq_true,if_pos hq8]<;>exact rfl) (Ev.val rfl),by simp at hq⊢;omega⟩
 |cons t suf ih=>
  intro p q f hb hq
  have hb':((p++t::suf).length:Int)<big:=by unfold big;omega
  have hp:(p.length:Int)<big:=qx hb'
  have hq8:q.length+1<8796093022208:=by rw[List.length_append]at hb;split at hq<;>omega
  have hq7:q.length<8796093022208:=by omega
  have hb2:(((p++[t])++suf).length:Int)<=1048576:=by rw[←nM];exact hb
  cases f with
  |true=>
   obtain⟨E,e1,e2⟩:=ih (p++[t]) (q++[t]) true hb2 (by simp at hq⊢;omega)
   rw[nM p t suf]
   refine⟨E,Ev.step (fun k=>by simp only [←nM,lI.l0,nD,nn,if_true,w_,nP (t:=t) hp,if_pos hq7]<;>exact rfl) ?_,e2⟩
   rw[nM p t suf]
   exact e1
  |false=>
   have s0:lI.l0=lI.l0:=rfl
   by_cases c:tlt ⟨a,b⟩ ⟨t.f0,t.f1⟩
   ·obtain⟨E,e1,e2⟩:=ih (p++[t]) (q++[⟨a,b⟩,t]) true hb2 (by simp at hq⊢;omega)
    have hq9:(q++[(⟨a,b⟩:S59)]).length<8796093022208:=by simp;omega
    rw[nM p t suf]
    refine⟨E,Ev.step (fun k=>by simp only [←nM,lI.l0,nD,nn,if_true,Bool.false_eq_true,if_false,w_,nP (t:=t) hp,Bw,Option.bind_some,decide_eq_true c,if_pos hq7,if_pos hq9]<;>exact rfl) ?_,e2⟩
    rw[nM p t suf]
    exact e1
   obtain⟨E,e1,e2⟩:=ih (p++[t]) (q++[t]) false hb2 (by simp at hq⊢;omega)
   rw[nM p t suf]
   refine⟨E,Ev.step (fun k=>by simp only [←nM,lI.l0,nD,nn,if_true,Bool.false_eq_true,if_false,w_,nP (t:=t) hp,Bw,Option.bind_some,decide_eq_false c,if_pos hq7]<;>exact rfl) ?_,e2⟩
   rw[nM p t suf]
   exact e1
theorem vQ (n a b:Int) (E:List S59) (hE:(E.length:Int)<=1048576):
  ∃m F t,Ev (fun k=>lI.f k n E a b) (m,F,t)/\F.length<=E.length+1/\(m=n\/m=0):=by
 have hb:(E.length:Int)<big:=by unfold big;omega
 have no:Ev (fun k=>lI.j0 k a b true n E) (0,[],false):=Ev.step (fun k=>by simp only [lI.j0,if_true]<;>exact rfl) (Ev.val rfl)
 unfold lI.f
 by_cases c:ok n E/\0<=a/\a<n;rotate_left
 ·refine⟨0,[],false,Ev.bind (rq n a E hb) ?_,by simp,.inr rfl⟩
  simp only [c,decide_false,Bool.false_eq_true,if_false]
  exact no
 by_cases d:ok n E/\0<=b/\b<n
 ·have h1:∀v:Bool,∃m F t,Ev (fun k=>lI.j0 k a b v n E) (m,F,t)/\F.length<=E.length+1/\(m=n\/m=0):=by
   intro v
   cases v with
   |true=>exact⟨0,[],false,no,by simp,.inr rfl⟩
   |false=>
    obtain⟨F,e1,e2⟩:=Hg n n (kS a b).f0 (kS a b).f1 E [] [] false hE (by simp)
    refine⟨n,F,true,?_,e2,.inl rfl⟩
    exact Ev.step (fun k=>by simp only [lI.j0,Bool.false_eq_true,if_false,vZ,Option.bind_some]<;>exact rfl) e1
  by_cases e:a=b
  ·obtain⟨m,F,t,e1,e2⟩:=h1 true
   refine⟨m,F,t,Ev.bind (rq n a E hb) ?_,e2⟩
   simp only [c,and_self,decide_true,if_true]
   refine Ev.bind (rq n b E hb) ?_
   simp only [d,and_self,decide_true,if_true,if_pos e]
   exact e1
  obtain⟨m,F,t,e1,e2⟩:=h1 (decide (ok n E/\kS a b∈E))
  refine⟨m,F,t,Ev.bind (rq n a E hb) ?_,e2⟩
  simp only [c,and_self,decide_true,if_true]
  refine Ev.bind (rq n b E hb) ?_
  simp only [d,and_self,decide_true,if_true,if_neg e]
  exact Ev.bind (F9 n a b E hb) e1
 refine⟨0,[],false,Ev.bind (rq n a E hb) ?_,by simp,.inr rfl⟩
 simp only [c,and_self,decide_true,if_true]
 refine Ev.bind (rq n b E hb) ?_
 simp only [d,decide_false,Bool.false_eq_true,if_false]
 exact no
theorem IR (s:List Int) (hs:rU s) (hl:s.length<=2000):∀ (d:Nat) (p n:Int) (E:List S59),d<=20->0<=p->p+2*d<=80000->0<=n->n<=8->E.length+d<=1000->
  ∃r,Ev (fun k=>lJ.l2 k (d:Int) s p n E) r/\ny 0 8 (E.length+d) (2*d) p r:=by
 intro d
 induction d with
 |zero=>
  intro p n E hd h0 h1 n0 n1 hE
  refine⟨(n,E,p),?_,by simp[ny];omega⟩
  have c:¬ (0:Int)>0:=by omega
  refine Ev.step (fun k=>by simp only [lJ.l2,Int.natCast_zero,if_neg c]<;>exact rfl) ?_
  exact Ev.step (fun k=>by simp only [lJ.j4,Bool.false_eq_true,if_false]<;>exact rfl) (Ev.val rfl)
 |succ d ih=>
  intro p n E hd h0 h1 n0 n1 hE
  have c:((d+1:Nat):Int)>0:=by omega
  have w:wrap64 (((d+1:Nat):Int) - 1)=(d:Int):=by rw[w64 (by omega) (by omega)];omega
  by_cases m:n>1
  ·obtain⟨v,v1,_⟩:=qL s hs hl p n h0 (by omega)
   obtain⟨u,u1,_⟩:=qL s hs hl (p+1) n (by omega) (by omega)
   obtain⟨m',F,t,a1,a2,a3⟩:=vQ n v u E (by omega)
   have step:∀r,Ev (fun k=>if t=true then lJ.l2 k (d:Int) s (p+1+1) m' F else lJ.l2 k (d:Int) s (p+1+1) n E) r->Ev (fun k=>lJ.l2 k ((d+1:Nat):Int) s p n E) r:=by
    intro r hr
    refine Ev.step (fun k=>by simp only [lJ.l2,if_pos c,decide_eq_true m]<;>exact rfl) ?_
    refine Ev.step (fun k=>by simp only [lJ.j4,if_true,w]<;>exact rfl) ?_
    exact Ev.bind v1 (Ev.bind u1 (Ev.bind a1 hr))
   cases t with
   |true=>
    obtain⟨r,r1,r2⟩:=ih (p+1+1) m' F (by omega) (by omega) (by omega) (by omega) (by omega) (by omega)
    exact⟨r,step r (by simp only [if_true];exact r1),by unfold ny at*;omega⟩
   |false=>
    obtain⟨r,r1,r2⟩:=ih (p+1+1) n E (by omega) (by omega) (by omega) (by omega) (by omega) (by omega)
    exact⟨r,step r (by simp only [Bool.false_eq_true,if_false];exact r1),by unfold ny at*;omega⟩
  refine⟨(n,E,p),?_,by simp[ny];omega⟩
  refine Ev.step (fun k=>by simp only [lJ.l2,if_pos c,decide_eq_false m]<;>exact rfl) ?_
  exact Ev.step (fun k=>by simp only [lJ.j4,Bool.false_eq_true,if_false]<;>exact rfl) (Ev.val rfl)
theorem wR (s:List Int) (hs:rU s) (hl:s.length<=2000) (p n:Int) (E:List S59) (h0:0<=p) (h1:p<=75000) (n0:0<=n) (n1:n<=8) (hE:E.length<=20):
  ∃r,Ev (fun k=>lJ.j2 k s p n E) r/\ny 0 8 40 30 p r:=by
 obtain⟨v,v1,v2,v3⟩:=qL s hs hl p 13 h0 (by omega)
 obtain⟨r,r1,r2⟩:=IR s hs hl v.toNat (p+1) n E (by omega) (by omega) (by omega) n0 n1 (by omega)
 rw[Int.toNat_of_nonneg v2]at r1
 refine⟨r,Ev.step (fun k=>by simp only [lJ.j2]<;>exact rfl) (Ev.bind v1 r1),by unfold ny at*;omega⟩
theorem IP (s:List Int) (hs:rU s) (hl:s.length<=2000):∀ (d:Nat) (i p n:Int) (E:List S59),i+d=9->0<=i->0<=p->p+d<=70000->0<=n->n<=8->(E.length:Int)<=i->
  ∃r,Ev (fun k=>lJ.l0 k i s p n E) r/\ny 0 8 40 (30+d) p r:=by
 intro d
 induction d with
 |zero=>
  intro i p n E hi i0 h0 h1 n0 n1 hE
  obtain⟨r,r1,r2⟩:=wR s hs hl p n E h0 (by omega) n0 n1 (by omega)
  have c:¬i<n:=by omega
  exact⟨r,Ev.step (fun k=>by simp only [lJ.l0,if_neg c]<;>exact rfl) r1,by unfold ny at*;omega⟩
 |succ d ih=>
  intro i p n E hi i0 h0 h1 n0 n1 hE
  by_cases c:i<n
  ·obtain⟨v,v1,_⟩:=qL s hs hl p i h0 (by omega)
   obtain⟨m',F,t,a1,a2,a3⟩:=vQ n i v E (by omega)
   obtain⟨r,r1,r2⟩:=ih (i+1) (p+1) m' F (by omega) (by omega) (by omega) (by omega) (by omega) (by omega) (by omega)
   refine⟨r,Ev.step (fun k=>by simp only [lJ.l0,if_pos c,w64 (x:=i+1) (by omega) (by omega)]<;>exact rfl) (Ev.bind v1 (Ev.bind a1 r1)),by unfold ny at*;omega⟩
  obtain⟨r,r1,r2⟩:=wR s hs hl p n E h0 (by omega) n0 n1 (by omega)
  exact⟨r,Ev.step (fun k=>by simp only [lJ.l0,if_neg c]<;>exact rfl) r1,by unfold ny at*;omega⟩
theorem IQ (s:List Int) (hs:rU s) (hl:s.length<=2000):∀ (d:Nat) (i p n:Int) (E:List S59),i+d=9->0<=i->0<=p->p<=70000->0<=n->n<=8->(E.length:Int)<=i->
  ∃r,Ev (fun k=>lJ.l1 k i s p n E) r/\ny 0 8 40 (30+d) p r:=by
 intro d
 induction d with
 |zero=>
  intro i p n E hi i0 h0 h1 n0 n1 hE
  obtain⟨r,r1,r2⟩:=wR s hs hl p n E h0 (by omega) n0 n1 (by omega)
  have c:¬i<n:=by omega
  exact⟨r,Ev.step (fun k=>by simp only [lJ.l1,if_neg c]<;>exact rfl) r1,by unfold ny at*;omega⟩
 |succ d ih=>
  intro i p n E hi i0 h0 h1 n0 n1 hE
  by_cases c:i<n
  ·by_cases c2:n>2
   ·have c3:¬n=0:=by omega
    obtain⟨m',F,t,a1,a2,a3⟩:=vQ n i (Int.tmod (i+1) n) E (by omega)
    obtain⟨r,r1,r2⟩:=ih (i+1) p m' F (by omega) (by omega) (by omega) (by omega) (by omega) (by omega) (by omega)
    refine⟨r,Ev.step (fun k=>by simp only [lJ.l1,if_pos c,if_pos c2,if_neg c3,w64 (x:=i+1) (by omega) (by omega)]<;>exact rfl) (Ev.bind a1 r1),by unfold ny at*;omega⟩
   obtain⟨r,r1,r2⟩:=wR s hs hl p n E h0 (by omega) n0 n1 (by omega)
   exact⟨r,Ev.step (fun k=>by simp only [lJ.l1,if_pos c,if_neg c2]<;>exact rfl) r1,by unfold ny at*;omega⟩
  obtain⟨r,r1,r2⟩:=wR s hs hl p n E h0 (by omega) n0 n1 (by omega)
  exact⟨r,Ev.step (fun k=>by simp only [lJ.l1,if_neg c]<;>exact rfl) r1,by unfold ny at*;omega⟩
theorem IM (s:List Int) (hs:rU s) (hl:s.length<=2000) (p:Int) (h0:0<=p) (h1:p<=60000):
  ∃r,Ev (fun k=>lJ.f k s p) r/\ny 0 8 40 50 p r:=by
 obtain⟨v,v1,v2,v3⟩:=qL s hs hl p 8 h0 (by omega)
 obtain⟨u,u1,u2,u3⟩:=qL s hs hl (p+1) 6 (by omega) (by omega)
 have w:wrap64 (1+v)=1+v:=w64 (by omega) (by omega)
 unfold lJ.f
 by_cases c:u=0
 ·obtain⟨r,r1,r2⟩:=IP s hs hl 8 1 (p+1+1) (1+v) [] (by omega) (by omega) (by omega) (by omega) (by omega) (by omega) (by simp)
  refine⟨r,Ev.bind v1 (Ev.bind u1 ?_),by unfold ny at*;omega⟩
  simp only [w,if_pos c]
  exact r1
 by_cases d:u=1
 ·obtain⟨r,r1,r2⟩:=IQ s hs hl 9 0 (p+1+1) (1+v) [] (by omega) (by omega) (by omega) (by omega) (by omega) (by omega) (by simp)
  refine⟨r,Ev.bind v1 (Ev.bind u1 ?_),by unfold ny at*;omega⟩
  simp only [w,if_neg c,if_pos d]
  exact r1
 obtain⟨r,r1,r2⟩:=wR s hs hl (p+1+1) (1+v) [] (by omega) (by omega) (by omega) (by omega) (by simp)
 refine⟨r,Ev.bind v1 (Ev.bind u1 ?_),by unfold ny at*;omega⟩
 simp only [w,if_neg c,if_neg d]
 exact r1
theorem LC (s:List Int) (hs:rU s) (hl:s.length<=2000) (p n:Int) (E:List S59) (h0:0<=p) (h1:p<=70000) (n0:0<=n) (n1:n<=8) (hE:E.length<=40):
  ∃r,Ev (fun k=>om.f k s p n E) r/\ny (-1) 9 50 5 p r:=by
 obtain⟨v,v1,v2,v3⟩:=qL s hs hl p 6 h0 (by omega)
 have q8:E.length<8796093022208:=by omega
 have q9:([(⟨-1,0⟩:S59)]:List S59).length+E.length<8796093022208:=by simp;omega
 unfold om.f
 simp only [xR n E (by omega),Option.bind_some,if_pos q8,if_pos q9]
 by_cases c0:v=0
 ·obtain⟨u,u1,u2,u3⟩:=qL s hs hl (p+1) 5 (by omega) (by omega)
  have g:u<((([(-1),0,1,8,9]:List Int)).length:Int):=by show u<5;omega
  have b: -1<=rd [(-1),0,1,8,9] u/\rd [(-1),0,1,8,9] u<=9:=by
   have:u=0\/u=1\/u=2\/u=3\/u=4:=by omega
   rcases this with rfl|rfl|rfl|rfl|rfl<;>decide
  refine⟨(rd [(-1),0,1,8,9] u,E,p+1+1),Ev.bind v1 ?_,by simp[ny];omega⟩
  simp only [if_pos c0]
  refine Ev.bind u1 ?_
  simp only [if_pos u2,if_pos g]
  exact Ev.val rfl
 by_cases c1:v=1
 ·obtain⟨u,u1,u2,u3⟩:=qL s hs hl (p+1) 3 (by omega) (by omega)
  obtain⟨t,t1,t2,t3⟩:=qL s hs hl (p+1+1) 3 (by omega) (by omega)
  refine⟨(n,E++[⟨u,t⟩],p+1+1+1),Ev.bind v1 ?_,by simp[ny];omega⟩
  simp only [if_neg c0,if_pos c1]
  exact Ev.bind u1 (Ev.bind t1 (Ev.val rfl))
 by_cases c2:v=2
 ·refine⟨(n,E++[⟨wrap64 (n - 1),n⟩],p+1),Ev.bind v1 ?_,by simp[ny];omega⟩
  simp only [if_neg c0,if_neg c1,if_pos c2]
  exact Ev.val rfl
 by_cases c3:v=3
 ·by_cases d:(E.length:Int)>0
  ·obtain⟨u,u1,u2,u3⟩:=qL s hs hl (p+1) (E.length:Int) (by omega) (by omega)
   have g:u<(E.length:Int):=by omega
   refine⟨(n,E.set u.toNat ⟨(jQ E u).f1,(jQ E u).f0⟩,p+1+1),Ev.bind v1 ?_,by simp[ny];omega⟩
   simp only [if_neg c0,if_neg c1,if_neg c2,if_pos c3,if_pos d]
   refine Ev.bind u1 ?_
   simp only [if_pos u2,if_pos g]
   exact Ev.val rfl
  refine⟨(n,E,p+1),Ev.bind v1 ?_,by simp[ny];omega⟩
  simp only [if_neg c0,if_neg c1,if_neg c2,if_pos c3,if_neg d]
  exact Ev.val rfl
 by_cases c4:v=4
 ·by_cases d:(E.length:Int)>1
  ·have d0:0<(E.length:Int):=by omega
   refine⟨(n,E++[⟨(jQ E 0).f0,(jQ E 0).f1⟩],p+1),Ev.bind v1 ?_,by simp[ny];omega⟩
   simp only [if_neg c0,if_neg c1,if_neg c2,if_neg c3,if_pos c4,if_pos d,if_pos d0]
   exact Ev.val rfl
  refine⟨(n,E,p+1),Ev.bind v1 ?_,by simp[ny];omega⟩
  simp only [if_neg c0,if_neg c1,if_neg c2,if_neg c3,if_pos c4,if_neg d]
  exact Ev.val rfl
 refine⟨(n,[⟨-1,0⟩]++E,p+1),Ev.bind v1 ?_,by simp[ny];omega⟩
 simp only [if_neg c0,if_neg c1,if_neg c2,if_neg c3,if_neg c4]
 exact Ev.val rfl
theorem Hm (s:List Int) (hs:rU s) (hl:s.length<=2000) (p:Int) (h0:0<=p) (h1:p<=60000):
  ∃r,Ev (fun k=>wz.f k s p) r/\ny (-1) 9 50 60 p r:=by
 obtain⟨⟨n,E,q⟩,r1,r2⟩:=IM s hs hl p h0 h1
 simp only [ny]at r2
 obtain⟨v,v1,v2,v3⟩:=qL s hs hl q 12 (by omega) (by omega)
 unfold wz.f
 by_cases c:v=0
 ·obtain⟨r,s1,s2⟩:=LC s hs hl (q+1) n E (by omega) (by omega) (by omega) (by omega) (by omega)
  refine⟨r,Ev.bind r1 (Ev.bind v1 ?_),by unfold ny at*;omega⟩
  simp only [if_pos c]
  exact Ev.bind s1 (Ev.val rfl)
 refine⟨(n,E,q+1),Ev.bind r1 (Ev.bind v1 ?_),by simp[ny];omega⟩
 simp only [if_neg c]
 exact Ev.val rfl
theorem Lh (s:List Int) (hs:rU s) (hl:s.length<=2000):∀ (d:Nat) (p n:Int) (E:List S59),d<=20->0<=p->p<=50000 - 2*d->0<=n->n<=8->E.length+d<=55->
  ∃r,Ev (fun k=>mq.l2 k (d:Int) s p n E) r/\ny (-1) 9 60 (100+2*d) p r:=by
 intro d
 induction d with
 |zero=>
  intro p n E hd h0 h1 n0 n1 hE
  have c:¬ (0:Int)>0:=by omega
  obtain⟨v,v1,v2,v3⟩:=qL s hs hl p 8 h0 (by omega)
  by_cases z:v=0
  ·obtain⟨⟨m,F,q⟩,r1,r2⟩:=Hm s hs hl (p+1) (by omega) (by omega)
   refine⟨(m,F,q),Ev.step (fun k=>by simp only [mq.l2,Int.natCast_zero,if_neg c]<;>exact rfl) (Ev.bind v1 ?_),by unfold ny at*;omega⟩
   simp only [if_pos z]
   exact Ev.bind r1 (Ev.val rfl)
  refine⟨(n,E,p+1),Ev.step (fun k=>by simp only [mq.l2,Int.natCast_zero,if_neg c]<;>exact rfl) (Ev.bind v1 ?_),by simp[ny];omega⟩
  simp only [if_neg z]
  exact Ev.val rfl
 |succ d ih=>
  intro p n E hd h0 h1 n0 n1 hE
  have c:((d+1:Nat):Int)>0:=by omega
  have w:wrap64 (((d+1:Nat):Int) - 1)=(d:Int):=by rw[w64 (by omega) (by omega)];omega
  obtain⟨v,v1,_⟩:=qL s hs hl p n h0 (by omega)
  obtain⟨u,u1,_⟩:=qL s hs hl (p+1) n (by omega) (by omega)
  obtain⟨m',F,t,a1,a2,a3⟩:=vQ n v u E (by omega)
  cases t with
  |true=>
   obtain⟨r,r1,r2⟩:=ih (p+1+1) m' F (by omega) (by omega) (by omega) (by omega) (by omega) (by omega)
   refine⟨r,Ev.step (fun k=>by simp only [mq.l2,if_pos c,w]<;>exact rfl) (Ev.bind v1 (Ev.bind u1 (Ev.bind a1 ?_))),by unfold ny at*;omega⟩
   simp only [if_true];exact r1
  |false=>
   obtain⟨r,r1,r2⟩:=ih (p+1+1) n E (by omega) (by omega) (by omega) (by omega) (by omega) (by omega)
   refine⟨r,Ev.step (fun k=>by simp only [mq.l2,if_pos c,w]<;>exact rfl) (Ev.bind v1 (Ev.bind u1 (Ev.bind a1 ?_))),by unfold ny at*;omega⟩
   simp only [Bool.false_eq_true,if_false];exact r1
theorem Lg (s:List Int) (hs:rU s) (hl:s.length<=2000):∀ (d:Nat) (i p n:Int) (E:List S59),i+d=9->1<=i->0<=p->p<=40000 - 2*d->0<=n->n<=8->(E.length:Int)<=2*i->
  ∃r,Ev (fun k=>mq.l1 k i s p n E) r/\ny (-1) 9 60 (120+2*d) p r:=by
 have done:∀ (i p n:Int) (E:List S59),¬i<n->i<=9->0<=p->p<=40000->0<=n->n<=8->(E.length:Int)<=2*i->∃r,Ev (fun k=>mq.l1 k i s p n E) r/\ny (-1) 9 60 120 p r:=by
  intro i p n E c i9 h0 h1 n0 n1 hE
  obtain⟨v,v1,v2,v3⟩:=qL s hs hl p 5 h0 (by omega)
  obtain⟨r,r1,r2⟩:=Lh s hs hl v.toNat (p+1) n E (by omega) (by omega) (by omega) n0 n1 (by omega)
  rw[Int.toNat_of_nonneg v2]at r1
  exact⟨r,Ev.step (fun k=>by simp only [mq.l1,if_neg c]<;>exact rfl) (Ev.bind v1 r1),by unfold ny at*;omega⟩
 intro d
 induction d with
 |zero=>
  intro i p n E hi i1 h0 h1 n0 n1 hE
  obtain⟨r,r1,r2⟩:=done i p n E (by omega) (by omega) h0 (by omega) n0 n1 hE
  exact⟨r,r1,by unfold ny at*;omega⟩
 |succ d ih=>
  intro i p n E hi i1 h0 h1 n0 n1 hE
  by_cases c:i<n
  ·obtain⟨v,v1,v2,v3⟩:=qL s hs hl p i h0 (by omega)
   obtain⟨m',F,t,a1,a2,a3⟩:=vQ n i v E (by omega)
   obtain⟨u,u1,u2,u3⟩:=qL s hs hl (p+1) (wrap64 (i - 1)) (by omega) (by omega)
   have i0:¬i=0:=by omega
   obtain⟨m2,F2,t2,b1,b2,b3⟩:=vQ m' i (Int.tmod (wrap64 ((wrap64 (v+1))+u)) i) F (by omega)
   have w:wrap64 (i+1)=i+1:=w64 (by omega) (by omega)
   obtain⟨r,r1,r2⟩:=ih (i+1) (p+1+1) m2 F2 (by omega) (by omega) (by omega) (by omega) (by omega) (by omega) (by omega)
   refine⟨r,Ev.step (fun k=>by simp only [mq.l1,if_pos c]<;>exact rfl) (Ev.bind v1 (Ev.bind a1 (Ev.bind u1 ?_))),by unfold ny at*;omega⟩
   simp only [if_neg i0,w]
   exact Ev.bind b1 r1
  obtain⟨r,r1,r2⟩:=done i p n E c (by omega) h0 (by omega) n0 n1 hE
  exact⟨r,r1,by unfold ny at*;omega⟩
theorem Lf (s:List Int) (hs:rU s) (hl:s.length<=2000) (m:Int) (m1:1<=m) (m8:m<=8) (p:Int) (h0:0<=p) (h1:p<=30000):∀ (d:Nat) (i n:Int) (E:List S59),i+d=m->0<=i->0<=n->n<=8->(E.length:Int)<=i->
  ∃r,Ev (fun k=>mq.l0 k m i s p n E) r/\ny (-1) 9 60 150 p r:=by
 intro d
 induction d with
 |zero=>
  intro i n E hi i0 n0 n1 hE
  have c:¬i<m:=by omega
  obtain⟨r,r1,r2⟩:=Lg s hs hl (9 - m).toNat m p n E (by omega) m1 h0 (by omega) n0 n1 (by omega)
  exact⟨r,Ev.step (fun k=>by simp only [mq.l0,if_neg c]<;>exact rfl) r1,by unfold ny at*;omega⟩
 |succ d ih=>
  intro i n E hi i0 n0 n1 hE
  have c:i<m:=by omega
  have mz:¬m=0:=by omega
  have w:wrap64 (i+1)=i+1:=w64 (by omega) (by omega)
  obtain⟨m',F,t,a1,a2,a3⟩:=vQ n i (Int.tmod (i+1) m) E (by omega)
  obtain⟨r,r1,r2⟩:=ih (i+1) m' F (by omega) (by omega) (by omega) (by omega) (by omega)
  exact⟨r,Ev.step (fun k=>by simp only [mq.l0,if_pos c,if_neg mz,w]<;>exact rfl) (Ev.bind a1 r1),r2⟩
theorem Le (s:List Int) (hs:rU s) (hl:s.length<=2000) (p:Int) (h0:0<=p) (h1:p<=20000):∃r,Ev (fun k=>mq.f k s p) r/\ny (-1) 9 60 160 p r:=by
 obtain⟨v,v1,v2,v3⟩:=qL s hs hl p 6 h0 (by omega)
 have w1:wrap64 (3+v)=3+v:=w64 (by omega) (by omega)
 have w2:wrap64 ((3+v) - 2)=3+v - 2:=w64 (by omega) (by omega)
 obtain⟨u,u1,u2,u3⟩:=qL s hs hl (p+1) (3+v - 2) (by omega) (by omega)
 have w3:wrap64 (3+u)=3+u:=w64 (by omega) (by omega)
 obtain⟨r,r1,r2⟩:=Lf s hs hl (3+u) (by omega) (by omega) (p+1+1) (by omega) (by omega) (3+u).toNat 0 (3+v) [] (by omega) (Int.le_refl _) (by omega) (by omega) (by simp)
 refine⟨r,?_,by unfold ny at*;omega⟩
 unfold mq.f
 refine Ev.bind v1 ?_
 simp only [w1,w2]
 refine Ev.bind u1 ?_
 simp only [w3]
 exact r1
end Go.Proofs.Ytgeonpciodepgaa.P
namespace Go.Proofs.Ytgeonpciodepgaa.G
open Go.RowKit Go.Proofs.YtgeonpciodepgaaW.PrintWords
inductive mh (E:List Tie):Int->Int->Prop
 |refl (a:Int):mh E a a
 |step {a b c:Int}:mh E a b->kS b c∈E->mh E a c
theorem mh.one {E:List Tie}{a b:Int}(h:kS a b∈E):mh E a b:=.step (.refl a) h
theorem mh.trans {E:List Tie}{a b c:Int}(h:mh E a b) (k:mh E b c):mh E a c:=by
 induction k with
 |refl=>exact h
 |step _ t ih=>exact .step ih t
theorem mh.symm {E:List Tie}{a b:Int}(h:mh E a b):mh E b a:=by
 induction h with
 |refl=>exact .refl _
 |step _ t ih=>exact(mh.one (yx _ _▸t)).trans ih
theorem mh.mono {E F:List Tie}{a b:Int}(h:mh E a b) (hs:∀t∈E,t∈F):mh F a b:=by
 induction h with
 |refl=>exact .refl _
 |step _ t ih=>exact .step ih (hs _ t)
theorem mh.closed {E:List Tie}{a b:Int}(h:mh E a b) (p:Int->Prop) (ha:p a) (hc:∀x y,p x->kS x y∈E->p y):p b:=by
 induction h with
 |refl=>exact ha
 |step _ t ih=>exact hc _ _ ih t
theorem mh.range {n:Int}{E:List Tie}(hE:∀t∈E,inr n t) {a b:Int}(h:mh E a b) (ha:0<=a/\a<n):0<=b/\b<n:=
 h.closed (fun x=>0<=x/\x<n) ha (fun _ _ _ ht=>(o9 (hE _ ht)).2.1)
theorem mh.tie {E:List Tie}{t:Tie}(ht:t∈E) (h:t.f0<t.f1):mh E t.f0 t.f1:=mh.one (by rw[LQ h];exact ht)
def EvP (g:Nat->Option Bool) (P:Prop):Prop:=∃b:Bool,Ev g b/\(b=true↔P)
theorem EvP.of {g:Nat->Option Bool}{P:Prop} [Decidable P] (h:Ev g (decide P)):EvP g P:=⟨_,h,by simp⟩
theorem EvP.iff {g:Nat->Option Bool}{P Q:Prop}(h:EvP g P) (e:P↔Q):EvP g Q:=by
 obtain⟨b,h1,h2⟩:=h
 exact⟨b,h1,h2.trans e⟩
theorem EvP.step {g f:Nat->Option Bool}{P:Prop}(h:∀k,g (k+1)=f k) (k:EvP f P):EvP g P:=by
 obtain⟨b,h1,h2⟩:=k
 exact⟨b,Ev.step h h1,h2⟩
theorem EvP.bind {α:Type}{g:Nat->Option α}{f:Nat->α->Option Bool}{a:α}{P:Prop}(h:Ev g a) (k:EvP (fun n=>f n a) P):EvP (fun n=>(g n).bind (f n)) P:=by
 obtain⟨b,h1,h2⟩:=k
 exact⟨b,Ev.bind h h1,h2⟩
theorem EvP.same {g f:Nat->Option Bool}{P:Prop}(h:EvP g P) (k:EvP f P):∃b,Ev g b/\Ev f b:=by
 obtain⟨b,h1,h2⟩:=h
 obtain⟨c,k1,k2⟩:=k
 have:b=c:=by
  rw[Bool.eq_iff_iff];exact h2.trans k2.symm
 exact⟨b,h1,this▸k1⟩
theorem tQ {α:Type} [DecidableEq α]:∀ {l m:List α},l.Nodup->(∀x∈l,x∈m)->l.length<=m.length
 |[],m,_,_=>Nat.zero_le _
 |a::l,m,h,hs=>by
  obtain⟨h1,h2⟩:=List.nodup_cons.1 h
  have ha:a∈m:=hs a (List.mem_cons_self)
  have:l.length<=(m.erase a).length:=tQ h2 (fun x hx=>(List.mem_erase_of_ne (fun(e:x=a)=>h1 (by rw[←e];exact hx))).2 (hs x (List.mem_cons_of_mem _ hx)))
  rw[List.length_erase_of_mem ha]at this
  have:0<m.length:=List.length_pos_of_mem ha
  simp only [List.length_cons]
  omega
theorem BL {α:Type} [DecidableEq α] {l m:List α}(hl:l.Nodup) (hm:m.Nodup) (h:∀x,x∈l↔x∈m):l.length=m.length:=
 Nat.le_antisymm (tQ hl (fun x hx=>(h x).1 hx)) (tQ hm (fun x hx=>(h x).2 hx))
theorem FD {α β:Type}(f:α->β):∀ {l:List α},l.Nodup->(∀x∈l,∀y∈l,f x=f y->x=y)->(l.map f).Nodup
 |[],_,_=>by simp
 |a::l,h,hf=>by
  obtain⟨h1,h2⟩:=List.nodup_cons.1 h
  rw[List.map_cons,List.nodup_cons]
  refine⟨fun hm=>?_,FD f h2 (fun x hx y hy=>hf x (List.mem_cons_of_mem _ hx) y (List.mem_cons_of_mem _ hy))⟩
  obtain⟨y,hy,e⟩:=List.mem_map.1 hm
  have:=hf a (List.mem_cons_self) y (List.mem_cons_of_mem _ hy) e.symm
  exact h1 (this▸hy)
def ni (n:Int):List Int:=(List.range n.toNat).map fun(i:Nat)=>(i:Int)
theorem qy {n v:Int}:v∈ni n↔0<=v/\v<n:=by
 unfold ni
 rw[List.mem_map]
 constructor
 ·rintro⟨i,hi,rfl⟩
  have:=List.mem_range.1 hi
  omega
 rintro⟨h0,h1⟩
 exact⟨v.toNat,List.mem_range.2 (by omega),by omega⟩
theorem Fa (n:Int):(ni n).Nodup:=FD _ List.nodup_range (fun x _ y _ e=>Int.ofNat.inj e)
theorem rf (n:Int):(ni n).length=n.toNat:=by simp[ni]
theorem zL {n:Int}(h:0<=n):ni (n+1)=ni n++[n]:=by
 unfold ni
 have:(n+1).toNat=n.toNat+1:=by omega
 rw[this,List.range_succ,List.map_append]
 simp
 omega
def next (n:Int) (E:List Tie) (v:Int):List Int:=(ni n).filter fun i=>decide (kS v i∈E)
theorem rF {n v i:Int}{E:List Tie}(hE:∀t∈E,inr n t):i∈next n E v↔kS v i∈E:=by
 unfold next
 rw[List.mem_filter,qy]
 simp only [decide_eq_true_eq]
 exact⟨fun h=>h.2,fun h=>⟨(o9 (hE _ h)).2.1,h⟩⟩
end Go.Proofs.Ytgeonpciodepgaa.G
namespace Go.Proofs.Ytgeonpciodepgaa.G
def rz:List Int->List Int->Prop
 |[],[]=>False
 |[],_::_=>True
 |_::_,[]=>False
 |x::a,y::b=>x<y\/x=y/\rz a b
instance J7:(a b:List Int)->Decidable (rz a b)
 |[],[]=>isFalse (fun h=>h)
 |[],_::_=>isTrue trivial
 |_::_,[]=>isFalse (fun h=>h)
 |x::a,y::b=>by
  have:=J7 a b
  unfold rz
  infer_instance
theorem Bz:∀a:List Int,¬rz a a
 |[],h=>h
 |x::a,h=>by
  rcases h with h|h
  ·omega
  exact Bz a h.2
theorem BA:∀ {a b c:List Int},rz a b->rz b c->rz a c
 |[],[],_,h,_=>h.elim
 |[],_::_,[],_,k=>k.elim
 |[],_::_,_::_,_,_=>trivial
 |_::_,[],_,h,_=>h.elim
 |_::_,_::_,[],_,k=>k.elim
 |x::a,y::b,z::c,h,k=>by
  rcases h with h|⟨rfl,h⟩
  ·rcases k with k|⟨rfl,k⟩
   ·exact .inl (by omega)
   exact .inl h
  rcases k with k|⟨rfl,k⟩
  ·exact .inl k
  exact .inr ⟨rfl,BA h k⟩
theorem BC:∀a b:List Int,rz a b\/a=b\/rz b a
 |[],[]=> .inr (.inl rfl)
 |[],_::_=> .inl trivial
 |_::_,[]=> .inr (.inr trivial)
 |x::a,y::b=>by
  rcases Int.lt_trichotomy x y with h|h|h
  ·exact .inl (.inl h)
  ·subst h
   rcases BC a b with h|h|h
   ·exact .inl (.inr ⟨rfl,h⟩)
   ·exact .inr (.inl (by rw[h]))
   exact .inr (.inr (.inr ⟨rfl,h⟩))
  exact .inr (.inr (.inl h))
def wlt (a b:List Int):Prop:=a.length<b.length\/a.length=b.length/\rz a b
instance(a b:List Int):Decidable (wlt a b):=by unfold wlt;infer_instance
theorem z_ (a:List Int):¬wlt a a:=by
 rintro(h|h)
 ·omega
 exact Bz a h.2
theorem Cm {a b c:List Int}(h:wlt a b) (k:wlt b c):wlt a c:=by
 rcases h with h|⟨h,h2⟩
 ·rcases k with k|⟨k,_⟩
  ·exact .inl (by omega)
  exact .inl (by omega)
 rcases k with k|⟨k,k2⟩
 ·exact .inl (by omega)
 exact .inr ⟨by omega,BA h2 k2⟩
theorem Cn (a b:List Int):wlt a b\/a=b\/wlt b a:=by
 rcases Nat.lt_trichotomy a.length b.length with h|h|h
 ·exact .inl (.inl h)
 ·rcases BC a b with k|k|k
  ·exact .inl (.inr ⟨h,k⟩)
  ·exact .inr (.inl k)
  exact .inr (.inr (.inr ⟨h.symm,k⟩))
 exact .inr (.inr (.inl h))
def ww (l:List (List Int)):List (List Int):=l.mergeSort fun a b=> !decide (wlt b a)
theorem yo (l:List (List Int)):(ww l).Perm l:=List.mergeSort_perm l _
theorem F8 (l:List (List Int)):(ww l).Pairwise fun a b=>¬wlt b a:=by
 have:=List.pairwise_mergeSort (le:=fun a b=> !decide (wlt b a)) (fun a b c h1 h2=>by
  simp only [Bool.not_eq_true',decide_eq_false_iff_not]at*
  intro h
  rcases Cn a b with x|x|x
  ·exact h2 (Cm h x)
  ·subst x;exact h2 h
  ·exact h1 x) (fun a b=>by
  rcases Cn a b with x|x|x
  ·have:¬wlt b a:=fun k=>z_ _ (Cm x k)
   simp[this]
  ·subst x;simp[z_]
  have:¬wlt a b:=fun k=>z_ _ (Cm x k)
  simp[this]) l
 exact this.imp (fun{a b} h=>by simpa using h)
theorem Lu {l:List (List Int)}{p:List Int}(hp:p∈l) (hm:∀q∈l,¬wlt q p):∃r,ww l=p::r:=by
 have h1:=F8 l
 have h2:=(yo l).mem_iff (a:=p)
 cases e:ww l with
 |nil=>rw[e]at h2;exact absurd (h2.2 hp) (by simp)
 |cons h r=>
  rw[e]at h1 h2
  have hh:h∈l:=(yo l).mem_iff.1 (by rw[e];simp)
  rcases Cn p h with x|x|x
  ·rcases List.mem_cons.1 (h2.2 hp) with q|q
   ·rw[q];exact⟨r,rfl⟩
   exact absurd x ((List.pairwise_cons.1 h1).1 p q)
  ·rw[x];exact⟨r,rfl⟩
  exact absurd x (hm h hh)
theorem Lt {l r:List (List Int)}{p:List Int}(h:ww l=p::r):p∈l/\∀q∈l,¬wlt q p:=by
 have h1:=F8 l
 rw[h]at h1
 refine⟨(yo l).mem_iff.1 (by rw[h];simp),fun q hq=>?_⟩
 have:q∈p::r:=by rw[←h];exact(yo l).mem_iff.2 hq
 rcases List.mem_cons.1 this with e|e
 ·rw[e];exact z_ p
 exact(List.pairwise_cons.1 h1).1 q e
structure rT (E:List Tie) (a b:Int) (p:List Int):Prop where
 head:p.head? =some a
 last:p.getLast? =some b
 ties:∀t∈ties p,t∈E
 nodup:p.Nodup
def uz (n:Int) (E:List Tie) (tgt:Int):Nat->List Int->Int->List (List Int)
 |0,_,_=>[]
 |d+1,pre,v=>if v=tgt then[pre++[v]] else((next n E v).filter fun k=> !decide (k∈pre++[v])).flatMap fun k=>uz n E tgt d (pre++[v]) k
theorem Fw {n tgt:Int}{E:List Tie}(hE:∀t∈E,inr n t):∀ (d:Nat) (pre:List Int) (v:Int) (p:List Int),p∈uz n E tgt d pre v->(pre++[v]).Nodup->
  ∃ext,p=pre++v::ext/\(∀t∈ties (v::ext),t∈E)/\(v::ext).getLast? =some tgt/\p.Nodup
 |0,pre,v,p,h,_=>by simp[uz]at h
 |d+1,pre,v,p,h,hn=>by
  unfold uz at h
  by_cases c:v=tgt
  ·rw[if_pos c,List.mem_singleton]at h
   exact⟨[],h,by simp[ties],by simp[c],h▸hn⟩
  rw[if_neg c,List.mem_flatMap]at h
  obtain⟨k,hk,h⟩:=h
  rw[List.mem_filter,rF hE]at hk
  have hk2:k∉pre++[v]:=by simpa using hk.2
  have hn2:((pre++[v])++[k]).Nodup:=by
   rw[List.nodup_append]
   exact⟨hn,by simp,fun a ha b hb e=>by rw[List.mem_singleton]at hb;subst hb;subst e;exact hk2 ha⟩
  obtain⟨ext,e,ht,hl,hd⟩:=Fw hE d (pre++[v]) k p h hn2
  refine⟨k::ext,by rw[e];simp,fun t ht2=>?_,?_,hd⟩
  ·simp only [ties,List.mem_cons]at ht2
   rcases ht2 with rfl|ht2
   ·exact hk.1
   exact ht t ht2
  rw[List.getLast?_cons_cons];exact hl
theorem Gq {n tgt:Int}{E:List Tie}(hE:∀t∈E,inr n t):∀ (d:Nat) (pre:List Int) (v:Int) (ext:List Int),(∀t∈ties (v::ext),t∈E)->(v::ext).getLast? =some tgt->(pre++v::ext).Nodup->ext.length<d->
  pre++v::ext∈uz n E tgt d pre v
 |0,_,_,_,_,_,_,h=>absurd h (Nat.not_lt_zero _)
 |d+1,pre,v,[],_,hl,_,_=>by
  have:v=tgt:=by simpa using hl
  unfold uz
  rw[if_pos this];simp
 |d+1,pre,v,k::ext,ht,hl,hn,hd=>by
  have c:v≠tgt:=by
   intro c
   rw[List.getLast?_cons_cons]at hl
   have h1:=List.mem_of_getLast? hl
   rw[List.nodup_append]at hn
   exact(List.nodup_cons.1 hn.2.1).1 (c▸h1)
  unfold uz
  rw[if_neg c,List.mem_flatMap]
  have e:pre++v::k::ext=(pre++[v])++k::ext:=by simp
  refine⟨k,?_,?_⟩
  ·rw[List.mem_filter,rF hE]
   refine⟨ht _ (by simp[ties]),?_⟩
   rw[e,List.nodup_append]at hn
   have:k∉pre++[v]:=fun h=>hn.2.2 k h k (by simp) rfl
   simpa using this
  rw[e]at hn⊢
  exact Gq hE d (pre++[v]) k ext (fun t h=>ht t (by simp[ties,h])) (by rw[List.getLast?_cons_cons]at hl;exact hl) hn (by simp at hd;omega)
def uf (n:Int) (E:List Tie) (a b:Int):List (List Int):=ww (uz n E b 9 [] a)
theorem L9 {n a b:Int}{E:List Tie}(hE:∀t∈E,inr n t) (ha:0<=a/\a<n) {p:List Int}(h:rT E a b p):∀v∈p,0<=v/\v<n:=by
 cases p with
 |nil=>simp
 |cons x r=>
  have:x=a:=by have:=h.head;simpa using this
  subst this
  exact Cf hE r x ha h.ties
theorem L_ {n a b:Int}{E:List Tie}(hE:∀t∈E,inr n t) (ha:0<=a/\a<n) {p:List Int}(h:rT E a b p):(p.length:Int)<=n:=by
 have:=tQ h.nodup (fun x hx=>qy.2 (L9 hE ha h x hx))
 rw[rf]at this
 omega
theorem zQ {n a b:Int}{E:List Tie}(h8:n<=8) (hE:∀t∈E,inr n t) (ha:0<=a/\a<n) {p:List Int}:p∈uz n E b 9 [] a↔rT E a b p:=by
 constructor
 ·intro h
  obtain⟨ext,e,ht,hl,hn⟩:=Fw hE 9 [] a p h (by simp)
  rw[List.nil_append]at e
  subst e
  exact⟨rfl,hl,ht,hn⟩
 intro h
 have hl:=L_ hE ha h
 cases p with
 |nil=>have:=h.head;simp at this
 |cons x r=>
  have:x=a:=by have:=h.head;simpa using this
  subst this
  exact Gq hE 9 [] x r h.ties h.last h.nodup (by simp at hl;omega)
theorem BI {n a b:Int}{E:List Tie}(h8:n<=8) (hE:∀t∈E,inr n t) (ha:0<=a/\a<n) {p:List Int}:p∈uf n E a b↔rT E a b p:=by
 unfold uf
 rw[(yo _).mem_iff,zQ h8 hE ha]
theorem Hl {n a b:Int}{E:List Tie}(h8:n<=8) (hE:∀t∈E,inr n t) (ha:0<=a/\a<n) {p:List Int}(hp:rT E a b p) (hm:∀q,rT E a b q->¬wlt q p):∃r,uf n E a b=p::r:=
 Lu ((zQ h8 hE ha).2 hp) (fun q hq=>hm q ((zQ h8 hE ha).1 hq))
theorem CS {n a b:Int}{E:List Tie}{p:List Int}(h:rT E a b p):mh E a b:=by
 obtain⟨h1,h2,h3,_⟩:=h
 have go:∀ (p:List Int) (a:Int),(a::p).getLast? =some b->(∀t∈ties (a::p),t∈E)->mh E a b:=by
  intro p
  induction p with
  |nil=>
   intro a h _
   have:a=b:=by simpa using h
   rw[this];exact .refl _
  |cons x p ih=>
   intro a h ht
   rw[List.getLast?_cons_cons]at h
   exact(mh.one (ht _ (by simp[ties]))).trans (ih x h (fun t q=>ht t (by simp[ties,q])))
 cases p with
 |nil=>simp at h1
 |cons x r=>
  have:x=a:=by simpa using h1
  subst this
  exact go r x h2 h3
structure Far (n:Int) (E:List Tie) (b:Int) (f:Int->Int):Prop where
 zero:f b=0
 only:∀v,0<=v->v<n->f v=0->v=b
 down:∀v,0<=v->v<n->0<f v->∃w,kS v w∈E/\f w=f v - 1
 near:∀v w,kS v w∈E->0<=f v->0<=f w/\f w<=f v+1
 lo:∀v,0<=v->v<n-> -1<=f v
def down (n:Int) (E:List Tie) (f:Int->Int):Nat->Int->List Int
 |0,v=>[v]
 |d+1,v=>v::down n E f d (((next n E v).find? fun w=>decide (f w=d)).getD 0)
theorem FC (n v:Int) (E:List Tie):(next n E v).Pairwise (· <·):=by
 unfold next ni
 refine List.Pairwise.sublist List.filter_sublist ?_
 rw[List.pairwise_map]
 exact List.pairwise_lt_range.imp (fun{a b} h=>by omega)
theorem Far.step {n b:Int}{E:List Tie}{f:Int->Int}(F:Far n E b f) (hE:∀t∈E,inr n t) {d:Nat}{v:Int}(hv:0<=v/\v<n) (hf:f v=(d+1:Nat)):
  ∃x,(next n E v).find? (fun w=>decide (f w=d))=some x/\kS v x∈E/\f x=d/\(0<=x/\x<n)/\∀w,kS v w∈E->f w=d->x<=w:=by
 obtain⟨w,h1,h2⟩:=F.down v hv.1 hv.2 (by omega)
 have hw:w∈next n E v:=(rF hE).2 h1
 cases e:(next n E v).find? (fun w=>decide (f w=d)) with
 |none=>
  rw[List.find?_eq_none]at e
  have:=e w hw
  simp at this
  omega
 |some x=>
  have hx:=List.mem_of_find?_eq_some e
  have hx2:=List.find?_some e
  simp only [decide_eq_true_eq]at hx2
  have ht:=(rF hE).1 hx
  refine⟨x,rfl,ht,hx2,(o9 (hE _ ht)).2.1,fun w h1 h2=>?_⟩
  obtain⟨_,ls,rs,e1,e2⟩:=List.find?_eq_some_iff_append.1 e
  have hw:w∈next n E v:=(rF hE).2 h1
  rw[e1,List.mem_append]at hw
  rcases hw with q|q
  ·have:=e2 w q
   simp[h2]at this
  rcases List.mem_cons.1 q with q|q
  ·omega
  have hs:=FC n v E
  rw[e1,List.pairwise_append]at hs
  have:=(List.pairwise_cons.1 hs.2.1).1 w q
  omega
theorem wS {n b:Int}{E:List Tie}{f:Int->Int}(F:Far n E b f) (hE:∀t∈E,inr n t):∀ (d:Nat) (v:Int),0<=v/\v<n->f v=(d:Int)->
  ∃r,down n E f d v=v::r/\r.length=d/\(v::r).getLast? =some b/\(∀t∈ties (v::r),t∈E)/\(∀x∈r,f x<d)/\(v::r).Nodup
 |0,v,hv,hf=>⟨[],rfl,rfl,by rw[F.only v hv.1 hv.2 hf];rfl,by simp[ties],by simp,by simp⟩
 |d+1,v,hv,hf=>by
  obtain⟨x,e,ht,hx,hr,_⟩:=F.step hE hv hf
  obtain⟨r,e1,e2,e3,e4,e5,e6⟩:=wS F hE d x hr hx
  refine⟨x::r,?_,by simp[e2],?_,?_,?_,?_⟩
  ·unfold down
   rw[e]
   simp only [Option.getD_some,e1]
  ·rw[List.getLast?_cons_cons];exact e3
  ·intro t h
   simp only [ties,List.mem_cons]at h
   rcases h with rfl|h
   ·exact ht
   exact e4 t h
  ·intro y hy
   rcases List.mem_cons.1 hy with rfl|hy
   ·omega
   have:=e5 y hy;omega
  rw[List.nodup_cons]
  refine⟨fun h=>?_,e6⟩
  rcases List.mem_cons.1 h with q|q
  ·rw[q]at hf;omega
  have:=e5 v q;omega
theorem Far.walk {n b:Int}{E:List Tie}{f:Int->Int}(F:Far n E b f):∀ (r:List Int) (v:Int),(v::r).getLast? =some b->(∀t∈ties (v::r),t∈E)->0<=f v/\f v<=(r.length:Int)
 |[],v,h,_=>by
  have:v=b:=by simpa using h
  rw[this,F.zero];simp
 |w::r,v,h,ht=>by
  rw[List.getLast?_cons_cons]at h
  have:=F.walk r w h (fun t q=>ht t (by simp[ties,q]))
  have:=F.near w v (by rw[yx];exact ht _ (by simp[ties])) (by omega)
  simp only [List.length_cons]
  omega
theorem EC {n b:Int}{E:List Tie}{f:Int->Int}(F:Far n E b f) (hE:∀t∈E,inr n t):∀ (d:Nat) (v:Int) (q:List Int),0<=v/\v<n->f v=(d:Int)->(v::q).getLast? =some b->(∀t∈ties (v::q),t∈E)->q.length<=d->
  q.length=d/\¬rz (v::q) (down n E f d v)
 |0,v,[],_,_,_,_,_=>⟨rfl,by simp[down,rz]⟩
 |0,v,_::_,_,_,_,_,h=>by simp at h
 |d+1,v,[],hv,hf,h,_,_=>by
  have:v=b:=by simpa using h
  rw[this,F.zero]at hf;omega
 |d+1,v,w::q,hv,hf,h,ht,hl=>by
  obtain⟨x,e,htx,hx,hr,hmin⟩:=F.step hE hv hf
  rw[List.getLast?_cons_cons]at h
  have hw:=F.walk q w h (fun t k=>ht t (by simp[ties,k]))
  have htw:kS v w∈E:=ht _ (by simp[ties])
  have h2:=F.near w v (by rw[yx];exact htw) (by omega)
  have hfw:f w=(d:Int):=by simp only [List.length_cons]at hl;omega
  obtain⟨a,b2⟩:=EC F hE d w q (o9 (hE _ htw)).2.1 hfw h (fun t k=>ht t (by simp[ties,k])) (by simp only [List.length_cons]at hl;omega)
  refine⟨by simp[a],?_⟩
  unfold down
  rw[e]
  simp only [Option.getD_some]
  intro k
  have hm:=hmin w htw hfw
  obtain⟨r,e1,_⟩:=wS F hE d x hr hx
  rcases k with k|⟨_,k⟩
  ·omega
  by_cases c:w=x
  ·subst c;exact b2 k
  rw[e1]at k
  rcases k with k|k
  ·omega
  exact c k.1
def vU (n:Int) (E:List Tie) (f:Int->Int) (a:Int):List Int:=down n E f (f a).toNat a
theorem Far.first {n a b:Int}{E:List Tie}{f:Int->Int}(F:Far n E b f) (hE:∀t∈E,inr n t) (ha:0<=a/\a<n) (h:0<=f a):rT E a b (vU n E f a)/\∀q,rT E a b q->¬wlt q (vU n E f a):=by
 obtain⟨r,e1,e2,e3,e4,e5,e6⟩:=wS F hE (f a).toNat a ha (by omega)
 unfold vU
 refine⟨⟨by rw[e1];rfl,by rw[e1];exact e3,by rw[e1];exact e4,by rw[e1];exact e6⟩,fun q hq k=>?_⟩
 cases q with
 |nil=>have:=hq.head;simp at this
 |cons x q=>
  have:x=a:=by have:=hq.head;simpa using this
  subst this
  have hl:q.length<=(f x).toNat:=by
   rw[e1]at k
   rcases k with k|k
   ·simp only [List.length_cons,e2]at k;omega
   have:=k.1;simp only [List.length_cons,e2]at this;omega
  obtain⟨l1,l2⟩:=EC F hE (f x).toNat x q ha (by omega) hq.last hq.ties hl
  rcases k with k|k
  ·rw[e1]at k;simp only [List.length_cons,e2]at k;omega
  exact l2 k.2
theorem Far.conn {n a b:Int}{E:List Tie}{f:Int->Int}(F:Far n E b f) (hE:∀t∈E,inr n t) (ha:0<=a/\a<n):0<=f a↔mh E a b:=by
 constructor
 ·intro h;exact CS (n:=n) (F.first hE ha h).1
 intro h
 refine h.symm.closed (fun x=>0<=f x) (by rw[F.zero];omega) (fun x y hx ht=>(F.near x y ht hx).1)
theorem EQ {n a b:Int}{E:List Tie}{f:Int->Int}(F:Far n E b f) (h8:n<=8) (hE:∀t∈E,inr n t) (ha:0<=a/\a<n) (h:0<=f a):∃r,uf n E a b=vU n E f a::r:=
 Hl h8 hE ha (F.first hE ha h).1 (F.first hE ha h).2
theorem Jj {n a b:Int}{E:List Tie}{f:Int->Int}(F:Far n E b f) (h8:n<=8) (hE:∀t∈E,inr n t) (ha:0<=a/\a<n) (h:¬0<=f a):uf n E a b=[]:=by
 rw[List.eq_nil_iff_forall_not_mem]
 intro p hp
 exact h ((F.conn hE ha).2 (CS (n:=n) ((BI h8 hE ha).1 hp)))
end Go.Proofs.Ytgeonpciodepgaa.G
namespace Go.Proofs.Ytgeonpciodepgaa.G
open Go.RowKit Go.Proofs.YtgeonpciodepgaaW.PrintWords
def xh (E:List Tie) (b:Int):Nat->Int->Prop
 |0,v=>v=b
 |k+1,v=>∃w,kS v w∈E/\xh E b k w
theorem xX {P:Nat->Prop}(h:∃k,P k):∃k,P k/\∀j,P j->k<=j:=by
 obtain⟨k,hk⟩:=h
 induction k using Nat.strongRecOn with
 |_ k ih=>
  by_cases c:∃j,j<k/\P j
  ·obtain⟨j,hj,hp⟩:=c
   exact ih j hj hp
  refine⟨k,hk,fun j hj=>?_⟩
  rcases Nat.lt_or_ge j k with h|h
  ·exact absurd ⟨j,h,hj⟩ c
  exact h
open Classical in
noncomputable def sV (E:List Tie) (b v:Int):Int:=if h:∃k,xh E b k v then((Classical.choose (xX h):Nat):Int) else -1
theorem zH {E:List Tie}{b v:Int}{k:Nat}(h:xh E b k v):0<=sV E b v/\sV E b v<=k:=by
 classical
 unfold sV
 rw[dif_pos ⟨k,h⟩]
 have:=(Classical.choose_spec (xX (⟨k,h⟩:∃k,xh E b k v))).2 k h
 omega
theorem zG {E:List Tie}{b v:Int}(h:0<=sV E b v):xh E b (sV E b v).toNat v:=by
 classical
 unfold sV at*
 by_cases c:∃k,xh E b k v
 ·rw[dif_pos c]at*
  exact(Classical.choose_spec (xX c)).1
 rw[dif_neg c]at h;omega
theorem Jg (n:Int) (E:List Tie) (b:Int):Far n E b (sV E b) where
 zero:=by have:=zH (E:=E) (b:=b) (v:=b) (k:=0) rfl;omega
 only:=fun v _ _ h=>by
  have:=zG (E:=E) (b:=b) (v:=v) (by omega)
  rw[h]at this;exact this
 down:=fun v _ _ h=>by
  have h1:=zG (E:=E) (b:=b) (v:=v) (by omega)
  obtain⟨k,e⟩:∃k:Nat,(sV E b v).toNat=k+1:=⟨(sV E b v).toNat - 1,by omega⟩
  rw[e]at h1
  obtain⟨w,ht,hw⟩:=h1
  have h2:=zH hw
  have h3:=zG h2.1
  have h4:=zH (k:=(sV E b w).toNat+1) (v:=v) ⟨w,ht,h3⟩
  exact⟨w,ht,by omega⟩
 near:=fun v w ht h=>by
  have h1:=zG h
  have h2:=zH (k:=(sV E b v).toNat+1) (v:=w) ⟨v,by rw[yx];exact ht,h1⟩
  omega
 lo:=fun v _ _=>by
  unfold sV
  split<;>omega
def found (n:Int) (E:List Tie) (a b:Int):List Int×Bool:=match uf n E a b with
 |[]=>([],false)
 |p::_=>(p,true)
theorem Jn {n a b:Int}{E:List Tie}{f:Int->Int}(F:Far n E b f) (h8:n<=8) (hE:∀t∈E,inr n t) (ha:0<=a/\a<n):found n E a b=if 0<=f a then(vU n E f a,true) else([],false):=by
 unfold found
 by_cases c:0<=f a
 ·obtain⟨r,e⟩:=EQ F h8 hE ha c
  rw[e,if_pos c]
 rw[Jj F h8 hE ha c,if_neg c]
theorem Jq {n a b:Int}{E:List Tie}(h8:n<=8) (hE:∀t∈E,inr n t) (ha:0<=a/\a<n) (h:mh E a b):∃p r,uf n E a b=p::r/\found n E a b=(p,true)/\rT E a b p:=by
 have F:=Jg n E b
 have c:=(F.conn hE ha).2 h
 obtain⟨r,e⟩:=EQ F h8 hE ha c
 refine⟨_,r,e,?_,(F.first hE ha c).1⟩
 unfold found
 rw[e]
theorem Jo {n a b:Int}{E:List Tie}(h8:n<=8) (hE:∀t∈E,inr n t) (ha:0<=a/\a<n) (h:(found n E a b).2=true):rT E a b (found n E a b).1:=by
 unfold found at*
 cases e:uf n E a b with
 |nil=>rw[e]at h;simp at h
 |cons p r=>exact(BI h8 hE ha).1 (by rw[e];simp)
end Go.Proofs.Ytgeonpciodepgaa.G
namespace Go.Proofs.Ytgeonpciodepgaa.G
theorem Ch:∀ (xs:List Int) (y a:Int),ties (xs++[y,a])=ties (xs++[y])++[kS y a]
 |[],y,a=>rfl
 |[x],y,a=>rfl
 |x::z::r,y,a=>by
  have:=Ch (z::r) y a
  show kS x z::ties (z::r++[y,a])=kS x z::ties (z::r++[y])++[kS y a]
  rw[this];rfl
def tu (ks:List Int) (v:Int):List Int:=if v∈ks then ks else ks++[v]
def nL (ks:List Int) (row:List Int):List Int:=row.foldl tu ks
theorem zM (ks:List Int) (v x:Int):x∈tu ks v↔x∈ks\/x=v:=by
 unfold tu;split
 ·rename_i h;exact⟨Or.inl,fun k=>k.elim id (fun e=>e▸h)⟩
 simp
theorem Kw {ks:List Int}(v:Int) (h:ks.Nodup):(tu ks v).Nodup:=by
 unfold tu;split
 ·exact h
 rename_i k
 rw[List.nodup_append]
 exact⟨h,by simp,fun x hx y hy e=>by rw[List.mem_singleton]at hy;subst hy;subst e;exact k hx⟩
theorem r9:∀ (row ks:List Int) (x:Int),x∈nL ks row↔x∈ks\/x∈row
 |[],ks,x=>by simp[nL]
 |v::r,ks,x=>by
  show x∈nL (tu ks v) r↔_
  rw[r9 r,zM];simp[or_assoc]
theorem x_:∀ (row:List Int) {ks:List Int},ks.Nodup->(nL ks row).Nodup
 |[],_,h=>h
 |v::r,_,h=>x_ r (Kw v h)
theorem CQ (ks p q:List Int):nL ks (p++q)=nL (nL ks p) q:=by unfold nL;rw[List.foldl_append]
theorem CR:∀ (row ks:List Int),(nL ks row).length<=ks.length+row.length
 |[],ks=>by simp[nL]
 |v::r,ks=>by
  have h:=CR r (tu ks v)
  have:(tu ks v).length<=ks.length+1:=by unfold tu;split<;>simp
  show(nL (tu ks v) r).length<=_
  simp only [List.length_cons];omega
def vJ (row:List Int):List Int:=(row.drop 1).dropLast
def uk (row:List Int):Int:=row.getD 0 0
def nk (row:List Int):Int:=row.getLastD 0
structure EF (n:Int) (E taken:List Tie) (ks:List Int) (first:Bool) (row:List Int):Prop where
 len:2<=row.length
 ni:∀v∈row,0<=v/\v<n
 tied:∀t∈ties row,t∈E
 ring:first=true->uk row=nk row
 ends:first=false->uk row∈ks/\nk row∈ks
 long:uk row=nk row->4<=row.length
 mid:(vJ row).Nodup
 apart:∀v∈vJ row,v∉ks/\v≠uk row
 new:∀t∈ties row,t∉taken
def rY (n:Int) (E:List Tie):Bool->List Tie->List Int->List (List Int)->Prop
 |_,taken,ks,[]=>taken.length=E.length/\(ks.length:Int)=n
 |first,taken,ks,row::rest=>EF n E taken ks first row/\rY n E false (taken++ties row) (nL ks row) rest
theorem F6 {row:List Int}(h:2<=row.length):∃a m z,row=a::(m++[z]):=by
 cases row with
 |nil=>simp at h
 |cons a r=>
  have hr:r≠[]:=fun e=>by rw[e]at h;simp at h
  exact⟨a,r.dropLast,r.getLast hr,by rw[List.dropLast_concat_getLast]⟩
theorem EY (a:Int) (m:List Int) (z:Int):uk (a::(m++[z]))=a:=rfl
theorem BG (a:Int) (m:List Int) (z:Int):nk (a::(m++[z]))=z:=by
 unfold nk
 rw[show a::(m++[z])=(a::m)++[z] from rfl,List.getLastD_concat]
theorem Fx (a:Int) (m:List Int) (z:Int):vJ (a::(m++[z]))=m:=by
 unfold vJ
 simp
theorem xm {t:Tie}:∀ (r:List Int),t∈ties r->t.f0∈r/\t.f1∈r
 |[],h=>by simp[ties]at h
 |[a],h=>by simp[ties]at h
 |a::b::r,h=>by
  simp only [ties,List.mem_cons]at h
  rcases h with rfl|h
  ·unfold kS;split<;>simp
  have:=xm (b::r) h
  exact⟨List.mem_cons_of_mem _ this.1,List.mem_cons_of_mem _ this.2⟩
theorem zY:∀ (p:List Int) (v w:Int) (s:List Int),ties (p++v::w::s)=ties (p++[v])++kS v w::ties (w::s)
 |[],v,w,s=>by simp[ties]
 |[a],v,w,s=>by simp[ties]
 |a::b::r,v,w,s=>by
  have:=zY (b::r) v w s
  simp only [List.cons_append,ties]at this⊢
  rw[this]
theorem LM {a b c d:Int}(h:kS a b=kS c d):a=c/\b=d\/a=d/\b=c:=by
 unfold kS at h
 split at h<;>split at h<;>simp only [Tie.mk.injEq]at h<;>omega
theorem zZ:∀ (r:List Int),r.Nodup->(ties r).Nodup
 |[],_=>by simp[ties]
 |[a],_=>by simp[ties]
 |a::b::r,h=>by
  rw[List.nodup_cons]at h
  simp only [ties,List.nodup_cons]
  refine⟨fun k=>?_,zZ (b::r) h.2⟩
  have:=xm (b::r) k
  unfold kS at this
  split at this
  ·exact h.1 this.1
  exact h.1 this.2
theorem LX (a:Int) (m:List Int) (h:(a::m).Nodup) (hl:2<=m.length):(ties (a::m++[a])).Nodup:=by
 obtain⟨p,y,rfl⟩:∃p y,m=p++[y]:=⟨m.dropLast,m.getLast (fun e=>by rw[e]at hl;simp at hl),(List.dropLast_concat_getLast _).symm⟩
 have e:a::(p++[y])++[a]=(a::p)++[y,a]:=by simp
 rw[e,Ch,List.nodup_append]
 have hn:=zZ _ h
 refine⟨by simpa using hn,by simp,fun x hx z hz e2=>?_⟩
 rw[List.mem_singleton]at hz
 subst hz;subst e2
 cases p with
 |nil=>simp at hl
 |cons b q=>
  simp only [List.cons_append,ties,List.mem_cons]at hx
  simp only [List.cons_append,List.nodup_cons,List.mem_cons,List.mem_append,not_or]at h
  rcases hx with hx|hx
  ·rcases LM hx with⟨h1,h2⟩|⟨h1,h2⟩
   ·exact h.1.1 h2
   exact h.2.1.2.1 h1.symm
  have hm:=xm (b::(q++[y])) (by simpa using hx)
  have ha:a∉b::(q++[y]):=by simp;exact⟨h.1.1,h.1.2.1,h.1.2.2.1⟩
  unfold kS at hm
  split at hm
  ·exact ha hm.2
  exact ha hm.1
theorem EI {n:Int}{E taken:List Tie}{ks:List Int}{first:Bool}{row:List Int}(hl:2<=row.length) (hlong:uk row=nk row->4<=row.length) (hm:(vJ row).Nodup) (ha:uk row∉vJ row) (hz:nk row∉vJ row):(ties row).Nodup:=by
 obtain⟨a,m,z,rfl⟩:=F6 hl
 rw[EY]at hlong ha
 rw[BG]at hlong hz
 rw[Fx]at hm ha hz
 by_cases c:a=z
 ·subst c
  have:=hlong rfl
  simp at this
  exact LX a m (List.nodup_cons.2 ⟨ha,hm⟩) (by omega)
 refine zZ _ (List.nodup_cons.2 ⟨?_,?_⟩)
 ·simp;exact⟨ha,c⟩
 rw[List.nodup_append]
 exact⟨hm,by simp,fun x hx y hy e=>by rw[List.mem_singleton]at hy;subst hy;subst e;exact hz hx⟩
def blt (a b:List Int):Prop:=a.length<b.length\/a.length=b.length/\(nk a<nk b\/nk a=nk b/\rz a b)
instance(a b:List Int):Decidable (blt a b):=by unfold blt;infer_instance
theorem Da (a:List Int):¬blt a a:=by
 rintro(h|⟨_,h|⟨_,h⟩⟩)
 ·omega
 ·omega
 exact Bz a h
theorem Db {a b c:List Int}(h:blt a b) (k:blt b c):blt a c:=by
 rcases h with h|⟨h1,h⟩
 ·rcases k with k|⟨k1,k⟩
  ·exact .inl (by omega)
  exact .inl (by omega)
 rcases k with k|⟨k1,k⟩
 ·exact .inl (by omega)
 refine .inr ⟨by omega,?_⟩
 rcases h with h|⟨h2,h⟩
 ·rcases k with k|⟨k2,k⟩
  ·exact .inl (by omega)
  exact .inl (by omega)
 rcases k with k|⟨k2,k⟩
 ·exact .inl (by omega)
 exact .inr ⟨by omega,BA h k⟩
theorem Dc (a b:List Int):blt a b\/a=b\/blt b a:=by
 rcases Nat.lt_trichotomy a.length b.length with h|h|h
 ·exact .inl (.inl h)
 ·rcases Int.lt_trichotomy (nk a) (nk b) with k|k|k
  ·exact .inl (.inr ⟨h,.inl k⟩)
  ·rcases BC a b with g|g|g
   ·exact .inl (.inr ⟨h,.inr ⟨k,g⟩⟩)
   ·exact .inr (.inl g)
   exact .inr (.inr (.inr ⟨h.symm,.inr ⟨k.symm,g⟩⟩))
  exact .inr (.inr (.inr ⟨h.symm,.inl k⟩))
 exact .inr (.inr (.inl h))
structure qh (E:List Tie) (R:List Int) (v:Int) (p:List Int):Prop where
 head:p.head? =some v
 ties:∀t∈ties p,t∈E
 nodup:p.Nodup
 inner:∀x∈p.dropLast,x∉R
 last:nk p∈R
def vD (E:List Tie) (R:List Int) (v:Int) (p:List Int):Prop:=qh E R v p/\∀q,qh E R v q->¬blt q p
theorem Hy {E:List Tie}{R:List Int}{v:Int}{p q:List Int}(h:vD E R v p) (k:vD E R v q):p=q:=by
 rcases Dc p q with g|g|g
 ·exact absurd g (k.2 p h.1)
 ·exact g
 exact absurd g (h.2 q k.1)
def qf (n:Int) (E:List Tie) (R:List Int):Nat->List Int->Int->List (List Int)
 |0,_,_=>[]
 |d+1,pre,v=>if v∈R then[pre++[v]] else((next n E v).filter fun k=> !decide (k∈pre++[v])).flatMap fun k=>qf n E R d (pre++[v]) k
theorem BD (v k:Int) (r:List Int):nk (v::k::r)=nk (k::r):=by unfold nk;rfl
theorem xS (v k:Int) (r:List Int):(v::k::r).dropLast=v::(k::r).dropLast:=rfl
theorem Fv {n:Int}{E:List Tie}{R:List Int}(hE:∀t∈E,inr n t):∀ (d:Nat) (pre:List Int) (v:Int) (p:List Int),p∈qf n E R d pre v->(pre++[v]).Nodup->
  ∃ext,p=pre++v::ext/\(∀t∈ties (v::ext),t∈E)/\(∀x∈(v::ext).dropLast,x∉R)/\nk (v::ext)∈R/\p.Nodup
 |0,pre,v,p,h,_=>by simp[qf]at h
 |d+1,pre,v,p,h,hn=>by
  unfold qf at h
  by_cases c:v∈R
  ·rw[if_pos c,List.mem_singleton]at h
   exact⟨[],h,by simp[ties],by simp,c,h▸hn⟩
  rw[if_neg c,List.mem_flatMap]at h
  obtain⟨k,hk,h⟩:=h
  rw[List.mem_filter,rF hE]at hk
  have hk2:k∉pre++[v]:=by simpa using hk.2
  have hn2:((pre++[v])++[k]).Nodup:=by
   rw[List.nodup_append]
   exact⟨hn,by simp,fun a ha b hb e=>by rw[List.mem_singleton]at hb;subst hb;subst e;exact hk2 ha⟩
  obtain⟨ext,e,ht,hi,hl,hd⟩:=Fv hE d (pre++[v]) k p h hn2
  refine⟨k::ext,by rw[e];simp,fun t ht2=>?_,fun x hx=>?_,by rw[BD];exact hl,hd⟩
  ·simp only [ties,List.mem_cons]at ht2
   rcases ht2 with rfl|ht2
   ·exact hk.1
   exact ht t ht2
  rw[xS]at hx
  rcases List.mem_cons.1 hx with rfl|hx
  ·exact c
  exact hi x hx
theorem Dj {n:Int}{E:List Tie}{R:List Int}(hE:∀t∈E,inr n t):∀ (d:Nat) (pre:List Int) (v:Int) (ext:List Int),(∀t∈ties (v::ext),t∈E)->(∀x∈(v::ext).dropLast,x∉R)->nk (v::ext)∈R->(pre++v::ext).Nodup->ext.length<d->
  pre++v::ext∈qf n E R d pre v
 |0,_,_,_,_,_,_,_,h=>absurd h (Nat.not_lt_zero _)
 |d+1,pre,v,[],_,_,hl,_,_=>by
  have:v∈R:=hl
  unfold qf
  rw[if_pos this];simp
 |d+1,pre,v,k::ext,ht,hi,hl,hn,hd=>by
  have c:v∉R:=hi v (by rw[xS];simp)
  unfold qf
  rw[if_neg c,List.mem_flatMap]
  have e:pre++v::k::ext=(pre++[v])++k::ext:=by simp
  refine⟨k,?_,?_⟩
  ·rw[List.mem_filter,rF hE]
   refine⟨ht _ (by simp[ties]),?_⟩
   rw[e,List.nodup_append]at hn
   have:k∉pre++[v]:=fun h=>hn.2.2 k h k (by simp) rfl
   simpa using this
  rw[e]at hn⊢
  exact Dj hE d (pre++[v]) k ext (fun t h=>ht t (by simp[ties,h])) (fun x hx=>hi x (by rw[xS];exact List.mem_cons_of_mem _ hx)) (by rw[←BD v];exact hl) hn (by simp at hd;omega)
theorem yV {n v:Int}{E:List Tie}{R:List Int}(hE:∀t∈E,inr n t) (hv:0<=v/\v<n) {p:List Int}(h:qh E R v p):∀x∈p,0<=x/\x<n:=by
 cases p with
 |nil=>simp
 |cons x r=>
  have:x=v:=by have:=h.head;simpa using this
  subst this
  exact Cf hE r x hv h.ties
theorem zN {n v:Int}{E:List Tie}{R:List Int}(h8:n<=8) (hE:∀t∈E,inr n t) (hv:0<=v/\v<n) {p:List Int}:p∈qf n E R 9 [] v↔qh E R v p:=by
 constructor
 ·intro h
  obtain⟨ext,e,ht,hi,hl,hn⟩:=Fv hE 9 [] v p h (by simp)
  rw[List.nil_append]at e
  subst e
  exact⟨rfl,ht,hn,hi,hl⟩
 intro h
 have hk:=tQ h.nodup (fun x hx=>qy.2 (yV hE hv h x hx))
 rw[rf]at hk
 cases p with
 |nil=>have:=h.head;simp at this
 |cons x r=>
  have:x=v:=by have:=h.head;simpa using this
  subst this
  exact Dj hE 9 [] x r h.ties h.inner h.last h.nodup (by simp at hk;omega)
def pV (best w:List Int):List Int:=if best=[]\/blt w best then w else best
theorem EW:∀ (l:List (List Int)) (b:List Int),(∀x∈l,x≠[])->(b=[]->l=[]->l.foldl pV b=[])/\
  (b≠[]->(l.foldl pV b=b\/l.foldl pV b∈l)/\¬blt b (l.foldl pV b)/\∀q∈l,¬blt q (l.foldl pV b))/\
  (b=[]->l≠[]->l.foldl pV b∈l/\∀q∈l,¬blt q (l.foldl pV b))
 |[],b,_=>⟨fun h _=>h,fun _=>⟨.inl rfl,Da b,by simp⟩,fun _ h=>absurd rfl h⟩
 |x::l,b,hx=>by
  have hx0:=hx x List.mem_cons_self
  obtain⟨_,i2,_⟩:=EW l (pV b x) (fun y hy=>hx y (List.mem_cons_of_mem _ hy))
  have np:pV b x≠[]:=by
   unfold pV
   split
   ·exact hx0
   rename_i c;exact fun e=>c (.inl e)
  obtain⟨j1,j2,j3⟩:=i2 np
  rw[List.foldl_cons]
  generalize hr:l.foldl pV (pV b x)=r at*
  have hpx:¬blt x r:=by
   unfold pV at j2
   intro k
   split at j2
   ·exact j2 k
   rename_i c
   rcases Dc b r with g|g|g
   ·exact j2 g
   ·exact c (.inr (g▸k))
   exact c (.inr (Db k g))
  refine⟨fun _ h=>by simp at h,fun hb=>⟨?_,?_,fun q hq=>?_⟩,fun hb _=>⟨?_,fun q hq=>?_⟩⟩
  ·rcases j1 with j|j
   ·rw[j]
    unfold pV
    split
    ·exact .inr List.mem_cons_self
    exact .inl rfl
   exact .inr (List.mem_cons_of_mem _ j)
  ·intro k
   unfold pV at j2
   split at j2
   ·rename_i c
    rcases c with c|c
    ·exact hb c
    exact j2 (Db c k)
   exact j2 k
  ·rcases List.mem_cons.1 hq with rfl|hq
   ·exact hpx
   exact j3 q hq
  ·rcases j1 with j|j
   ·rw[j]
    unfold pV
    rw[if_pos (.inl hb)]
    exact List.mem_cons_self
   exact List.mem_cons_of_mem _ j
  rcases List.mem_cons.1 hq with rfl|hq
  ·exact hpx
  exact j3 q hq
theorem KQ {n v:Int}{E:List Tie}{R:List Int}(h8:n<=8) (hE:∀t∈E,inr n t) (hv:0<=v/\v<n) {p:List Int}(hp:qh E R v p):vD E R v ((qf n E R 9 [] v).foldl pV []):=by
 have ne:qf n E R 9 [] v≠[]:=fun e=>by have:=(zN h8 hE hv).2 hp;rw[e]at this;simp at this
 obtain⟨_,_,h3⟩:=EW (qf n E R 9 [] v) [] (fun x hx e=>by
  have:=((zN h8 hE hv).1 hx).head
  rw[e]at this;simp at this)
 obtain⟨a,b⟩:=h3 rfl ne
 exact⟨(zN h8 hE hv).1 a,fun q hq=>b q ((zN h8 hE hv).2 hq)⟩
def but (E:List Tie) (R:List Int) (k:Int):List Tie:=E.filter fun t=>decide ((t.f0∈R->t.f0=k)/\(t.f1∈R->t.f1=k))
theorem BJ {E:List Tie}{R:List Int}{k:Int}{t:Tie}:t∈but E R k↔t∈E/\(t.f0∈R->t.f0=k)/\(t.f1∈R->t.f1=k):=by
 unfold but
 rw[List.mem_filter,decide_eq_true_eq]
theorem Kb {p:List Int}{k:Int}(h:p.getLast? =some k):nk p=k:=by
 unfold nk
 rw[List.getLastD_eq_getLast?,h];rfl
theorem Dh {E:List Tie}{R:List Int}{v:Int}{p:List Int}(h:qh E R v p) (hv:v∉R):rT (but E R (nk p)) v (nk p) p where
 head:=h.head
 last:=by
  cases p with
  |nil=>have:=h.head;simp at this
  |cons x r=>unfold nk;rw[List.getLastD_eq_getLast?];cases g:(x::r).getLast? with
   |none=>simp at g
   |some z=>rfl
 ties:=fun t ht=>by
  refine BJ.2 ⟨h.ties t ht,fun k=>?_,fun k=>?_⟩
  ·have hm:=(xm p ht).1
   refine Classical.byContradiction fun g=>?_
   rcases List.eq_nil_or_concat p with rfl|⟨q,u,rfl⟩
   ·simp at hm
   rw[List.concat_eq_append]at*
   rcases List.mem_append.1 hm with a|a
   ·exact h.inner _ (by rw[List.dropLast_concat];exact a) k
   rw[List.mem_singleton]at a
   exact g (by unfold nk;rw[List.getLastD_concat];exact a)
  have hm:=(xm p ht).2
  refine Classical.byContradiction fun g=>?_
  rcases List.eq_nil_or_concat p with rfl|⟨q,u,rfl⟩
  ·simp at hm
  rw[List.concat_eq_append]at*
  rcases List.mem_append.1 hm with a|a
  ·exact h.inner _ (by rw[List.dropLast_concat];exact a) k
  rw[List.mem_singleton]at a
  exact g (by unfold nk;rw[List.getLastD_concat];exact a)
 nodup:=h.nodup
theorem EE:∀ (p:List Int) (x:Int),x∈p.dropLast->∃y,kS x y∈ties p
 |[],x,h=>by simp at h
 |[_],x,h=>by simp at h
 |a::b::r,x,h=>by
  rw[xS]at h
  rcases List.mem_cons.1 h with rfl|h
  ·exact⟨b,by simp[ties]⟩
  obtain⟨y,hy⟩:=EE (b::r) x h
  exact⟨y,by simp[ties,hy]⟩
theorem L8 {E:List Tie}{R:List Int}{v k:Int}{p:List Int}(h:rT (but E R k) v k p) (hk:k∈R):qh E R v p/\nk p=k:=by
 have hl:=Kb h.last
 refine⟨⟨h.head,fun t ht=>(BJ.1 (h.ties t ht)).1,h.nodup,fun x hx hr=>?_,by rw[hl];exact hk⟩,hl⟩
 obtain⟨y,hy⟩:=EE p x hx
 have hb:=(BJ.1 (h.ties _ hy)).2
 have hxk:x=k:=by
  unfold kS at hb
  split at hb
  ·exact hb.1 hr
  exact hb.2 hr
 subst hxk
 rcases List.eq_nil_or_concat p with rfl|⟨q,u,rfl⟩
 ·simp at hx
 rw[List.concat_eq_append]at*
 rw[List.dropLast_concat]at hx
 have hn:=h.nodup
 rw[List.nodup_append]at hn
 have hu:u=x:=by
  have:=hl
  unfold nk at this
  rw[List.getLastD_concat]at this
  exact this
 exact hn.2.2 x hx u (by simp) hu.symm
end Go.Proofs.Ytgeonpciodepgaa.G
namespace Go.Proofs.Ytgeonpciodepgaa.P
open Go.RowKit Go.Proofs.YtgeonpciodepgaaW.PrintWords Go.Proofs.Ytgeonpciodepgaa.G Go.Proofs.YtgeonpciodepgaaW.PrintWords.Kd
theorem yg (pre:List S59) (t:S59) (suf:List S59):jQ (pre++t::suf) (pre.length:Int)=t:=by
 unfold jQ;exact vX pre t suf _
theorem Gi (a b:Int) (t:Tie):(a==t.f0&&(b==t.f1))=decide ((⟨a,b⟩:Tie)=t):=by
 obtain⟨c,d⟩:=t
 simp only [Tie.mk.injEq]
 by_cases h:a=c<;>by_cases k:b=d<;>simp[h,k]
theorem JI (a b:Int):∀ (suf p:List S59),((p++suf).length:Int)<big->
  ∃r,Ev (fun k=>o7.l0 k (p++suf) ((p++suf).length:Int) (p.length:Int) a b) r/\(r>=0↔(⟨a,b⟩:Tie)∈suf):=by
 intro suf
 induction suf with
 |nil=>
  intro p hb
  refine⟨-1,Ev.step (fun k=>by simp only [o7.l0,qj,if_false]<;>exact rfl) (Ev.val rfl),by simp⟩
 |cons t suf ih=>
  intro p hb
  have hp:(p.length:Int)<big:=qx hb
  by_cases c:(⟨a,b⟩:Tie)=t
  ·refine⟨p.length,?_,?_⟩
   ·refine Ev.step (fun k=>by simp only [o7.l0,nD,nn,if_true,yg,nP (t:=t) hp,Gi,decide_eq_true_eq,if_pos c]<;>exact rfl) ?_
    exact Ev.val rfl
   simp[c]
  obtain⟨r,hr,hi⟩:=ih (p++[t]) (tN hb)
  refine⟨r,?_,?_⟩
  ·refine Ev.step (fun k=>by simp only [o7.l0,nD,nn,if_true,yg,nP (t:=t) hp,Gi,decide_eq_true_eq,if_neg c]<;>exact rfl) ?_
   rw[nM p t suf]
   exact hr
  rw[hi];simp[c]
theorem Ez (E:List S59) (a b:Int) (hb:(E.length:Int)<big):Ev (fun k=>r_.f k E a b) (decide ((⟨a,b⟩:Tie)∈E)):=by
 unfold r_.f o7.f
 obtain⟨r,hr,hi⟩:=JI a b E [] hb
 refine Ev.bind hr (Ev.val ?_)
 exact congrArg some (decide_eq_decide.2 hi)
theorem zX (a b:Int):qI.f a b=some ((kS a b).f0,(kS a b).f1):=by
 unfold qI.f kS mn mx
 rcases Int.lt_trichotomy a b with h|h|h
 ·simp[h];omega
 ·subst h;simp
 have:¬a<b:=by omega
 simp[this,h]
theorem xW (n a b:Int) (E:List S59) (hE:(E.length:Int)<big):Ev (fun k=>qp.f k n E a b) (decide (kS a b∈E)):=by
 unfold qp.f
 simp only [zX,Option.bind_some]
 exact Ev.bind (Ez E _ _ hE) (Ev.val rfl)
def less (X gone:List Tie):List Tie:=X.filter fun s=> !decide (s∈gone)
theorem JZ (X:List Tie) (t:Tie):less X [t]=cut X t:=by
 unfold less cut
 refine List.filter_congr (fun s _=>?_)
 simp
theorem JY (n m:Int) (gone:List S59) (hg:(gone.length:Int)<big):∀ (suf p q:List S59),((p++suf).length:Int)<=1048576->q.length<=p.length->
  Ev (fun k=>oH.l0 k gone (p++suf) ((p++suf).length:Int) (p.length:Int) m q) (m,q++less suf gone):=by
 intro suf
 induction suf with
 |nil=>
  intro p q hb hq
  refine Ev.step (fun k=>by simp only [oH.l0,qj,if_false]<;>exact rfl) ?_
  exact Ev.val (by simp[less])
 |cons t suf ih=>
  intro p q hb hq
  have hb':((p++t::suf).length:Int)<big:=by unfold big;omega
  have hp:(p.length:Int)<big:=qx hb'
  have hq8:q.length<8796093022208:=by rw[List.length_append]at hb;omega
  refine Ev.step (fun k=>by simp only [oH.l0,nD,nn,if_true,yg,nP (t:=t) hp,hq8]<;>exact rfl) ?_
  refine Ev.bind (Ez gone _ _ hg) ?_
  by_cases c:t∈gone
  ·have c':(⟨t.f0,t.f1⟩:Tie)∈gone:=c
   simp only [c',decide_true,if_true]
   rw[nM p t suf]
   refine Ev.eq (ih (p++[t]) q (by rw[←nM];exact hb) (by simp;omega)) ?_
   simp[less,c]
  have c':¬ (⟨t.f0,t.f1⟩:Tie)∈gone:=c
  simp only [c',decide_false,Bool.false_eq_true,if_false]
  rw[nM p t suf]
  refine Ev.eq (ih (p++[t]) (q++[t]) (by rw[←nM];exact hb) (by simp;omega)) ?_
  simp[less,c]
theorem JX (n:Int) (E gone:List S59) (hE:(E.length:Int)<=1048576) (hg:(gone.length:Int)<big):Ev (fun k=>oH.f k n E gone) (n,less E gone):=by
 unfold oH.f
 exact JY n n gone hg E [] [] hE (Nat.le_refl _)
theorem Bv (n:Int) (E:List S59) (t:Tie) (hE:(E.length:Int)<=1048576):Ev (fun k=>oH.f k n E [t]) (n,cut E t):=by
 rw[←JZ]
 exact JX n E [t] hE (by unfold big;simp)
end Go.Proofs.Ytgeonpciodepgaa.P
namespace Go.Proofs.Ytgeonpciodepgaa.G
open Go.RowKit Go.Proofs.YtgeonpciodepgaaW.PrintWords
theorem yh {f:List Int}{u v x:Int}(hu:0<=u) (hu2:u<(f.length:Int)) (hv:0<=v):rd (f.set u.toNat x) v=if u=v then x else rd f v:=by
 unfold rd
 rw[List.getD_eq_getElem?_getD,List.getD_eq_getElem?_getD,List.getElem?_set]
 by_cases c:u=v
 ·subst c
  rw[if_pos rfl,if_pos (by omega),if_pos rfl];rfl
 rw[if_neg (by omega),if_neg c]
def tot (f:List Int):Nat:=(f.map Int.toNat).sum
theorem Ci:∀ {f:List Int}{i:Nat}{x:Int},i<f.length->0<=x->0<=f.getD i 0->(tot (f.set i x):Int)=tot f - f.getD i 0+x
 |[],i,_,h,_,_=>absurd h (Nat.not_lt_zero _)
 |b::f,0,x,h,hx,hb=>by
  have hb':0<=b:=hb
  simp[tot]
  omega
 |b::f,i+1,x,h,hx,hb=>by
  have ih:=Ci (f:=f) (i:=i) (x:=x) (by simpa using h) hx (by simpa using hb)
  rw[List.set_cons_succ]
  simp[tot]at ih⊢
  omega
structure Lab (n:Int) (E:List Tie) (f:List Int):Prop where
 len:(f.length:Int)=n
 low:∀v,0<=v->v<n->0<=rd f v/\rd f v<=v
 conn:∀v,0<=v->v<n->mh E v (rd f v)
structure Parts (n:Int) (E:List Tie) (f:List Int):Prop where
 len:(f.length:Int)=n
 low:∀v,0<=v->v<n->0<=rd f v/\rd f v<=v
 conn:∀v,0<=v->v<n->mh E v (rd f v)
 same:∀u v,0<=u->u<n->0<=v->v<n->mh E u v->rd f u=rd f v
theorem Parts.iff {n:Int}{E:List Tie}{f:List Int}(h:Parts n E f) {u v:Int}(hu:0<=u/\u<n) (hv:0<=v/\v<n):rd f u=rd f v↔mh E u v:=
 ⟨fun e=>(h.conn u hu.1 hu.2).trans (e▸ (h.conn v hv.1 hv.2).symm),h.same u v hu.1 hu.2 hv.1 hv.2⟩
theorem Parts.least {n:Int}{E:List Tie}{f:List Int}(h:Parts n E f) {u v:Int}(hu:0<=u/\u<n) (hv:0<=v/\v<n) (hc:mh E u v):rd f u<=v:=by
 rw[h.same u v hu.1 hu.2 hv.1 hv.2 hc]
 exact(h.low v hv.1 hv.2).2
theorem Parts.unique {n:Int}{E:List Tie}{f g:List Int}(h:Parts n E f) (k:Parts n E g):f=g:=by
 apply List.ext_getElem?
 intro i
 have hf:=h.len
 have hg:=k.len
 by_cases hi:i<f.length
 ·have e:rd f i=rd g i:=by
   have h0:(0:Int)<=(i:Int):=by omega
   have h1:(i:Int)<n:=by omega
   have a:=h.low i h0 h1
   have b:=k.low i h0 h1
   have c:=h.least ⟨h0,h1⟩ ⟨b.1,by omega⟩ (k.conn i h0 h1)
   have d:=k.least ⟨h0,h1⟩ ⟨a.1,by omega⟩ (h.conn i h0 h1)
   omega
  unfold rd at e
  rw[List.getD_eq_getElem?_getD,List.getD_eq_getElem?_getD,Int.toNat_natCast,List.getElem?_eq_getElem hi,List.getElem?_eq_getElem (by omega)]at e
  rw[List.getElem?_eq_getElem hi,List.getElem?_eq_getElem (by omega)]
  simpa using e
 rw[List.getElem?_eq_none (by omega),List.getElem?_eq_none (by omega)]
theorem Lab.parts {n:Int}{E:List Tie}{f:List Int}(h:Lab n E f) (hE:∀t∈E,inr n t) (he:∀t∈E,rd f t.f0=rd f t.f1):Parts n E f:=by
 refine⟨h.len,h.low,h.conn,fun u v hu hu1 hv hv1 hc=>?_⟩
 refine hc.closed (fun x=>rd f u=rd f x) rfl (fun x y hx ht=>?_)
 have hr:=hE _ ht
 have e:=he _ ht
 rw[hx]
 unfold kS at e
 by_cases c:x<y
 ·rw[if_pos c]at e;exact e
 rw[if_neg c]at e;exact e.symm
end Go.Proofs.Ytgeonpciodepgaa.G
namespace Go.Proofs.Ytgeonpciodepgaa.P
open Go.RowKit Go.Proofs.YtgeonpciodepgaaW.PrintWords Go.Proofs.Ytgeonpciodepgaa.G Go.Proofs.YtgeonpciodepgaaW.PrintWords.Kd
theorem Kq (a b:Int):mn a b=if b<a then b else a:=rfl
theorem FN (n:Int) (E:List S59) (hE:ok n E):∀ (suf p:List S59) (f:List Int) (b:Bool),p++suf=E->Lab n E f->
  ∃f' b',Lab n E f'/\tot f'<=tot f/\(b'=false->b=false/\f'=f/\∀t∈suf,rd f t.f0=rd f t.f1)/\(b'=true->b=true\/tot f'<tot f)/\
   ∀r,Ev (fun k=>lU.l1 k f' b' n E) r->Ev (fun k=>lU.l2 k f b (p++suf) ((p++suf).length:Int) (p.length:Int) n E) r:=by
 intro suf
 have hEb:(E.length:Int)<big:=by have:=oG hE;unfold big;omega
 induction suf with
 |nil=>
  intro p f b he hL
  refine⟨f,b,hL,Nat.le_refl _,fun h=>⟨h,rfl,by simp⟩,fun h=> .inl h,fun r hr=>?_⟩
  refine Ev.step (fun k=>by simp only [lU.l2,qj,if_false]<;>exact rfl) hr
 |cons t suf ih=>
  intro p f b he hL
  have hp:(p.length:Int)<big:=qx (by rw[he];exact hEb)
  have ht:t∈E:=by rw[←he];simp
  have hr:=hE.2.2.1 t ht
  unfold inr at hr
  have b1:0<=t.f0:=hr.1
  have b2:t.f0<(f.length:Int):=by rw[hL.len];omega
  have b3:0<=t.f1:=by omega
  have b4:t.f1<(f.length:Int):=by rw[hL.len];omega
  by_cases c:rd f t.f0=rd f t.f1
  ·obtain⟨f',b',h1,h2,h3,h4,h5⟩:=ih (p++[t]) f b (by rw[←he];simp) hL
   refine⟨f',b',h1,h2,fun e=>?_,h4,fun r hr=>?_⟩
   ·obtain⟨x,y,z⟩:=h3 e
    refine⟨x,y,fun s hs=>?_⟩
    rcases List.mem_cons.1 hs with rfl|hs
    ·exact c
    exact z s hs
   refine Ev.step (fun k=>by simp only [lU.l2,nD,nn,if_true,yg,nP (t:=t) hp,b1,b2,b3,b4,if_pos c]<;>exact rfl) ?_
   rw[nM p t suf]
   exact h5 r hr
  have lo0:=hL.low t.f0 b1 (by omega)
  have lo1:=hL.low t.f1 b3 (by omega)
  have hm:0<=mn (rd f t.f0) (rd f t.f1)/\mn (rd f t.f0) (rd f t.f1)<=rd f t.f0/\mn (rd f t.f0) (rd f t.f1)<=rd f t.f1/\(mn (rd f t.f0) (rd f t.f1)=rd f t.f0\/mn (rd f t.f0) (rd f t.f1)=rd f t.f1):=by
   rw[Kq];split<;>omega
  generalize hg:mn (rd f t.f0) (rd f t.f1)=m at hm
  have hs:∀v,0<=v->rd ((f.set t.f0.toNat m).set t.f1.toNat m) v=if t.f1=v then m else if t.f0=v then m else rd f v:=fun v hv=>by
   rw[yh b3 (by rw[List.length_set];exact b4) hv,yh b1 b2 hv]
  have hconn01:mh E t.f0 t.f1:=mh.tie ht hr.2.1
  have hc0:=hL.conn t.f0 b1 (by omega)
  have hc1:=hL.conn t.f1 b3 (by omega)
  have hcm:mh E t.f0 m/\mh E t.f1 m:=by
   rcases hm.2.2.2 with e|e
   ·rw[e];exact⟨hc0,hconn01.symm.trans hc0⟩
   rw[e];exact⟨hconn01.trans hc1,hc1⟩
  have hL':Lab n E ((f.set t.f0.toNat m).set t.f1.toNat m):=by
   refine⟨by rw[List.length_set,List.length_set];exact hL.len,fun v h0 h1=>?_,fun v h0 h1=>?_⟩
   ·rw[hs v h0]
    have:=hL.low v h0 h1
    split
    ·subst_vars;omega
    split
    ·subst_vars;omega
    exact this
   rw[hs v h0]
   split
   ·subst_vars;exact hcm.2
   split
   ·subst_vars;exact hcm.1
   exact hL.conn v h0 h1
  have t0:(tot (f.set t.f0.toNat m):Int)=tot f - rd f t.f0+m:=Ci (by omega) hm.1 lo0.1
  have e1:(f.set t.f0.toNat m).getD t.f1.toNat 0=rd f t.f1:=by
   have:=yh (f:=f) (u:=t.f0) (v:=t.f1) (x:=m) b1 b2 b3
   rw[if_neg (by omega)]at this
   exact this
  have t1:(tot ((f.set t.f0.toNat m).set t.f1.toNat m):Int)=tot (f.set t.f0.toNat m) - rd f t.f1+m:=by
   have:=Ci (f:=f.set t.f0.toNat m) (i:=t.f1.toNat) (x:=m) (by rw[List.length_set];omega) hm.1 (by rw[e1];exact lo1.1)
   rw[e1]at this
   exact this
  have hlt:tot ((f.set t.f0.toNat m).set t.f1.toNat m)<tot f:=by omega
  obtain⟨f',b',h1,h2,h3,h4,h5⟩:=ih (p++[t]) ((f.set t.f0.toNat m).set t.f1.toNat m) true (by rw[←he];simp) hL'
  refine⟨f',b',h1,by omega,fun e=>?_,fun _=> .inr (by omega),fun r hr=>?_⟩
  ·have:=(h3 e).1
   simp at this
  refine Ev.step (fun k=>by simp only [lU.l2,nD,nn,if_true,yg,nP (t:=t) hp,b1,b2,b3,b4,if_neg c,hg]<;>exact rfl) ?_
  rw[nM p t suf]
  exact h5 r hr
theorem KO (n:Int) (E:List S59) (hE:ok n E):∀ (m:Nat) (f:List Int),tot f<=m->Lab n E f->∃f',Ev (fun k=>lU.l1 k f true n E) f'/\Parts n E f':=by
 intro m
 induction m with
 |zero=>
  intro f hm hL
  obtain⟨f',b',h1,h2,h3,h4,h5⟩:=FN n E hE E [] f false rfl hL
  cases b' with
  |true=>
   rcases h4 rfl with h|h
   ·simp at h
   omega
  |false=>
   obtain⟨_,rfl,h⟩:=h3 rfl
   refine⟨f',?_,h1.parts hE.2.2.1 h⟩
   refine Ev.step (fun k=>by simp only [lU.l1,if_true]<;>exact rfl) ?_
   refine h5 f' ?_
   refine Ev.step (fun k=>by simp only [lU.l1,Bool.false_eq_true,if_false]<;>exact rfl) ?_
   exact Ev.val rfl
 |succ m ih=>
  intro f hm hL
  obtain⟨f',b',h1,h2,h3,h4,h5⟩:=FN n E hE E [] f false rfl hL
  cases b' with
  |true=>
   rcases h4 rfl with h|h
   ·simp at h
   obtain⟨f2,e2,p2⟩:=ih f' (by omega) h1
   refine⟨f2,?_,p2⟩
   refine Ev.step (fun k=>by simp only [lU.l1,if_true]<;>exact rfl) ?_
   exact h5 f2 e2
  |false=>
   obtain⟨_,rfl,h⟩:=h3 rfl
   refine⟨f',?_,h1.parts hE.2.2.1 h⟩
   refine Ev.step (fun k=>by simp only [lU.l1,if_true]<;>exact rfl) ?_
   refine h5 f' ?_
   refine Ev.step (fun k=>by simp only [lU.l1,Bool.false_eq_true,if_false]<;>exact rfl) ?_
   exact Ev.val rfl
theorem FU {n v:Int}(h0:0<=v) (h1:v<n):rd (ni n) v=v:=by
 unfold rd ni
 rw[List.getD_eq_getElem?_getD,List.getElem?_map,List.getElem?_range (by omega)]
 simp[Int.toNat_of_nonneg h0]
theorem KN (n:Int) (E:List S59) (h8:n<=8):∀ (d:Nat) (i:Int),0<=i->i+d=n->∀r,Ev (fun k=>lU.l1 k (ni n) true n E) r->
  Ev (fun k=>lU.l0 k (ni i) n i n E) r:=by
 intro d
 induction d with
 |zero=>
  intro i h0 hi r hr
  have hi':i=n:=by omega
  subst hi'
  have c:¬i<i:=by omega
  exact Ev.step (fun k=>by simp only [lU.l0,c,if_false]<;>exact rfl) hr
 |succ d ih=>
  intro i h0 hi r hr
  have c:i<n:=by omega
  have w:wrap64 (i+1)=i+1:=w64 (by omega) (by omega)
  have hl:(ni i).length<17592186044416:=by rw[rf];omega
  refine Ev.step (fun k=>by simp only [lU.l0,c,if_true,w,hl,←zL h0]<;>exact rfl) ?_
  exact ih (i+1) (by omega) (by omega) r hr
theorem FM (n:Int) (E:List S59) (hE:ok n E):∃f,Ev (fun k=>lU.f k n E) f/\Parts n E f:=by
 have hL:Lab n E (ni n):=by
  have h0:=hE.1
  refine⟨by rw[rf];omega,fun v h0 h1=>?_,fun v h0 h1=>?_⟩
  ·rw[FU h0 h1];exact⟨h0,Int.le_refl _⟩
  rw[FU h0 h1];exact .refl _
 obtain⟨f,h1,h2⟩:=KO n E hE _ (ni n) (Nat.le_refl _) hL
 refine⟨f,?_,h2⟩
 unfold lU.f
 have h0:=hE.1
 exact KN n E hE.2.1 n.toNat 0 (Int.le_refl 0) (by omega) f h1
end Go.Proofs.Ytgeonpciodepgaa.P
namespace Go.Proofs.Ytgeonpciodepgaa.G
open Go.RowKit Go.Proofs.YtgeonpciodepgaaW.PrintWords
def F_ (l:List Int) (g:Int->Int):Int:=(l.map g).sum
def IV (l:List Int) (g:Int->Int->Int):Int:=F_ l fun u=>F_ l (g u)
def mM (x:List Int) (u v:Int):Int:=rd x (8*u+v)
def in8 (u:Int):Prop:=0<=u/\u<8
def cap (x:List Int) (n:Int) (S:Int->Bool):Int:=IV (ni n) fun u v=>if S u=true/\S v=false then mM x u v else 0
structure Mat (x:List Int):Prop where
 len:(x.length:Int)=64
 low:∀u v,in8 u->in8 v->0<=mM x u v
 two:∀u v,in8 u->in8 v->mM x u v+mM x v u<=2
theorem Iz {F:List Tie}{a b:Int}(h:mh F a b) (S:Int->Bool) (ha:S a=true) (hb:S b=false):∃p q,kS p q∈F/\S p=true/\S q=false:=by
 refine Classical.byContradiction fun no=>?_
 have:=h.closed (fun u=>S u=true) ha (fun x y hx ht=>by
  cases e:S y with
  |true=>rfl
  |false=>exact absurd ⟨x,y,ht,hx,e⟩ no)
 rw[hb]at this
 cases this
theorem Ex {F:List Tie}{x y:Int}(h:mh F (kS x y).f0 (kS x y).f1):mh F x y:=by
 unfold kS at h
 split at h
 ·exact h
 exact h.symm
end Go.Proofs.Ytgeonpciodepgaa.G
namespace Go.Proofs.Ytgeonpciodepgaa.G
structure uL (n:Int) (C:List Tie) (K:List Int) (a b:Int):Prop where
 here:a∈K
 tie:kS a b∈C
 least:∀a' b',a'∈K->kS a' b'∈C->a<=a'/\(a'=a->b<=b')
theorem JR {n:Int}{C:List Tie}{K:List Int}{a b a' b':Int}(h:uL n C K a b) (k:uL n C K a' b'):a=a'/\b=b':=by
 have h1:=h.least a' b' k.here k.tie
 have k1:=k.least a b h.here h.tie
 have e:a=a':=by omega
 have:=h1.2 e.symm
 have:=k1.2 e
 omega
def p_ (C:List Tie) (row:List Int):List Tie:=C.filter fun t=> !decide (t∈ties row)
theorem zO {C:List Tie}{row:List Int}{t:Tie}:t∈p_ C row↔t∈C/\t∉ties row:=by
 unfold p_
 rw[List.mem_filter]
 simp
def tL (n:Int):List Tie->List Int->List (List Int)->Prop
 |C,_,[]=>C=[]
 |C,K,row::rest=>C≠[]/\(∃a b p,uL n C K a b/\vD (cut C (kS a b)) K b p/\row=a::p)/\tL n (p_ C row) (nL K row) rest
theorem Bt {n:Int}:∀ (r s:List (List Int)) (C:List Tie) (K:List Int),tL n C K r->tL n C K s->r=s
 |[],[],_,_,_,_=>rfl
 |[],_::_,_,_,h,k=>absurd h k.1
 |_::_,[],_,_,h,k=>absurd k h.1
 |x::r,y::s,C,K,h,k=>by
  obtain⟨_,⟨a,b,p,h1,h2,h3⟩,h4⟩:=h
  obtain⟨_,⟨a',b',p',k1,k2,k3⟩,k4⟩:=k
  obtain⟨rfl,rfl⟩:=JR h1 k1
  have:=Hy h2 k2
  subst this
  subst h3
  subst k3
  rw[Bt r s _ _ h4 k4]
structure uA (n:Int) (E C:List Tie) (K:List Int):Prop where
 sub:∀t∈C,t∈E
 gone:∀t∈E,t∉C->t.f0∈K/\t.f1∈K
 zero:(0:Int)∈K
 rng:∀v∈K,0<=v/\v<n
theorem uA.next {n:Int}{E C:List Tie}{K row:List Int}(h:uA n E C K) (hr:∀v∈row,0<=v/\v<n):uA n E (p_ C row) (nL K row) where
 sub:=fun t ht=>h.sub t (zO.1 ht).1
 gone:=fun t ht hn=>by
  by_cases c:t∈C
  ·have:t∈ties row:=Classical.byContradiction fun k=>hn (zO.2 ⟨c,k⟩)
   have:=xm row this
   exact⟨(r9 _ _ _).2 (Or.inr this.1),(r9 _ _ _).2 (Or.inr this.2)⟩
  have:=h.gone t ht c
  exact⟨(r9 _ _ _).2 (Or.inl this.1),(r9 _ _ _).2 (Or.inl this.2)⟩
 zero:=(r9 _ _ _).2 (Or.inl h.zero)
 rng:=fun v hv=>((r9 _ _ _).1 hv).elim (h.rng v) (hr v)
theorem FL {n:Int}{E C:List Tie}{K:List Int}(hE:∀t∈E,inr n t) (hc:∀u∈ni n,∀v∈ni n,mh E u v) (h:uA n E C K) (hC:C≠[]):∃a b,a∈K/\kS a b∈C:=by
 cases C with
 |nil=>exact absurd rfl hC
 |cons t C=>
  have ht:=h.sub t List.mem_cons_self
  have hi:=hE t ht
  by_cases k:t.f0∈K
  ·exact⟨t.f0,t.f1,k,by rw[LP hi];exact List.mem_cons_self⟩
  have z:=h.rng 0 h.zero
  obtain⟨p,q,e,hp,hq⟩:=Iz (hc 0 (qy.2 z) t.f0 (qy.2 ⟨hi.1,by have:=hi.2.1;have:=hi.2.2;omega⟩)) (fun v=>decide (v∈K)) (decide_eq_true h.zero) (decide_eq_false k)
  refine⟨p,q,of_decide_eq_true hp,Classical.byContradiction fun g=>?_⟩
  have:=h.gone _ e g
  have hq':=of_decide_eq_false hq
  unfold kS at this
  split at this
  ·exact hq' this.2
  exact hq' this.1
theorem Ff {n:Int}{C:List Tie}{K:List Int}(hC:∀t∈C,inr n t) {a b:Int}(ha:a∈K) (ht:kS a b∈C):∃a b,uL n C K a b:=by
 obtain⟨i,⟨hi,bi,hbi⟩,hmin⟩:=xX (P:=fun i:Nat=>(i:Int)∈K/\∃b,kS (i:Int) b∈C) ⟨a.toNat,by
  have:=(o9 (hC _ ht)).1
  rw[Int.toNat_of_nonneg this.1]
  exact⟨ha,b,ht⟩⟩
 obtain⟨j,hj,hmj⟩:=xX (P:=fun j:Nat=>kS (i:Int) (j:Int)∈C) ⟨bi.toNat,by
  have:=(o9 (hC _ hbi)).2.1
  rw[Int.toNat_of_nonneg this.1]
  exact hbi⟩
 refine⟨i,j,hi,hj,fun a' b' ha' ht'=>?_⟩
 have e:=o9 (hC _ ht')
 have h1:=hmin a'.toNat (by rw[Int.toNat_of_nonneg e.1.1];exact⟨ha',b',ht'⟩)
 refine⟨by omega,fun q=>?_⟩
 have h2:=hmj b'.toNat (by rw[Int.toNat_of_nonneg e.2.1.1,←q];exact ht')
 omega
theorem ET {c:List Int}:∀ (p:List Int),(∃x∈p,x∈c)->∃p1 v p2,p=p1++v::p2/\v∈c/\∀x∈p1,x∉c
 |[],h=>by obtain⟨x,hx,_⟩:=h;simp at hx
 |x::p,h=>by
  by_cases q:x∈c
  ·exact⟨[],x,p,rfl,q,by simp⟩
  obtain⟨p1,v,p2,e,h1,h2⟩:=ET p (by
   obtain⟨y,hy,hc⟩:=h
   rcases List.mem_cons.1 hy with rfl|hy
   ·exact absurd hc q
   exact⟨y,hy,hc⟩)
  refine⟨x::p1,v,p2,by rw[e];rfl,h1,fun z hz=>?_⟩
  rcases List.mem_cons.1 hz with rfl|hz
  ·exact q
  exact h2 z hz
theorem Gj:∀ (p:List Int) (v:Int),∀t∈ties (p++[v]),t.f0∈p\/t.f1∈p
 |[],v,t,h=>by simp[ties]at h
 |[x],v,t,h=>by
  simp[ties]at h
  subst h
  unfold kS
  split<;>simp
 |x::y::p,v,t,h=>by
  simp only [List.cons_append,ties,List.mem_cons]at h
  rcases h with h|h
  ·subst h
   unfold kS
   split<;>simp
  have:=Gj (y::p) v t h
  exact this.imp (List.mem_cons_of_mem _) (List.mem_cons_of_mem _)
theorem Df {n:Int}{E C:List Tie}{K:List Int}(h8:n<=8) (hE:∀t∈E,inr n t) (hn:∀t∈E,mh (cut E t) t.f0 t.f1) (h:uA n E C K) {a b:Int}(ha:a∈K) (ht:kS a b∈C):∃p,qh (cut C (kS a b)) K b p:=by
 by_cases k:b∈K
 ·exact⟨[b],rfl,by simp[ties],by simp,by simp,k⟩
 have hb:=(o9 (hE _ (h.sub _ ht))).2.1
 obtain⟨p,_,_,_,hp⟩:=Jq h8 (fun t q=>hE t (ut.1 q).1) hb (Ex (hn _ (h.sub _ ht))).symm
 have hap:a∈p:=List.mem_of_getLast? hp.last
 obtain⟨p1,v,p2,e,hv,hd⟩:=ET (c:=K) p ⟨a,hap,ha⟩
 have e2:p=(p1++[v])++p2:=by rw[e];simp
 have sub:∀t∈ties (p1++[v]),t∈ties p:=fun t q=>by
  rw[e2]
  cases p2 with
  |nil=>rw[List.append_nil];exact q
  |cons y p2=>
   rw[show p1++[v]++y::p2=p1++v::y::p2 by simp,zY]
   exact List.mem_append_left _ q
 refine⟨p1++[v],?_,fun t q=>?_,?_,?_,?_⟩
 ·have:=hp.head
  rw[e]at this
  cases p1 with
  |nil=>simpa using this
  |cons y p1=>simpa using this
 ·have c1:=ut.1 (hp.ties t (sub t q))
  refine ut.2 ⟨Classical.byContradiction fun g=>?_,c1.2⟩
  have:=h.gone t c1.1 g
  rcases Gj p1 v t q with r|r
  ·exact hd _ r this.1
  exact hd _ r this.2
 ·have:=hp.nodup
  rw[e2,List.nodup_append]at this
  exact this.1
 ·rw[List.dropLast_concat];exact hd
 unfold nk;rw[List.getLastD_concat];exact hv
end Go.Proofs.Ytgeonpciodepgaa.G
namespace Go.Proofs.Ytgeonpciodepgaa.P
open Go.RowKit Go.Proofs.YtgeonpciodepgaaW.PrintWords Go.Proofs.Ytgeonpciodepgaa.G Go.Proofs.YtgeonpciodepgaaW.PrintWords.Kd
theorem JH (a:Int):∀ (suf p:List Int),((p++suf).length:Int)<big->
  ∃r,Ev (fun k=>o8.l0 k (p++suf) a ((p++suf).length:Int) (p.length:Int)) r/\(r>=0↔a∈suf):=by
 intro suf
 induction suf with
 |nil=>
  intro p hb
  refine⟨-1,Ev.step (fun k=>by simp only [o8.l0,qj,if_false]<;>exact rfl) (Ev.val rfl),by simp⟩
 |cons t suf ih=>
  intro p hb
  have hp:(p.length:Int)<big:=qx hb
  by_cases c:a=t
  ·refine⟨p.length,?_,?_⟩
   ·refine Ev.step (fun k=>by simp only [o8.l0,nD,nn,if_true,oQ,nP (t:=t) hp,if_pos c]<;>exact rfl) ?_
    exact Ev.val rfl
   simp[c]
  obtain⟨r,hr,hi⟩:=ih (p++[t]) (tN hb)
  refine⟨r,?_,?_⟩
  ·refine Ev.step (fun k=>by simp only [o8.l0,nD,nn,if_true,oQ,nP (t:=t) hp,if_neg c]<;>exact rfl) ?_
   rw[nM p t suf]
   exact hr
  rw[hi];simp[c]
theorem Ey (l:List Int) (a:Int) (hb:(l.length:Int)<big):Ev (fun k=>rG.f k l a) (decide (a∈l)):=by
 unfold rG.f o8.f
 obtain⟨r,hr,hi⟩:=JH a l [] hb
 refine Ev.bind hr (Ev.val ?_)
 exact congrArg some (decide_eq_decide.2 hi)
theorem AC (l:List Int) (h:l.length<17592186044416):rA.f l=some l:=by
 unfold rA.f
 simp[h]
theorem H7 {n:Int}{p:List Int}{t:Int}{suf:List Int}(h:p++t::suf=ni n):t=(p.length:Int)/\(p.length:Int)<n:=by
 have e:(ni n)[p.length]? =some t:=by rw[←h];simp
 have hl:p.length<(ni n).length:=by rw[←h];simp
 rw[rf]at hl
 unfold ni at e
 rw[List.getElem?_map,List.getElem?_range hl]at e
 simp at e
 omega
theorem H6 {n:Int}{p:List Int}(h0:0<=n) (h:p++[]=ni n):(p.length:Int)=n:=by
 have:=rf n
 rw[←h]at this
 simp at this
 omega
theorem yR (p:List Int) (v:Int) (h:p.length<=100):wrap64 (((p++[v]).length:Int) - 1)=(p.length:Int):=by
 have e:(p++[v]).length=p.length+1:=by simp
 rw[w64 (by omega) (by omega)];omega
theorem J6:∀ (a b p:List Int),a.length=b.length->(p++a).length<=1000->
  ∃t,Ev (fun k=>qC.l0 k (p++a) (p++b) (p++a) ((p++a).length:Int) (p.length:Int)) t/\(t<0↔rz a b):=by
 intro a
 induction a with
 |nil=>
  intro b p h _
  have hb:b=[]:=List.eq_nil_of_length_eq_zero h.symm
  subst hb
  refine⟨0,Ev.step (fun k=>by simp only [qC.l0,qj,if_false]<;>exact rfl) (Ev.val (by simp)),by simp[rz]⟩
 |cons x a ih=>
  intro b p h hl
  cases b with
  |nil=>simp at h
  |cons y b=>
   have hq:=nD p x a
   have hy:=nD p y b
   have c:¬ (p.length:Int)>=((p++y::b).length:Int):=by omega
   have w:wrap64 ((p.length:Int)+1)=((p++[x]).length:Int):=nP (by simp at hl;unfold big;omega)
   have st:∀t,Ev (fun k=>if sF x y=0 then qC.l0 k (p++x::a) (p++y::b) (p++x::a) ((p++x::a).length:Int) ((p++[x]).length:Int) else some (sF x y)) t->
     Ev (fun k=>qC.l0 k (p++x::a) (p++y::b) (p++x::a) ((p++x::a).length:Int) (p.length:Int)) t:=fun t ht=>
    Ev.step (fun k=>by simp only [qC.l0,if_pos hq,nn,if_true,if_neg c,if_pos hy,oQ,cmp_eq,Option.bind_some,w]<;>exact rfl) ht
   by_cases e:x=y
   ·subst e
    obtain⟨t,t1,t2⟩:=ih b (p++[x]) (by simpa using h) (by simpa using hl)
    refine⟨t,st t ?_,?_⟩
    ·have c0:sF x x=0:=by unfold sF;simp
     simp only [if_pos c0]
     rw[←nM,←nM]at t1
     exact t1
    rw[t2];simp[rz]
   have c0:¬sF x y=0:=by unfold sF;repeat' split<;>omega
   refine⟨sF x y,st _ ?_,?_⟩
   ·simp only [if_neg c0];exact Ev.val rfl
   unfold sF rz
   constructor
   ·intro q
    repeat' split at q
    all_goals first|exact .inl (by assumption)|omega
   intro q
   rcases q with q|q
   ·rw[if_pos q];omega
   exact absurd q.1 e
theorem J5 (a b:List Int) (h:a.length=b.length) (hl:a.length<=1000):∃t,Ev (fun k=>qC.f k a b) t/\(t<0↔rz a b):=J6 a b [] h hl
theorem Hz (p q:List Int) (x y:Int) (hp:p.length<=100) (hq:q.length<=100):Ev (fun k=>um.f k (p++[x]) (q++[y])) (decide (blt (p++[x]) (q++[y]))):=by
 have c1:=nD p x []
 have c2:=nD q y []
 have r1:rd (p++[x]) (p.length:Int)=x:=oQ p x []
 have r2:rd (q++[y]) (q.length:Int)=y:=oQ q y []
 have l1:nk (p++[x])=x:=by unfold nk;rw[List.getLastD_concat]
 have l2:nk (q++[y])=y:=by unfold nk;rw[List.getLastD_concat]
 unfold um.f
 simp only [yR p x hp,yR q y hq,nn,if_true,if_pos c1,if_pos c2,r1,r2]
 by_cases e:((p++[x]).length:Int)=((q++[y]).length:Int);rotate_left
 ·simp only [if_neg e]
  refine Ev.val ?_
  congr 1
  rw[decide_eq_decide]
  unfold blt
  constructor
  ·exact fun k=> .inl (by omega)
  rintro(k|⟨k,_⟩)
  ·omega
  omega
 have e':(p++[x]).length=(q++[y]).length:=by omega
 simp only [if_pos e]
 by_cases f:x=y
 ·obtain⟨t,t1,t2⟩:=J5 (p++[x]) (q++[y]) e' (by simp;omega)
  simp only [if_pos f]
  refine Ev.bind t1 (Ev.val ?_)
  congr 1
  rw[decide_eq_decide,t2]
  unfold blt
  rw[l1,l2]
  constructor
  ·exact fun k=> .inr ⟨e',.inr ⟨f,k⟩⟩
  rintro(k|⟨_,k|k⟩)
  ·omega
  ·omega
  exact k.2
 simp only [if_neg f]
 refine Ev.val ?_
 congr 1
 rw[decide_eq_decide]
 unfold blt
 rw[l1,l2]
 constructor
 ·exact fun k=> .inr ⟨e',.inl k⟩
 rintro(k|⟨_,k|k⟩)
 ·omega
 ·exact k
 exact absurd k.1 f
theorem Di (n:Int) (C:List Tie) (K:List Int):∀ (d:Nat) (pre:List Int) (v:Int),∀x∈qf n C K d pre v,x.length<=pre.length+d
 |0,_,_,x,h=>by simp[qf]at h
 |d+1,pre,v,x,h=>by
  unfold qf at h
  split at h
  ·rw[List.mem_singleton]at h
   subst h
   rw[List.length_append,List.length_singleton];omega
  rw[List.mem_flatMap]at h
  obtain⟨k,_,h⟩:=h
  have:=Di n C K d (pre++[v]) k x h
  simp at this
  omega
theorem EU {M:Nat}:∀ (l:List (List Int)) (b:List Int),b.length<=M->(∀x∈l,x.length<=M)->(l.foldl pV b).length<=M
 |[],_,h,_=>h
 |x::l,b,h,hx=>by
  rw[List.foldl_cons]
  refine EU l _ ?_ (fun y hy=>hx y (List.mem_cons_of_mem _ hy))
  unfold pV
  split
  ·exact hx x List.mem_cons_self
  exact h
def seen (n:Int) (lr:List Bool) (K:List Int):Prop:=(lr.length:Int)=n/\∀v,0<=v->v<n->(l8 false lr v=true↔v∈K)
theorem Ib (n:Int) (C:List S59) (hC:ok n C) (lr:List Bool) (K:List Int) (hS:seen n lr K):∀ (d:Nat) (pre:List Int) (v:Int) (best:List Int),(pre++[v]).Nodup->(∀x∈pre++[v],0<=x/\x<n)->n<=(d:Int)+pre.length->pre.length+d<=20->best.length<=20->
  Ev (fun k=>nA.f k (pre++[v]) lr best n C) ((qf n C K d pre v).foldl pV best):=by
 have hEl:=oG hC
 have hEb:(C.length:Int)<big:=by unfold big;omega
 have len:∀ (pre:List Int) (v:Int),(pre++[v]).Nodup->(∀x∈pre++[v],0<=x/\x<n)->(pre.length:Int)+1<=n:=by
  intro pre v hn hr
  have:=tQ hn (fun x hx=>qy.2 (hr x hx))
  rw[rf,List.length_append,List.length_singleton]at this
  have:=hC.1
  omega
 intro d
 induction d with
 |zero=>
  intro pre v best hn hr hd _ _
  have:=len pre v hn hr
  omega
 |succ d ih=>
  intro pre v best hn hr hd h9 hb
  have l1:=len pre v hn hr
  have h8:=hC.2.1
  have hw:=yR pre v (by omega)
  have c0:(0:Int)<=(pre.length:Int):=nn _
  have c1:(pre.length:Int)<((pre++[v]).length:Int):=by simp;omega
  have er:rd (pre++[v]) (pre.length:Int)=v:=oQ pre v []
  have lw:(pre++[v]).length<17592186044416:=by simp;omega
  have hwb:((pre++[v]).length:Int)<big:=by simp[big];omega
  have hv:=hr v (by simp)
  have c2:0<=v:=hv.1
  have c3:v<(lr.length:Int):=by rw[hS.1];exact hv.2
  have hs:=hS.2 v hv.1 hv.2
  by_cases c:v∈K
  ·have rt:l8 false lr v=true:=hs.2 c
   have bg:qf n C K (d+1) pre v=[pre++[v]]:=by unfold qf;rw[if_pos c]
   rw[bg,List.foldl_cons,List.foldl_nil]
   by_cases b0:best=[]
   ·have cb:(best.length:Int)=0:=by rw[b0];rfl
    refine Ev.step (fun k=>by simp only [nA.f,hw,if_pos c0,if_pos c1,er,if_pos c2,if_pos c3,if_pos rt,if_pos cb,AC _ lw]<;>exact rfl) (Ev.val ?_)
    unfold pV
    rw[if_pos (.inl b0)]
   have cb:¬ (best.length:Int)=0:=by
    have:=List.length_pos_iff.2 b0
    omega
   rcases List.eq_nil_or_concat best with e|⟨q,y,e⟩
   ·exact absurd e b0
   rw[List.concat_eq_append]at e
   subst e
   have be:=Hz pre q v y (by omega) (by simp at hb;omega)
   refine Ev.step (fun k=>by simp only [nA.f,hw,if_pos c0,if_pos c1,er,if_pos c2,if_pos c3,if_pos rt,if_neg cb,AC _ lw]<;>exact rfl) (Ev.bind be ?_)
   by_cases g:blt (pre++[v]) (q++[y])
   ·simp only [decide_eq_true g,if_true]
    refine Ev.val ?_
    unfold pV
    rw[if_pos (.inr g)]
   simp only [decide_eq_false g,Bool.false_eq_true,if_false]
   refine Ev.val ?_
   unfold pV
   rw[if_neg (fun k=>k.elim b0 g)]
  have rt:¬l8 false lr v=true:=fun k=>c (hs.1 k)
  refine Ev.step (fun k=>by simp only [nA.f,hw,if_pos c0,if_pos c1,er,if_pos c2,if_pos c3,if_neg rt]<;>exact rfl) ?_
  have wg:qf n C K (d+1) pre v=(((ni n).filter fun i=>decide (kS v i∈C)).filter fun k=> !decide (k∈pre++[v])).flatMap fun k=>qf n C K d (pre++[v]) k:=by
   rw[qf,if_neg c];rfl
  rw[wg]
  have loop:∀ (suf p:List Int) (best:List Int),p++suf=ni n->best.length<=20->
    Ev (fun k=>nA.l0 k (pre++[v]) lr best v n (p.length:Int) n C) ((((suf.filter fun i=>decide (kS v i∈C)).filter fun k=> !decide (k∈pre++[v])).flatMap fun k=>qf n C K d (pre++[v]) k).foldl pV best):=by
   intro suf
   induction suf with
   |nil=>
    intro p best hp _
    have e:=H6 hC.1 hp
    have e2:¬ (p.length:Int)<n:=by omega
    exact Ev.step (fun k=>by simp only [nA.l0,if_neg e2]<;>exact rfl) (Ev.val (by simp))
   |cons t suf ih2=>
    intro p best hp hb
    obtain⟨et,hlt⟩:=H7 hp
    have hp2:(p++[t])++suf=ni n:=by rw[←hp];simp
    have ws:wrap64 ((p.length:Int)+1)=((p++[t]).length:Int):=by rw[w64 (by omega) (by omega)];simp
    refine Ev.step (fun k=>by simp only [nA.l0,if_pos hlt]<;>exact rfl) ?_
    refine Ev.bind (xW n v (p.length:Int) C hEb) ?_
    rw[←et]
    by_cases ct:kS v t∈C;rotate_left
    ·simp only [ct,decide_false,Bool.false_eq_true,if_false]
     refine Ev.step (fun k=>by simp only [nA.j1,Bool.false_eq_true,if_false]<;>exact rfl) ?_
     have:=ih2 (p++[t]) best hp2 hb
     rw[et,ws]
     have e2:((t::suf).filter fun i=>decide (kS v i∈C))=(suf.filter fun i=>decide (kS v i∈C)):=by
      simp only [List.filter_cons,ct,decide_false,Bool.false_eq_true,if_false]
     rw[←et,e2]
     exact this
    simp only [ct,decide_true,if_true]
    refine Ev.bind (Ey (pre++[v]) t hwb) ?_
    by_cases cw:t∈pre++[v]
    ·refine Ev.step (fun k=>by simp only [nA.j1,cw,decide_true,Bool.not_true,Bool.false_eq_true,if_false]<;>exact rfl) ?_
     have:=ih2 (p++[t]) best hp2 hb
     rw[et,ws]
     rw[et]at cw ct
     have e2:((t::suf).filter fun i=>decide (kS v i∈C)).filter (fun k=> !decide (k∈pre++[v]))=(suf.filter fun i=>decide (kS v i∈C)).filter (fun k=> !decide (k∈pre++[v])):=by
      rw[et]
      simp only [List.filter_cons,ct,decide_true,if_true,cw,Bool.not_true,Bool.false_eq_true,if_false]
     rw[←et,e2]
     exact this
    have nd:((pre++[v])++[t]).Nodup:=by
     rw[List.nodup_append]
     exact⟨hn,by simp,fun x hx y hy e=>by rw[List.mem_singleton]at hy;subst hy;subst e;exact cw hx⟩
    have rg:∀x∈(pre++[v])++[t],0<=x/\x<n:=by
     intro x hx
     rcases List.mem_append.1 hx with hx|hx
     ·exact hr x hx
     rw[List.mem_singleton]at hx;omega
    have g:=ih (pre++[v]) t best nd rg (by simp only [List.length_append,List.length_singleton];omega) (by simp only [List.length_append,List.length_singleton];omega) hb
    have lt:(pre++[v]).length+[t].length<17592186044416:=by simp;omega
    refine Ev.step (fun k=>by simp only [nA.j1,cw,decide_false,Bool.not_false,if_true,AC _ lw,Option.bind_some,if_pos lt]<;>exact rfl) ?_
    refine Ev.bind g ?_
    have gl:=EU (M:=20) (qf n C K d (pre++[v]) t) best hb (fun x hx=>by have:=Di n C K d (pre++[v]) t x hx;simp at this;omega)
    have:=ih2 (p++[t]) _ hp2 gl
    rw[et,ws]
    have e2:((t::suf).filter fun i=>decide (kS v i∈C)).filter (fun k=> !decide (k∈pre++[v]))=t::(suf.filter fun i=>decide (kS v i∈C)).filter (fun k=> !decide (k∈pre++[v])):=by
     simp only [List.filter_cons,ct,decide_true,if_true,cw,decide_false,Bool.not_false]
    rw[←et,e2,List.flatMap_cons,List.foldl_append]
    exact this
  exact loop (ni n) [] best (by simp) hb
theorem Ia (n b:Int) (C:List S59) (hC:ok n C) (lr:List Bool) (K:List Int) (hS:seen n lr K) (hb:0<=b/\b<n) {p:List Int}(hp:qh C K b p):
  ∃q,vD C K b q/\Ev (fun k=>ul.f k n C b lr) q:=by
 refine⟨_,KQ hC.2.1 hC.2.2.1 hb hp,?_⟩
 have:=Ib n C hC lr K hS 9 [] b [] (by simp) (by simpa using hb) (by have:=hC.2.1;simp;omega) (by simp) (by simp)
 exact this
end Go.Proofs.Ytgeonpciodepgaa.P
namespace Go.Proofs.Ytgeonpciodepgaa.G
open Go.RowKit Go.Proofs.YtgeonpciodepgaaW.PrintWords
def roots (n:Int) (f:List Int):List Int:=(ni n).filter fun v=>decide (rd f v=v)
theorem zP {n v:Int}{f:List Int}:v∈roots n f↔(0<=v/\v<n)/\rd f v=v:=by
 unfold roots
 rw[List.mem_filter,qy,decide_eq_true_eq]
theorem Lj (n:Int) (f:List Int):(roots n f).Nodup:=(Fa n).sublist List.filter_sublist
theorem F5 {n:Int}{E:List Tie}{f:List Int}(h:Parts n E f) (h1:1<=n):1<=(roots n f).length:=by
 have:=h.low 0 (by omega) (by omega)
 exact List.length_pos_of_mem (zP.2 ⟨⟨by omega,by omega⟩,by omega⟩:(0:Int)∈roots n f)
end Go.Proofs.Ytgeonpciodepgaa.G
namespace Go.Proofs.Ytgeonpciodepgaa.P
open Go.RowKit Go.Proofs.YtgeonpciodepgaaW.PrintWords Go.Proofs.Ytgeonpciodepgaa.G Go.Proofs.YtgeonpciodepgaaW.PrintWords.Kd
theorem Li (i:Int) (f:List Int):(roots i f).length<=i.toNat:=by
 rw[←rf i];exact List.length_filter_le _ _
theorem Ll {i:Int}(h0:0<=i) (f:List Int):roots (i+1) f=roots i f++if rd f i=i then[i] else[]:=by
 unfold roots
 rw[zL h0,List.filter_append]
 congr 1
 by_cases c:rd f i=i
 ·rw[if_pos c,List.filter_cons,if_pos (decide_eq_true c)];rfl
 rw[if_neg c,List.filter_cons,if_neg (by simpa using c)];rfl
theorem IE (f:List Int) (h8:(f.length:Int)<=8):∀ (d:Nat) (i:Int),0<=i->i+d=(f.length:Int)->
  Ev (fun k=>qQ.l0 k ((roots i f).length:Int) f (f.length:Int) i) ((roots (f.length:Int) f).length:Int):=by
 intro d
 induction d with
 |zero=>
  intro i h0 hi
  have c:¬i<(f.length:Int):=by omega
  have e:i=(f.length:Int):=by omega
  exact Ev.step (fun k=>by simp only [qQ.l0,if_neg c]<;>exact rfl) (Ev.val (by rw[e]))
 |succ d ih=>
  intro i h0 hi
  have c:i<(f.length:Int):=by omega
  have w:wrap64 (i+1)=i+1:=w64 (by omega) (by omega)
  have nx:=ih (i+1) (by omega) (by omega)
  have hl:=Li i f
  have w2:wrap64 (((roots i f).length:Int)+1)=((roots i f).length:Int)+1:=w64 (by omega) (by omega)
  rw[Ll h0]at nx
  by_cases e:rd f i=i
  ·rw[if_pos e]at nx
   refine Ev.step (fun k=>by simp only [qQ.l0,if_pos c,if_pos h0,if_pos e.symm,w,w2]<;>exact rfl) ?_
   simpa using nx
  rw[if_neg e]at nx
  refine Ev.step (fun k=>by simp only [qQ.l0,if_pos c,if_pos h0,if_neg (fun h=>e (Eq.symm h)),w]<;>exact rfl) ?_
  simpa using nx
theorem IC (n:Int) (E:List S59) (hE:ok n E):∃f,Parts n E f/\Ev (fun k=>qQ.f k n E) ((roots n f).length:Int):=by
 obtain⟨f,e,h⟩:=FM n E hE
 refine⟨f,h,?_⟩
 have h8:=hE.2.1
 have hl:=h.len
 unfold qQ.f
 refine Ev.bind e ?_
 have:=IE f (by omega) f.length 0 (Int.le_refl 0) (by omega)
 rw[hl]at this⊢
 exact this
theorem Kv (n v:Int) (E:List S59) (hE:(E.length:Int)<big) (h8:n<=8):∀ (d:Nat) (i:Int),0<=i->i+d=n->
  Ev (fun k=>oK.l0 k v ((ni i).filter fun j=>decide (kS v j∈E)) i n E) (next n E v):=by
 intro d
 induction d with
 |zero=>
  intro i h0 hi
  have hi':i=n:=by omega
  subst hi'
  have c:¬i<i:=by omega
  refine Ev.step (fun k=>by simp only [oK.l0,c,if_false]<;>exact rfl) ?_
  exact Ev.val rfl
 |succ d ih=>
  intro i h0 hi
  have c:i<n:=by omega
  have w:wrap64 (i+1)=i+1:=w64 (by omega) (by omega)
  have hl:((ni i).filter fun j=>decide (kS v j∈E)).length<17592186044416:=by
   have:=List.length_filter_le (fun j=>decide (kS v j∈E)) (ni i)
   rw[rf]at this
   omega
  refine Ev.step (fun k=>by simp only [oK.l0,c,if_true,w,hl]<;>exact rfl) ?_
  refine Ev.bind (Fb n v i E hE) ?_
  have e:=ih (i+1) (by omega) (by omega)
  rw[zL h0,List.filter_append]at e
  by_cases d:kS v i∈E
  ·simp only [d,decide_true,if_true]
   simpa [d] using e
  simp only [d,decide_false,Bool.false_eq_true,if_false]
  simpa [d] using e
theorem wW (n v:Int) (E:List S59) (hE:ok n E):Ev (fun k=>oK.f k n E v) (next n E v):=by
 unfold oK.f
 have hb:(E.length:Int)<big:=by have:=oG hE;unfold big;omega
 exact Kv n v E hb hE.2.1 n.toNat 0 (by omega) (by have:=hE.1;omega)
def cnt (f:List Bool):Nat:=(f.filter fun b=> !b).length
theorem FT {f:List Bool}{u v:Int}(hu:0<=u) (hu2:u<(f.length:Int)) (hv:0<=v):l8 false (f.set u.toNat true) v=if u=v then true else l8 false f v:=by
 unfold l8
 rw[List.getD_eq_getElem?_getD,List.getD_eq_getElem?_getD,List.getElem?_set]
 by_cases c:u=v
 ·subst c
  rw[if_pos rfl,if_pos (by omega),if_pos rfl];rfl
 rw[if_neg (by omega),if_neg c]
theorem Bl:∀ {f:List Bool}{i:Nat},f.getD i false=false->i<f.length->cnt (f.set i true)+1=cnt f
 |[],i,_,h=>absurd h (Nat.not_lt_zero _)
 |b::f,0,h,_=>by
  have:b=false:=h
  subst this
  simp[cnt]
 |b::f,i+1,h,hl=>by
  have hl':i<f.length:=by simpa using hl
  have ih:=Bl (f:=f) (i:=i) (by simpa using h) hl'
  unfold cnt at*
  rw[List.set_cons_succ]
  cases b<;>simp at ih⊢<;>omega
structure Inv (n:Int) (E:List Tie) (a:Int) (f:List Bool) (q:List Int) (at_:Int->Prop):Prop where
 len:(f.length:Int)=n
 start:l8 false f a=true
 conn:∀v,0<=v->v<n->l8 false f v=true->mh E a v
 queue:∀x∈q,0<=x/\x<n/\l8 false f x=true
 done:∀v,0<=v->v<n->l8 false f v=true->v∈q\/at_ v\/∀w,kS v w∈E->l8 false f w=true
theorem K7 (n:Int) (E:List S59) (a:Int) (c:Int) (hE:∀t∈E,inr n t) (hc:0<=c/\c<n) (hca:mh E a c):∀ (suf p:List Int) (f:List Bool) (q:List Int),
  ((p++suf).length:Int)<big->(∀x∈suf,kS c x∈E)->q.length+cnt f<=1000->Inv n E a f q (fun v=>v=c)->
  ∃f' q',Inv n E a f' q' (fun v=>v=c)/\(∀x∈suf,l8 false f' x=true)/\(∀x,0<=x->l8 false f x=true->l8 false f' x=true)/\q'.length+cnt f'=q.length+cnt f/\cnt f'<=cnt f/\
   ∀r,Ev (fun k=>nZ.l0 k f' q' n E) r->Ev (fun k=>nZ.l1 k f q (p++suf) (p.length:Int) n E) r:=by
 intro suf
 induction suf with
 |nil=>
  intro p f q hb hs hm hI
  refine⟨f,q,hI,by simp,fun x _ h=>h,rfl,Nat.le_refl _,fun r hr=>?_⟩
  refine Ev.step (fun k=>by simp only [nZ.l1,qj,if_false]<;>exact rfl) hr
 |cons t suf ih=>
  intro p f q hb hs hm hI
  have hp:(p.length:Int)<big:=qx hb
  have ht:kS c t∈E:=hs t (List.mem_cons_self)
  have htr:=(o9 (hE _ ht)).2.1
  have b1:0<=t:=htr.1
  have b2:t<(f.length:Int):=by rw[hI.len];exact htr.2
  by_cases d:l8 false f t=true
  ·obtain⟨f',q',h1,h2,h3,h4,h5,h6⟩:=ih (p++[t]) f q (tN hb) (fun x hx=>hs x (List.mem_cons_of_mem _ hx)) hm hI
   refine⟨f',q',h1,fun x hx=>?_,h3,h4,h5,fun r hr=>?_⟩
   ·rcases List.mem_cons.1 hx with rfl|hx
    ·exact h3 _ b1 d
    exact h2 x hx
   refine Ev.step (fun k=>by simp only [nZ.l1,nD,nn,if_true,oQ,nP (t:=t) hp,b1,b2,d]<;>exact rfl) ?_
   rw[nM p t suf]
   exact h6 r hr
  have d':l8 false f t=false:=by simpa using d
  have hcnt:=Bl (f:=f) (i:=t.toNat) d' (by omega)
  have hq:q.length<17592186044416:=by omega
  have hset:∀v,0<=v->l8 false (f.set t.toNat true) v=if t=v then true else l8 false f v:=fun v hv=>FT b1 b2 hv
  have hI':Inv n E a (f.set t.toNat true) (q++[t]) (fun v=>v=c):=by
   refine⟨by rw[List.length_set];exact hI.len,?_,?_,?_,?_⟩
   ·by_cases ha:0<=a
    ·rw[hset a ha,hI.start];simp
    have h0:=hI.start
    unfold l8 at h0⊢
    rw[List.getD_eq_getElem?_getD]at h0⊢
    rw[List.getElem?_set]
    split
    ·split<;>simp_all
    exact h0
   ·intro v h0 h1 hv
    rw[hset v h0]at hv
    by_cases e:t=v
    ·subst e;exact hca.step ht
    rw[if_neg e]at hv;exact hI.conn v h0 h1 hv
   ·intro x hx
    rcases List.mem_append.1 hx with hx|hx
    ·obtain⟨x0,x1,x2⟩:=hI.queue x hx
     exact⟨x0,x1,by rw[hset x x0,x2];simp⟩
    rw[List.mem_singleton]at hx
    subst hx
    exact⟨b1,htr.2,by rw[hset _ b1];simp⟩
   intro v h0 h1 hv
   rw[hset v h0]at hv
   by_cases e:t=v
   ·subst e;exact .inl (by simp)
   rw[if_neg e]at hv
   rcases hI.done v h0 h1 hv with h|h|h
   ·exact .inl (by simp[h])
   ·exact .inr (.inl h)
   refine .inr (.inr (fun w hw=>?_))
   rw[hset w (o9 (hE _ hw)).2.1.1,h w hw];simp
  obtain⟨f',q',h1,h2,h3,h4,h5,h6⟩:=ih (p++[t]) (f.set t.toNat true) (q++[t]) (tN hb) (fun x hx=>hs x (List.mem_cons_of_mem _ hx)) (by simp;omega) hI'
  refine⟨f',q',h1,fun x hx=>?_,fun x h0 hx=>h3 x h0 (by rw[hset x h0,hx];simp),by rw[h4];simp;omega,by omega,fun r hr=>?_⟩
  ·rcases List.mem_cons.1 hx with rfl|hx
   ·exact h3 _ b1 (by rw[hset _ b1];simp)
   exact h2 x hx
  refine Ev.step (fun k=>by simp only [nZ.l1,nD,nn,if_true,oQ,nP (t:=t) hp,b1,b2,d',Bool.false_eq_true,if_false,hq]<;>exact rfl) ?_
  rw[nM p t suf]
  exact h6 r hr
theorem FX (n:Int) (E:List S59) (a:Int) (hE:ok n E) (f:List Bool) (hI:Inv n E a f [] (fun _=>False)):
  ∃f',Ev (fun k=>nZ.l0 k f [] n E) f'/\(f'.length:Int)=n/\∀v,0<=v->v<n->(l8 false f' v=true↔mh E a v):=by
 refine⟨f,Ev.step (fun k=>by simp[nZ.l0]<;>exact rfl) (Ev.val rfl),hI.len,fun v h0 h1=>⟨hI.conn v h0 h1,fun hc=>?_⟩⟩
 have key:0<=v/\v<n/\l8 false f v=true:=by
  refine hc.closed (fun x=>0<=x/\x<n/\l8 false f x=true) ?_ ?_
  ·have:=hc.symm.range hE.2.2.1 ⟨h0,h1⟩
   exact⟨this.1,this.2,hI.start⟩
  intro x y hx ht
  have:=(o9 (hE.2.2.1 _ ht)).2.1
  rcases hI.done x hx.1 hx.2.1 hx.2.2 with h|h|h
  ·simp at h
  ·exact h.elim
  exact⟨this.1,this.2,h y ht⟩
 exact key.2.2
theorem K6 (n:Int) (E:List S59) (a:Int) (hE:ok n E):∀ (m:Nat) (f:List Bool) (q:List Int),2*cnt f+q.length<=m->m<=1000->Inv n E a f q (fun _=>False)->
  ∃f',Ev (fun k=>nZ.l0 k f q n E) f'/\(f'.length:Int)=n/\∀v,0<=v->v<n->(l8 false f' v=true↔mh E a v):=by
 intro m
 induction m with
 |zero=>
  intro f q h1 h2 hI
  have:q=[]:=List.length_eq_zero_iff.1 (by omega)
  subst this
  exact FX n E a hE f hI
 |succ m ih=>
  intro f q h1 h2 hI
  cases q with
  |nil=>exact FX n E a hE f hI
  |cons c q=>
   have hc:=hI.queue c (List.mem_cons_self)
   have hcc:=hI.conn c hc.1 hc.2.1 hc.2.2
   have hI1:Inv n E a f q (fun v=>v=c):=by
    refine⟨hI.len,hI.start,hI.conn,fun x hx=>hI.queue x (List.mem_cons_of_mem _ hx),fun v h0 h1 hv=>?_⟩
    rcases hI.done v h0 h1 hv with h|h|h
    ·rcases List.mem_cons.1 h with rfl|h
     ·exact .inr (.inl rfl)
     exact .inl h
    ·exact h.elim
    exact .inr (.inr h)
   have hlen:(((next n E c)).length:Int)<big:=by
    have:=List.length_filter_le (fun i=>decide (kS c i∈E)) (ni n)
    have e:=rf n
    have h8:=hE.2.1
    unfold big;unfold next;omega
   simp only [List.length_cons]at h1
   obtain⟨f',q',i1,i2,i3,i4,i5,i6⟩:=K7 n E a c hE.2.2.1 ⟨hc.1,hc.2.1⟩ hcc (next n E c) [] f q hlen (fun x hx=>(rF hE.2.2.1).1 hx) (by omega) hI1
   have hI2:Inv n E a f' q' (fun _=>False):=by
    refine⟨i1.len,i1.start,i1.conn,i1.queue,fun v h0 h1 hv=>?_⟩
    rcases i1.done v h0 h1 hv with h|h|h
    ·exact .inl h
    ·refine .inr (.inr (fun w hw=>?_))
     subst h
     exact i2 w ((rF hE.2.2.1).2 hw)
    exact .inr (.inr h)
   obtain⟨f2,j1,j2⟩:=ih f' q' (by omega) (by omega) hI2
   refine⟨f2,?_,j2⟩
   have g1:((c::q).length:Int)>0:=by rw[List.length_cons];omega
   have g2:(0:Int)<((c::q).length:Int):=g1
   have g3:(1:Int)<=((c::q).length:Int):=by omega
   have g4:rd (c::q) 0=c:=rfl
   have g5:(c::q).drop ((1:Int)).toNat=q:=rfl
   refine Ev.step (fun k=>by simp only [nZ.l0,g1,g2,g3,g4,g5,if_true]<;>exact rfl) ?_
   refine Ev.bind (wW n c E hE) ?_
   exact i6 f2 j1
theorem K5 (n:Int) (E:List S59) (a:Int) (hE:ok n E) (h0:0<=a) (h1:a<n):
  ∃f,Ev (fun k=>nZ.f k n E a) f/\(f.length:Int)=n/\∀v,0<=v->v<n->(l8 false f v=true↔mh E a v):=by
 have h8:=hE.2.1
 have hb:(E.length:Int)<big:=by have:=oG hE;unfold big;omega
 have hn:n.toNat<=281474976710656:=by omega
 have hl:((List.replicate n.toNat false).length:Int)=n:=by rw[List.length_replicate];omega
 have hcnt:cnt (List.replicate n.toNat false)=n.toNat:=by simp[cnt]
 have hrep:∀v:Int,l8 false (List.replicate n.toNat false) v=false:=fun v=>by
  unfold l8
  rw[List.getD_eq_getElem?_getD,List.getElem?_replicate]
  split<;>rfl
 have hs:=Bl (f:=List.replicate n.toNat false) (i:=a.toNat) (hrep a) (by omega)
 have hset:∀v,0<=v->l8 false ((List.replicate n.toNat false).set a.toNat true) v=if a=v then true else false:=fun v hv=>by
  rw[FT h0 (by omega) hv,hrep]
 have hI:Inv n E a ((List.replicate n.toNat false).set a.toNat true) [a] (fun _=>False):=by
  refine⟨by rw[List.length_set];exact hl,by rw[hset a h0];simp,?_,?_,?_⟩
  ·intro v v0 v1 hv
   rw[hset v v0]at hv
   by_cases e:a=v
   ·subst e;exact .refl _
   rw[if_neg e]at hv;simp at hv
  ·intro x hx
   rw[List.mem_singleton]at hx
   subst hx
   exact⟨h0,h1,by rw[hset _ h0];simp⟩
  intro v v0 v1 hv
  rw[hset v v0]at hv
  by_cases e:a=v
  ·subst e;exact .inl (by simp)
  rw[if_neg e]at hv;simp at hv
 obtain⟨f,r1,r2⟩:=K6 n E a hE 100 _ [a] (by simp only [List.length_singleton];omega) (by omega) hI
 refine⟨f,?_,r2⟩
 unfold nZ.f
 refine Ev.bind (rq n a E hb) ?_
 have c:ok n E/\0<=a/\a<n:=⟨hE,h0,h1⟩
 have l2:a<((List.replicate n.toNat false).length:Int):=by omega
 simp only [c,and_self,decide_true,if_true,hE.1,hn,Option.bind_some,h0,l2]
 exact r1
def PL (n:Int) (E:List Tie) (a:List Int):Prop:=∀v,0<=v->v<(a.length:Int)->0<=rd a v/\rd a v<=v/\mh E v (rd a v)/\∀u,0<=u->u<n->mh E v u->rd a v<=u
theorem K4 {a:List Int}{x v:Int}(h0:0<=v) (h1:v<(a.length:Int)):rd (a++[x]) v=rd a v:=by
 unfold rd
 rw[List.getD_eq_getElem?_getD,List.getD_eq_getElem?_getD,List.getElem?_append_left (by omega)]
theorem K3 (a:List Int) (x:Int):rd (a++[x]) (a.length:Int)=x:=oQ a x []
theorem PL.parts {n:Int}{E:List Tie}{a:List Int}(h:PL n E a) (hl:(a.length:Int)=n):Parts n E a where
 len:=hl
 low:=fun v h0 h1=>⟨(h v h0 (by omega)).1,(h v h0 (by omega)).2.1⟩
 conn:=fun v h0 h1=>(h v h0 (by omega)).2.2.1
 same:=fun u v u0 u1 v0 v1 c=>by
  obtain⟨a1,a2,a3,a4⟩:=h u u0 (by omega)
  obtain⟨b1,b2,b3,b4⟩:=h v v0 (by omega)
  have:=a4 _ b1 (by omega) (c.trans b3)
  have:=b4 _ a1 (by omega) (c.symm.trans a3)
  omega
theorem Mq (n i:Int) (E:List S59) (f:List Bool) (hf:(f.length:Int)=n) (h8:n<=8) (hfc:∀v,0<=v->v<n->(l8 false f v=true↔mh E i v)) (i0:0<=i) (i1:i<n) (a:List Int) (hal:(a.length:Int)=i):
  ∀ (d:Nat) (v:Int),0<=v->v+d=i->(∀u,0<=u->u<v->¬mh E i u)->∃x,0<=x/\x<=i/\mh E i x/\(∀u,0<=u->u<x->¬mh E i u)/\
   ∀r,Ev (fun k=>oJ.l0 k (a++[x]) (i+1) n E) r->Ev (fun k=>oJ.l1 k a i f v n E) r:=by
 intro d
 have wi:wrap64 (i+1)=i+1:=w64 (by omega) (by omega)
 have al:a.length<17592186044416:=by omega
 induction d with
 |zero=>
  intro v h0 hd hu
  obtain rfl:v=i:=by omega
  have c:l8 false f v=true:=(hfc v h0 i1).2 (.refl _)
  refine⟨v,h0,Int.le_refl _,.refl _,hu,fun r hr=>?_⟩
  have f1:v<(f.length:Int):=by omega
  refine Ev.step (fun k=>by simp only [oJ.l1,if_pos h0,if_pos f1,if_pos c,if_pos al,wi]<;>exact rfl) hr
 |succ d ih=>
  intro v h0 hd hu
  have f1:v<(f.length:Int):=by omega
  have wv:wrap64 (v+1)=v+1:=w64 (by omega) (by omega)
  by_cases c:l8 false f v=true
  ·refine⟨v,h0,by omega,(hfc v h0 (by omega)).1 c,hu,fun r hr=>?_⟩
   refine Ev.step (fun k=>by simp only [oJ.l1,if_pos h0,if_pos f1,if_pos c,if_pos al,wi]<;>exact rfl) hr
  have nc:¬mh E i v:=fun q=>c ((hfc v h0 (by omega)).2 q)
  obtain⟨x,x0,x1,x2,x3,x4⟩:=ih (v+1) (by omega) (by omega) (fun u u0 u1=>by
   by_cases e:u=v
   ·subst e;exact nc
   exact hu u u0 (by omega))
  refine⟨x,x0,x1,x2,x3,fun r hr=>?_⟩
  refine Ev.step (fun k=>by simp only [oJ.l1,if_pos h0,if_pos f1,if_neg c,wv]<;>exact rfl) (x4 r hr)
theorem Mo (n:Int) (E:List S59) (hE:ok n E):∀ (d:Nat) (i:Int) (a:List Int),0<=i->i+d=n->(a.length:Int)=i->PL n E a->
  ∃f,Ev (fun k=>oJ.l0 k a i n E) f/\Parts n E f:=by
 intro d
 induction d with
 |zero=>
  intro i a h0 h hl hp
  obtain rfl:i=n:=by omega
  exact⟨a,Ev.step (fun k=>by simp only [oJ.l0,if_neg (Int.lt_irrefl _)]<;>exact rfl) (Ev.val rfl),hp.parts hl⟩
 |succ d ih=>
  intro i a h0 h hl hp
  have c:i<n:=by omega
  obtain⟨fl,e1,e2,e3⟩:=K5 n E i hE h0 c
  obtain⟨x,x0,x1,x2,x3,x4⟩:=Mq n i E fl e2 hE.2.1 e3 h0 c a hl i.toNat 0 (Int.le_refl _) (by omega) (fun u u0 u1=>by omega)
  obtain⟨f,f1,f2⟩:=ih (i+1) (a++[x]) (by omega) (by omega) (by simp;omega) (fun v v0 v1=>by
   by_cases e:v=i
   ·subst e
    have:rd (a++[x]) v=x:=by rw[←hl];exact K3 a x
    rw[this]
    refine⟨x0,x1,x2,fun u u0 u1 cu=>?_⟩
    apply Classical.byContradiction
    intro q
    exact x3 u u0 (by omega) cu
   have v2:v<(a.length:Int):=by simp at v1;omega
   rw[K4 v0 v2]
   exact hp v v0 v2)
  exact⟨f,Ev.step (fun k=>by simp only [oJ.l0,if_pos c]<;>exact rfl) (Ev.bind e1 (x4 f f1)),f2⟩
theorem Gs (n:Int) (E:List S59) (hE:ok n E):∃f,Ev (fun k=>oJ.f k n E) f/\Parts n E f:=by
 have h0:=hE.1
 obtain⟨f,a,b⟩:=Mo n E hE n.toNat 0 [] (Int.le_refl _) (by omega) rfl (fun v v0 v1=>by simp at v1;omega)
 refine⟨f,?_,b⟩
 unfold oJ.f
 simp only [Option.bind_some]
 refine Ev.bind (uW n E (by have:=oG hE;unfold big;omega)) ?_
 simp only [decide_eq_true hE,if_true]
 exact a
theorem LV (s t:Tie):(!(s.f0==t.f0)||(!(s.f1==t.f1)))= !decide (s=t):=by
 obtain⟨a,b⟩:=s
 obtain⟨c,d⟩:=t
 simp only [Tie.mk.injEq]
 by_cases h:a=c<;>by_cases k:b=d<;>simp[h,k]
theorem Lv (n a b m:Int):∀ (suf p q:List S59),((p++suf).length:Int)<=1048576->q.length<=p.length->
  Ev (fun k=>nJ.l0 k a b (p.length:Int) n (p++suf) m q) (m,q++cut suf (kS a b),true):=by
 intro suf
 induction suf with
 |nil=>
  intro p q hb hq
  refine Ev.step (fun k=>by simp only [nJ.l0,qj,if_false]<;>exact rfl) ?_
  exact Ev.val (by simp[cut])
 |cons t suf ih=>
  intro p q hb hq
  have hb':((p++t::suf).length:Int)<big:=by unfold big;omega
  have hp:(p.length:Int)<big:=qx hb'
  have hq8:q.length<8796093022208:=by rw[List.length_append]at hb;omega
  refine Ev.step (fun k=>by simp only [nJ.l0,nD,nn,if_true,w_,nP (t:=t) hp,vZ,Option.bind_some,LV,hq8]<;>exact rfl) ?_
  by_cases c:t=kS a b
  ·have c':(!decide (t=kS a b))=false:=by rw[decide_eq_true c];rfl
   simp only [c',Bool.false_eq_true,if_false]
   rw[nM p t suf]
   refine Ev.eq (ih (p++[t]) q (by rw[←nM];exact hb) (by simp;omega)) ?_
   simp[cut,c]
  have c':(!decide (t=kS a b))=true:=by rw[decide_eq_false c];rfl
  simp only [c',if_true]
  rw[nM p t suf]
  refine Ev.eq (ih (p++[t]) (q++[t]) (by rw[←nM];exact hb) (by simp;omega)) ?_
  simp[cut,c]
theorem vM (n a b:Int) (E:List S59) (hE:(E.length:Int)<=1048576):
  Ev (fun k=>nJ.f k n E a b) (if ok n E/\kS a b∈E then(n,cut E (kS a b),true) else(0,[],false)):=by
 unfold nJ.f
 refine Ev.bind (F9 n a b E (by unfold big;omega)) ?_
 by_cases c:ok n E/\kS a b∈E
 ·simp only [if_pos c]
  simp only [c,and_self,decide_true,if_true]
  exact Lv n a b n E [] [] hE (Nat.le_refl _)
 simp only [if_neg c]
 simp only [c,decide_false,Bool.false_eq_true,if_false]
 exact Ev.val rfl
theorem Ma (f:List Int) (hf:(f.length:Int)<=8):∀ (d:Nat) (i c:Int),0<=i->i+d=f.length->∃r,Ev (fun k=>oM.l0 k f c i) r:=by
 intro d
 induction d with
 |zero=>
  intro i c h0 h
  have e:¬i<(f.length:Int):=by omega
  exact⟨c,Ev.step (fun k=>by simp only [oM.l0,if_neg e]<;>exact rfl) (Ev.val rfl)⟩
 |succ d ih=>
  intro i c h0 h
  have e:i<(f.length:Int):=by omega
  have w:wrap64 (i+1)=i+1:=w64 (by omega) (by omega)
  by_cases q:rd f i=i
  ·obtain⟨r,hr⟩:=ih (i+1) (wrap64 (c+1)) (by omega) (by omega)
   exact⟨r,Ev.step (fun k=>by simp only [oM.l0,if_pos e,if_pos h0,if_pos q,w]<;>exact rfl) hr⟩
  obtain⟨r,hr⟩:=ih (i+1) c (by omega) (by omega)
  exact⟨r,Ev.step (fun k=>by simp only [oM.l0,if_pos e,if_pos h0,if_neg q,w]<;>exact rfl) hr⟩
theorem Cj (n:Int) (E:List S59) (hE:ok n E):∃r,Ev (fun k=>oM.f k n E) r:=by
 obtain⟨f,f1,f2⟩:=Gs n E hE
 have hl:=f2.len
 have h8:=hE.2.1
 obtain⟨r,hr⟩:=Ma f (by omega) f.length 0 0 (Int.le_refl _) (by omega)
 refine⟨r,?_⟩
 unfold oM.f
 refine Ev.bind (uW n E (by have:=oG hE;unfold big;omega)) ?_
 simp only [decide_eq_true hE,if_true]
 exact Ev.bind f1 hr
theorem Ig (n a b:Int) (E:List S59) (hE:ok n E):∃r,Ev (fun k=>qD.f k n E a b) r:=by
 have hl:=oG hE
 unfold qD.f
 by_cases c:ok n E/\kS a b∈E
 ·obtain⟨x,hx⟩:=Cj n (cut E (kS a b)) (uU _ hE)
  obtain⟨y,hy⟩:=Cj n E hE
  refine⟨decide (x>y),Ev.bind (vM n a b E (by omega)) ?_⟩
  simp only [if_pos c,if_true]
  exact Ev.bind hx (Ev.bind hy (Ev.val rfl))
 refine⟨false,Ev.bind (vM n a b E (by omega)) ?_⟩
 simp only [if_neg c,Bool.false_eq_true,if_false]
 exact Ev.val rfl
theorem Ij (n:Int) (E:List S59) (hE:ok n E):∀ (suf p:List S59) (q:List S59),p++suf=E->q.length<=p.length->∃r,Ev (fun k=>nV.l0 k q (p.length:Int) n E) r:=by
 have hl:=oG hE
 intro suf
 induction suf with
 |nil=>
  intro p q e hq
  rw[List.append_nil]at e
  subst e
  have c:¬ (p.length:Int)<(p.length:Int):=by omega
  exact⟨q,Ev.step (fun k=>by simp only [nV.l0,if_neg c]<;>exact rfl) (Ev.val rfl)⟩
 |cons t suf ih=>
  intro p q e hq
  have c:(p.length:Int)<(E.length:Int):=by rw[←e];exact nD p t suf
  have w:wrap64 ((p.length:Int)+1)=((p++[t]).length:Int):=nP (by unfold big;omega)
  have q8:q.length<8796093022208:=by omega
  obtain⟨b,hb⟩:=Ig n ((jQ E (p.length:Int)).f0) ((jQ E (p.length:Int)).f1) E hE
  cases b with
  |true=>
   obtain⟨r,hr⟩:=ih (p++[t]) (q++[⟨(jQ E (p.length:Int)).f0,(jQ E (p.length:Int)).f1⟩]) (by rw[←e];simp) (by simp;omega)
   refine⟨r,Ev.step (fun k=>by simp only [nV.l0,if_pos c,nn,if_true,w]<;>exact rfl) (Ev.bind hb ?_)⟩
   simp only [if_true,if_pos q8]
   exact hr
  |false=>
   obtain⟨r,hr⟩:=ih (p++[t]) q (by rw[←e];simp) (by simp;omega)
   refine⟨r,Ev.step (fun k=>by simp only [nV.l0,if_pos c,nn,if_true,w]<;>exact rfl) (Ev.bind hb ?_)⟩
   simp only [Bool.false_eq_true,if_false]
   exact hr
theorem Ik (n:Int) (E:List S59) (hE:ok n E):∃r,Ev (fun k=>nV.f k n E) r:=by
 obtain⟨r,hr⟩:=Ij n E hE E [] [] rfl (Nat.le_refl _)
 refine⟨r,?_⟩
 unfold nV.f
 simp only [Option.bind_some]
 refine Ev.bind (uW n E (by have:=oG hE;unfold big;omega)) ?_
 simp only [decide_eq_true hE,if_true]
 exact hr
theorem Md (n a m:Int) (E:List S59) (hE:(E.length:Int)<=64):∀ (suf p:List S59) (q:List S59),p++suf=E->q.Sublist p->∃F,Ev (fun k=>nY.l0 k a (p.length:Int) n E m q) (m,F)/\F.Sublist E:=by
 intro suf
 induction suf with
 |nil=>
  intro p q e hq
  rw[List.append_nil]at e
  subst e
  have c:¬ (p.length:Int)<(p.length:Int):=by omega
  exact⟨q,Ev.step (fun k=>by simp only [nY.l0,if_neg c]<;>exact rfl) (Ev.val rfl),hq⟩
 |cons t suf ih=>
  intro p q e hq
  have c:(p.length:Int)<(E.length:Int):=by rw[←e];exact nD p t suf
  have w:wrap64 ((p.length:Int)+1)=((p++[t]).length:Int):=nP (by unfold big;omega)
  have q8:q.length<8796093022208:=by have:=hq.length_le;omega
  have rt:jQ E (p.length:Int)=t:=by unfold jQ;rw[←e];exact vX p t suf _
  have no:q.Sublist (p++[t]):=hq.trans (List.sublist_append_left _ _)
  by_cases c1:t.f0=a
  ·obtain⟨r,hr,hs⟩:=ih (p++[t]) q (by rw[←e];simp) no
   exact⟨r,Ev.step (fun k=>by simp only [nY.l0,if_pos c,nn,if_true,w,rt,if_pos c1]<;>exact rfl) hr,hs⟩
  by_cases c2:t.f1=a
  ·obtain⟨r,hr,hs⟩:=ih (p++[t]) q (by rw[←e];simp) no
   exact⟨r,Ev.step (fun k=>by simp only [nY.l0,if_pos c,nn,if_true,w,rt,if_neg c1,if_pos c2]<;>exact rfl) hr,hs⟩
  obtain⟨r,hr,hs⟩:=ih (p++[t]) (q++[⟨t.f0,t.f1⟩]) (by rw[←e];simp) (hq.append (List.Sublist.refl _))
  exact⟨r,Ev.step (fun k=>by simp only [nY.l0,if_pos c,nn,if_true,w,rt,if_neg c1,if_neg c2,if_pos q8]<;>exact rfl) hr,hs⟩
theorem Me (n a:Int) (E:List S59) (hE:ok n E):∃m F,Ev (fun k=>nY.f k n E a) (m,F)/\ok m F:=by
 have hl:=oG hE
 unfold nY.f
 by_cases c:ok n E/\0<=a/\a<n
 ·obtain⟨F,f1,f2⟩:=Md n a n E hl E [] [] rfl (List.Sublist.refl _)
  refine⟨n,F,Ev.bind (rq n a E (by unfold big;omega)) ?_,FE hE f2⟩
  simp only [decide_eq_true c,if_true]
  exact f1
 refine⟨0,[],Ev.bind (rq n a E (by unfold big;omega)) ?_,⟨Int.le_refl _,by decide,by simp,by simp[asc]⟩⟩
 simp only [decide_eq_false c,Bool.false_eq_true,if_false]
 exact Ev.val rfl
theorem AA (n v:Int) (E:List S59) (hE:ok n E):Ev (fun k=>vN.f k n E v) (((next n E v).length:Int)==0):=by
 unfold vN.f
 exact Ev.bind (wW n v E hE) (Ev.val rfl)
def qY (f:List Int):Nat:=(f.filter fun x=>decide (x<0)).length
theorem Bj:∀ {f:List Int}{i:Nat}{x:Int},i<f.length->f.getD i 0<0->0<=x->qY (f.set i x)+1=qY f
 |[],i,_,h,_,_=>absurd h (Nat.not_lt_zero _)
 |b::f,0,x,_,h,hx=>by
  have h:b<0:=h
  have hx:¬x<0:=by omega
  simp[qY,h,hx]
 |b::f,i+1,x,hl,h,hx=>by
  have ih:=Bj (f:=f) (i:=i) (x:=x) (by simpa using hl) (by simpa using h) hx
  unfold qY at*
  rw[List.set_cons_succ,List.filter_cons,List.filter_cons]
  by_cases c:b<0
  ·simp only [c,decide_true,if_true,List.length_cons];omega
  simp only [c,decide_false,Bool.false_eq_true,if_false];exact ih
structure FI (n:Int) (E:List Tie) (b:Int) (f q:List Int) (d:Int) (busy:Int->Prop):Prop where
 base:0<=b
 len:(f.length:Int)=n
 zero:rd f b=0
 only:∀v,0<=v->v<n->rd f v=0->v=b
 lo:∀v,0<=v->v<n-> -1<=rd f v
 hi:∀v,0<=v->v<n->rd f v<=d+1
 bd:∀v,0<=v->v<n->rd f v+qY f+1<=n
 down:∀v,0<=v->v<n->0<rd f v->∃w,kS v w∈E/\rd f w=rd f v - 1
 pos:0<=d
 queue:∀x∈q,0<=x/\x<n/\d<=rd f x
 sorted:q.Pairwise fun x y=>rd f x<=rd f y
 done:∀v,0<=v->v<n->0<=rd f v->v∈q\/busy v\/∀w,kS v w∈E->0<=rd f w/\rd f w<=rd f v+1
theorem FI.see {n:Int}{E:List Tie}{b:Int}{f q:List Int}{d c t:Int}(hE:∀t∈E,inr n t) (h:FI n E b f q d (fun v=>v=c)) (hc:0<=c/\c<n) (hcd:rd f c=d) (ht:kS c t∈E) (hn:rd f t<0):
  FI n E b (f.set t.toNat (d+1)) (q++[t]) d (fun v=>v=c)/\qY (f.set t.toNat (d+1))+1=qY f/\(∀x,0<=x->0<=rd f x->rd (f.set t.toNat (d+1)) x=rd f x)/\rd (f.set t.toNat (d+1)) t=d+1:=by
 have hr:=(o9 (hE _ ht)).2.1
 have hl:=h.len
 have rs:∀x,0<=x->rd (f.set t.toNat (d+1)) x=if t=x then d+1 else rd f x:=fun x hx=>yh hr.1 (by omega) hx
 have cs:qY (f.set t.toNat (d+1))+1=qY f:=Bj (by omega) (by unfold rd at hn;exact hn) (by have:=h.pos;omega)
 have keep:∀x,0<=x->0<=rd f x->rd (f.set t.toNat (d+1)) x=rd f x:=fun x hx h0=>by
  rw[rs x hx,if_neg (fun e=>by subst e;omega)]
 have b0:0<=b:=h.base
 have bt:b≠t:=fun e=>by have:=h.zero;rw[e]at this;omega
 refine⟨⟨h.base,by simp;exact hl,?_,?_,?_,?_,?_,?_,h.pos,?_,?_,?_⟩,cs,keep,by rw[rs t hr.1,if_pos rfl]⟩
 ·rw[rs b b0,if_neg (fun e=>bt e.symm)];exact h.zero
 ·intro v v0 v1 e
  rw[rs v v0]at e
  split at e
  ·have:=h.pos;omega
  exact h.only v v0 v1 e
 ·intro v v0 v1
  rw[rs v v0]
  split
  ·have:=h.pos;omega
  exact h.lo v v0 v1
 ·intro v v0 v1
  rw[rs v v0]
  split
  ·omega
  exact h.hi v v0 v1
 ·intro v v0 v1
  rw[rs v v0]
  split
  ·have:=h.bd c hc.1 hc.2;omega
  have:=h.bd v v0 v1;omega
 ·intro v v0 v1 e
  rw[rs v v0]at e⊢
  split at e
  ·rename_i q
   subst q
   refine⟨c,by rw[yx];exact ht,?_⟩
   rw[if_pos rfl,keep c hc.1 (by have:=h.pos;omega),hcd];omega
  rename_i q
  rw[if_neg q]
  obtain⟨w,w1,w2⟩:=h.down v v0 v1 e
  exact⟨w,w1,by rw[keep w (o9 (hE _ w1)).2.1.1 (by omega),w2]⟩
 ·intro x hx
  rcases List.mem_append.1 hx with hx|hx
  ·obtain⟨a1,a2,a3⟩:=h.queue x hx
   exact⟨a1,a2,by rw[keep x a1 (by have:=h.pos;omega)];exact a3⟩
  rw[List.mem_singleton]at hx
  subst hx
  exact⟨hr.1,hr.2,by rw[rs x hr.1,if_pos rfl];omega⟩
 ·rw[List.pairwise_append]
  refine⟨?_,by simp,?_⟩
  ·refine List.Pairwise.imp_of_mem ?_ h.sorted
   intro x y hx hy e
   obtain⟨a1,a2,a3⟩:=h.queue x hx
   obtain⟨b1,b2,b3⟩:=h.queue y hy
   have:=h.pos
   rw[keep x a1 (by omega),keep y b1 (by omega)];exact e
  intro x hx y hy
  rw[List.mem_singleton]at hy
  subst hy
  obtain⟨a1,a2,a3⟩:=h.queue x hx
  have:=h.pos
  have:=h.hi x a1 a2
  rw[keep x a1 (by omega),rs y hr.1,if_pos rfl];omega
 intro v v0 v1 e
 by_cases q:t=v
 ·subst q;exact .inl (by simp)
 rw[rs v v0,if_neg q]at e⊢
 rcases h.done v v0 v1 e with k|k|k
 ·exact .inl (by simp[k])
 ·exact .inr (.inl k)
 refine .inr (.inr fun w hw=>?_)
 have:=k w hw
 rw[keep w (o9 (hE _ hw)).2.1.1 this.1];exact this
theorem Ji (n:Int) (E:List S59) (b c d:Int) (hE:∀t∈E,inr n t) (h8:n<=8) (hc:0<=c/\c<n):∀ (suf p f q:List Int),((p++suf).length:Int)<big->(∀x∈suf,kS c x∈E)->q.length+qY f<=1000->rd f c=d->FI n E b f q d (fun v=>v=c)->
  ∃f' q',FI n E b f' q' d (fun v=>v=c)/\rd f' c=d/\(∀x∈suf,0<=rd f' x)/\(∀x,0<=x->0<=rd f x->0<=rd f' x)/\q'.length+qY f'=q.length+qY f/\qY f'<=qY f/\
   ∀r,Ev (fun k=>mO.l1 k f' q' n E) r->Ev (fun k=>mO.l2 k f q c (p++suf) (p.length:Int) n E) r:=by
 intro suf
 induction suf with
 |nil=>
  intro p f q hb hs hm hcd hI
  exact⟨f,q,hI,hcd,by simp,fun x _ h=>h,rfl,Nat.le_refl _,fun r hr=>Ev.step (fun k=>by simp only [mO.l2,qj,if_false]<;>exact rfl) hr⟩
 |cons t suf ih=>
  intro p f q hb hs hm hcd hI
  have hp:(p.length:Int)<big:=qx hb
  have htE:=hs t (by simp)
  have hr:=(o9 (hE _ htE)).2.1
  have hl:=hI.len
  have g0:0<=t:=hr.1
  have g1:t<(f.length:Int):=by omega
  have k0:0<=c:=hc.1
  have k1:c<(f.length:Int):=by omega
  have ql:q.length<17592186044416:=by omega
  have hs':∀x∈suf,kS c x∈E:=fun x hx=>hs x (List.mem_cons_of_mem _ hx)
  have hb':(((p++[t])++suf).length:Int)<big:=by rw[←nM];exact hb
  by_cases u:rd f t<0
  ·obtain⟨s1,s2,s3,s4⟩:=hI.see hE hc hcd htE u
   have bdc:=hI.bd c hc.1 hc.2
   have dp:=hI.pos
   have wd:wrap64 (rd f c+1)=d+1:=by rw[hcd];exact w64 (by omega) (by omega)
   obtain⟨f',q',i1,i2,i3,i4,i5,i6,i7⟩:=ih (p++[t]) _ (q++[t]) hb' hs' (by simp;omega) (by rw[s3 c hc.1 (by omega)];exact hcd) s1
   refine⟨f',q',i1,i2,fun x hx=>?_,fun x x0 hx=>i4 x x0 (by rw[s3 x x0 hx];exact hx),by simp at i5;omega,by omega,fun r hr2=>?_⟩
   ·rcases List.mem_cons.1 hx with rfl|hx
    ·exact i4 x g0 (by rw[s4];omega)
    exact i3 x hx
   have:=i7 r hr2
   rw[←nM]at this
   exact Ev.step (fun k=>by simp only [mO.l2,nD,nn,if_true,oQ,if_pos g0,if_pos g1,if_pos u,if_pos k0,if_pos k1,if_pos ql,wd,nP (t:=t) hp]<;>exact rfl) this
  obtain⟨f',q',i1,i2,i3,i4,i5,i6,i7⟩:=ih (p++[t]) f q hb' hs' hm hcd hI
  refine⟨f',q',i1,i2,fun x hx=>?_,i4,i5,i6,fun r hr2=>?_⟩
  ·rcases List.mem_cons.1 hx with rfl|hx
   ·exact i4 x g0 (by omega)
   exact i3 x hx
  have:=i7 r hr2
  rw[←nM]at this
  exact Ev.step (fun k=>by simp only [mO.l2,nD,nn,if_true,oQ,if_pos g0,if_pos g1,if_neg u,nP (t:=t) hp]<;>exact rfl) this
theorem Jh (n:Int) (E:List S59) (b:Int) (hE:ok n E):∀ (m:Nat) (f q:List Int) (d:Int),2*qY f+q.length<=m->m<=900->FI n E b f q d (fun _=>False)->
  ∃f',Ev (fun k=>mO.l1 k f q n E) f'/\(f'.length:Int)=n/\(∀v,0<=v->v<n->rd f' v<=n)/\Far n E b (rd f'):=by
 intro m
 induction m with
 |zero=>
  intro f q d hm h9 hI
  have e:q=[]:=List.eq_nil_of_length_eq_zero (by omega)
  subst e
  have c:¬ (([]:List Int).length:Int)>0:=by simp
  refine⟨f,Ev.step (fun k=>by simp only [mO.l1,if_neg c]<;>exact rfl) (Ev.val rfl),hI.len,fun v v0 v1=>by have:=hI.bd v v0 v1;omega,?_⟩
  exact⟨hI.zero,hI.only,hI.down,fun v w ht h0=>by
   have:=(o9 (hE.2.2.1 _ ht)).1
   rcases hI.done v this.1 this.2 h0 with k|k|k
   ·simp at k
   ·exact k.elim
   exact k w ht,hI.lo⟩
 |succ m ih=>
  intro f q d hm h9 hI
  cases q with
  |nil=>
   have c:¬ (([]:List Int).length:Int)>0:=by simp
   refine⟨f,Ev.step (fun k=>by simp only [mO.l1,if_neg c]<;>exact rfl) (Ev.val rfl),hI.len,fun v v0 v1=>by have:=hI.bd v v0 v1;omega,?_⟩
   exact⟨hI.zero,hI.only,hI.down,fun v w ht h0=>by
    have:=(o9 (hE.2.2.1 _ ht)).1
    rcases hI.done v this.1 this.2 h0 with k|k|k
    ·simp at k
    ·exact k.elim
    exact k w ht,hI.lo⟩
  |cons x q=>
   obtain⟨x0,x1,x2⟩:=hI.queue x (by simp)
   have hs:=List.pairwise_cons.1 hI.sorted
   have dp:=hI.pos
   have I2:FI n E b f q (rd f x) (fun v=>v=x):=⟨hI.base,hI.len,hI.zero,hI.only,hI.lo,fun v v0 v1=>by have:=hI.hi v v0 v1;omega,hI.bd,hI.down,by omega,fun y hy=>⟨(hI.queue y (by simp[hy])).1,(hI.queue y (by simp[hy])).2.1,hs.1 y hy⟩,hs.2,fun v v0 v1 h0=>by
    rcases hI.done v v0 v1 h0 with k|k|k
    ·rcases List.mem_cons.1 k with k|k
     ·exact .inr (.inl k)
     exact .inl k
    ·exact k.elim
    exact .inr (.inr k)⟩
   have nl:((next n E x).length:Int)<big:=by
    have:=List.length_filter_le (fun i=>decide (kS x i∈E)) (ni n)
    rw[rf]at this
    have:=hE.2.1
    unfold next big
    omega
   obtain⟨f',q',i1,i2,i3,i4,i5,i6,i7⟩:=Ji n E b x (rd f x) hE.2.2.1 hE.2.1 ⟨x0,x1⟩ (next n E x) [] f q (by simpa using nl) (fun y hy=>(rF hE.2.2.1).1 hy) (by simp at hm;omega) rfl I2
   have I3:FI n E b f' q' (rd f x) (fun _=>False):=⟨i1.base,i1.len,i1.zero,i1.only,i1.lo,i1.hi,i1.bd,i1.down,i1.pos,i1.queue,i1.sorted,fun v v0 v1 h0=>by
    rcases i1.done v v0 v1 h0 with k|k|k
    ·exact .inl k
    ·subst k
     refine .inr (.inr fun w hw=>?_)
     have wr:=(o9 (hE.2.2.1 _ hw)).2.1
     exact⟨i3 w ((rF hE.2.2.1).2 hw),by have:=i1.hi w wr.1 wr.2;omega⟩
    exact .inr (.inr k)⟩
   obtain⟨f2,e1,e2,e3,e4⟩:=ih f' q' (rd f x) (by simp at hm;omega) (by omega) I3
   refine⟨f2,?_,e2,e3,e4⟩
   have c1:((x::q).length:Int)>0:=by rw[List.length_cons];omega
   have c2:0<((x::q).length:Int):=c1
   have c3:1<=((x::q).length:Int):=by omega
   have er:rd (x::q) 0=x:=rfl
   refine Ev.step (fun k=>by simp only [mO.l1,if_pos c1,if_pos c2,er]<;>exact rfl) ?_
   refine Ev.bind (wW n x E hE) ?_
   simp only [if_pos c3]
   have ed:(x::q).drop (1:Int).toNat=q:=rfl
   rw[ed]
   exact i7 _ e1
theorem FV (m:Nat) (v:Int):rd (List.replicate m (-1)) v=if v.toNat<m then -1 else 0:=by
 unfold rd
 rw[List.getD_eq_getElem?_getD]
 by_cases c:v.toNat<m
 ·rw[if_pos c,List.getElem?_replicate,if_pos c];rfl
 rw[if_neg c,List.getElem?_replicate,if_neg c];rfl
theorem ER (n:Int) (E:List S59) (b:Int) (hE:ok n E) (hb:0<=b/\b<n):∃f,Ev (fun k=>mO.f k n E b) f/\(f.length:Int)=n/\(∀v,0<=v->v<n->rd f v<=n)/\Far n E b (rd f):=by
 have h8:=hE.2.1
 have hl:((List.replicate n.toNat (-1:Int)).length:Int)=n:=by simp;omega
 have rs:∀v,0<=v->v<n->rd ((List.replicate n.toNat (-1)).set b.toNat 0) v=if b=v then 0 else -1:=fun v v0 v1=>by
  rw[yh hb.1 (by omega) v0]
  by_cases q:b=v
  ·rw[if_pos q,if_pos q]
  rw[if_neg q,if_neg q,FV,if_pos (by omega)]
 have c0:qY (List.replicate n.toNat (-1:Int))=n.toNat:=by
  unfold qY
  rw[List.filter_eq_self.2]
  ·simp
  intro x hx;rw[List.eq_of_mem_replicate hx];rfl
 have cs:qY ((List.replicate n.toNat (-1:Int)).set b.toNat 0)+1=n.toNat:=by
  rw[Bj (by simp;omega) (by have:=FV n.toNat b;unfold rd at this;rw[this,if_pos (by omega)];omega) (by omega),c0]
 have I:FI n E b ((List.replicate n.toNat (-1)).set b.toNat 0) [b] 0 (fun _=>False):=by
  refine⟨hb.1,by simp;omega,by rw[rs b hb.1 hb.2,if_pos rfl],fun v v0 v1 e=>?_,fun v v0 v1=>?_,fun v v0 v1=>?_,fun v v0 v1=>?_,fun v v0 v1 e=>?_,Int.le_refl _,fun x hx=>?_,by simp,fun v v0 v1 e=>?_⟩
  ·rw[rs v v0 v1]at e
   split at e
   ·rename_i q;exact q.symm
   omega
  ·rw[rs v v0 v1];split<;>omega
  ·rw[rs v v0 v1];split<;>omega
  ·rw[rs v v0 v1];split<;>omega
  ·rw[rs v v0 v1]at e
   split at e<;>omega
  ·rw[List.mem_singleton]at hx
   subst hx
   exact⟨hb.1,hb.2,by rw[rs x hb.1 hb.2,if_pos rfl];omega⟩
  rw[rs v v0 v1]at e
  split at e
  ·rename_i q;exact .inl (by simp[q])
  omega
 obtain⟨f',e1,e2,e3,e4⟩:=Jh n E b hE 100 _ [b] 0 (by simp;omega) (by omega) I
 refine⟨f',?_,e2,e3,e4⟩
 unfold mO.f
 have go:∀ (d:Nat) (i:Int),0<=i->i+d=n->Ev (fun k=>mO.l0 k b (List.replicate i.toNat (-1)) i n E) f':=by
  intro d
  induction d with
  |zero=>
   intro i i0 hi
   have e:i=n:=by omega
   subst e
   have c:¬i<i:=by omega
   have b1:b<((List.replicate i.toNat (-1:Int)).length:Int):=by omega
   have b0:0<=b:=hb.1
   exact Ev.step (fun k=>by simp only [mO.l0,if_neg c,if_pos b0,if_pos b1]<;>exact rfl) e1
  |succ d ih=>
   intro i i0 hi
   have c:i<n:=by omega
   have l:(List.replicate i.toNat (-1:Int)).length<17592186044416:=by simp;omega
   have w:wrap64 (i+1)=i+1:=w64 (by omega) (by omega)
   have:=ih (i+1) (by omega) (by omega)
   have e:List.replicate (i+1).toNat (-1:Int)=List.replicate i.toNat (-1)++[-1]:=by
    rw[show(i+1).toNat=i.toNat+1 by omega,List.replicate_succ']
   rw[e]at this
   exact Ev.step (fun k=>by simp only [mO.l0,if_pos c,if_pos l,w]<;>exact rfl) this
 exact go n.toNat 0 (by omega) (by have:=hE.1;omega)
theorem Jk (n b v x:Int) (E:List S59) (f out:List Int) (d:Nat) (hf:(f.length:Int)=n) (h8:n<=8) (hv:0<=v/\v<n) (hd:rd f v=(d+1:Nat)) (hd8:d<=100) (ho:out.length<=1000):∀ (suf p:List Int),((p++suf).length:Int)<big->(∀y∈suf,0<=y/\y<n)->suf.find? (fun w=>decide (rd f w=d))=some x->
  ∀r,Ev (fun k=>mY.l0 k b (out++[x]) f x n E) r->Ev (fun k=>mY.l1 k b out f v (p++suf) (p.length:Int) n E) r:=by
 intro suf
 induction suf with
 |nil=>intro p _ _ h;simp at h
 |cons t suf ih=>
  intro p hb hs h r hr
  have hp:(p.length:Int)<big:=qx hb
  obtain⟨t0,t1⟩:=hs t (by simp)
  have t2:t<(f.length:Int):=by omega
  have v0:0<=v:=hv.1
  have v1:v<(f.length:Int):=by omega
  have w:wrap64 (rd f v - 1)=d:=by rw[hd];rw[w64 (by omega) (by omega)];omega
  have lo:out.length<17592186044416:=by omega
  rw[List.find?_cons]at h
  by_cases c:rd f t=d
  ·simp only [c,decide_true]at h
   injection h with h
   subst h
   exact Ev.step (fun k=>by simp only [mY.l1,nD,nn,if_true,oQ,if_pos t0,if_pos t2,if_pos v0,if_pos v1,w,if_pos c,if_pos lo]<;>exact rfl) hr
  simp only [c,decide_false]at h
  have:=ih (p++[t]) (by rw[←nM];exact hb) (fun y hy=>hs y (by simp[hy])) h r hr
  rw[←nM]at this
  exact Ev.step (fun k=>by simp only [mY.l1,nD,nn,if_true,oQ,if_pos t0,if_pos t2,if_pos v0,if_pos v1,w,if_neg c,nP (t:=t) hp]<;>exact rfl) this
theorem ES (n b:Int) (E:List S59) (hE:ok n E) (f:List Int) (hf:(f.length:Int)=n) (F:Far n E b (rd f)):∀ (d:Nat) (v:Int) (out:List Int),d<=100->out.length+d<=1000->0<=v/\v<n->rd f v=(d:Int)->
  Ev (fun k=>mY.l0 k b out f v n E) (out++(down n E (rd f) d v).tail,true):=by
 intro d
 induction d with
 |zero=>
  intro v out _ _ hv hd
  have e:v=b:=F.only v hv.1 hv.2 hd
  exact Ev.step (fun k=>by simp only [mY.l0,if_pos e]<;>exact rfl) (Ev.val (by simp[down]))
 |succ d ih=>
  intro v out hd8 ho hv hd
  have c:v≠b:=fun e=>by rw[e,F.zero]at hd;omega
  obtain⟨x,ex,ht,hx,hr,_⟩:=F.step hE.2.2.1 hv hd
  refine Ev.step (fun k=>by simp only [mY.l0,if_neg c]<;>exact rfl) ?_
  refine Ev.bind (wW n v E hE) ?_
  have nl:((next n E v).length:Int)<big:=by
   have:=List.length_filter_le (fun i=>decide (kS v i∈E)) (ni n)
   rw[rf]at this
   have:=hE.2.1
   unfold next big
   omega
  refine Jk n b v x E f out d hf hE.2.1 hv hd (by omega) (by omega) (next n E v) [] (by simpa using nl) (fun y hy=>(o9 (hE.2.2.1 _ ((rF hE.2.2.1).1 hy))).2.1) ex _ ?_
  have:=ih x (out++[x]) (by omega) (by simp;omega) hr hx
  obtain⟨r,e1,_⟩:=wS F hE.2.2.1 d x hr hx
  have e2:(down n E (rd f) (d+1) v).tail=x::r:=by
   rw[down,ex]
   exact e1
  rw[e1]at this
  rw[e2]
  simpa using this
open Classical in
theorem LA (n a b:Int) (E:List S59) (hl:(E.length:Int)<big):Ev (fun k=>mY.f k n E a b) (if ok n E/\(0<=a/\a<n)/\(0<=b/\b<n) then found n E a b else([],false)):=by
 by_cases ca:ok n E/\0<=a/\a<n;rotate_left
 ·rw[if_neg (fun h=>ca ⟨h.1,h.2.1⟩)]
  unfold mY.f
  simp only [Option.bind_some]
  refine Ev.bind (rq n a E hl) ?_
  rw[decide_eq_false ca]
  simp only [Bool.false_eq_true,if_false]
  exact Ev.step (fun k=>by simp only [mY.j0,if_true]<;>exact rfl) (Ev.val rfl)
 by_cases cb:0<=b/\b<n
 ·have cc:ok n E/\0<=b/\b<n:=⟨ca.1,cb⟩
  obtain⟨f,f1,f2,f3,F⟩:=ER n E b ca.1 cb
  have a0:0<=a:=ca.2.1
  have a1:a<(f.length:Int):=by omega
  rw[if_pos ⟨ca.1,ca.2,cb⟩,Jn F ca.1.2.1 ca.1.2.2.1 ca.2]
  have fa:=f3 a ca.2.1 ca.2.2
  have h8:=ca.1.2.1
  obtain⟨res,hres⟩:∃r:List Int×Bool,r=(if 0<=rd f a then(vU n E (rd f) a,true) else([],false)):=⟨_,rfl⟩
  rw[←hres]
  unfold mY.f
  simp only [Option.bind_some]
  refine Ev.bind (rq n a E hl) ?_
  rw[decide_eq_true ca]
  simp only [if_true]
  refine Ev.bind (rq n b E hl) ?_
  rw[decide_eq_true cc]
  refine Ev.step (fun k=>by simp only [mY.j0,Bool.not_true,Bool.false_eq_true,if_false]<;>exact rfl) ?_
  refine Ev.bind f1 ?_
  simp only [if_pos a0,if_pos a1]
  rw[hres]
  by_cases c:0<=rd f a
  ·have c':¬rd f a<0:=by omega
   rw[if_pos c]
   simp only [if_neg c',List.nil_append,List.length_nil,Nat.reduceLT,if_true]
   have:=ES n b E ca.1 f f2 F (rd f a).toNat a [a] (by omega) (by simp;omega) ca.2 (by omega)
   obtain⟨r,e1,_⟩:=wS F ca.1.2.2.1 (rd f a).toNat a ca.2 (by omega)
   unfold vU
   rw[e1]at this⊢
   exact this
  have c':rd f a<0:=by omega
  rw[if_neg c]
  simp only [if_pos c']
  exact Ev.val rfl
 have cc:¬ (ok n E/\0<=b/\b<n):=fun h=>cb h.2
 rw[if_neg (fun h=>cb h.2.2)]
 unfold mY.f
 simp only [Option.bind_some]
 refine Ev.bind (rq n a E hl) ?_
 rw[decide_eq_true ca]
 simp only [if_true]
 refine Ev.bind (rq n b E hl) ?_
 rw[decide_eq_false cc]
 exact Ev.step (fun k=>by simp only [mY.j0,Bool.not_false,if_true]<;>exact rfl) (Ev.val rfl)
theorem BS (pre:List (List Int)) (t:List Int) (suf:List (List Int)):qM (pre++t::suf) (pre.length:Int)=t:=by
 unfold qM
 exact vX pre t suf _
def tot:List (List Int)->Nat
 |[]=>0
 |r::rs=>r.length+tot rs
theorem He (ks p:List Int) (v:Int):nL ks (p++[v])=if v∈nL ks p then nL ks p else nL ks p++[v]:=by rw[CQ];rfl
theorem Cg (q:List Int) (u v:Int):ties (q++[u])++[kS u v]=ties ((q++[u])++[v]):=by
 rw[show(q++[u])++[v]=q++[u,v] by simp,Ch]
theorem MQ {row:List Int}(h:0<row.length) (hb:(row.length:Int)<big):rd row (wrap64 ((row.length:Int) - 1))=nk row/\0<=wrap64 ((row.length:Int) - 1)/\wrap64 ((row.length:Int) - 1)<(row.length:Int):=by
 rcases List.eq_nil_or_concat row with rfl|⟨q,u,rfl⟩
 ·simp at h
 rw[List.concat_eq_append]at*
 have hl:((q++[u]).length:Int)<big:=hb
 rw[tO q u hl]
 refine⟨?_,nn _,by simp;omega⟩
 have:=oQ q u []
 unfold nk
 rw[List.getLastD_concat]
 exact this
def IX (n:Int) (E:List Tie) (ears:List (List Int)):Prop:=ok n E/\ears≠[]/\rY n E true [] [] ears
theorem JP (a:Int):∀ (suf p:List Int),((p++suf).length:Int)<big->a∉p->Ev (fun k=>oC.l0 k (p++suf) a (p.length:Int)) (decide (a∈p++suf)):=by
 intro suf
 induction suf with
 |nil=>
  intro p hb hp
  refine Ev.step (fun k=>by simp only [oC.l0,qj,if_false]<;>exact rfl) (Ev.val ?_)
  rw[decide_eq_false (by simpa using hp)]
 |cons t suf ih=>
  intro p hb hp
  have hl:(p.length:Int)<big:=qx hb
  by_cases c:t=a
  ·refine Ev.step (fun k=>by simp only [oC.l0,nD,nn,if_true,oQ,if_pos c]<;>exact rfl) (Ev.val ?_)
   rw[decide_eq_true (by simp[c])]
  refine Ev.step (fun k=>by simp only [oC.l0,nD,nn,if_true,oQ,if_neg c,nP (t:=t) hl]<;>exact rfl) ?_
  rw[nM p t suf]
  exact ih (p++[t]) (by rw[←nM];exact hb) (fun q=>by
   rcases List.mem_append.1 q with q|q
   ·exact hp q
   exact c (List.mem_singleton.1 q).symm)
theorem uK (S:List Int) (a:Int) (hb:(S.length:Int)<big):Ev (fun k=>oC.f k S a) (decide (a∈S)):=by
 unfold oC.f
 exact JP a S [] hb (by simp)
def begins (x:Int) (b:List Int):Prop:=b.length<=9/\(b≠[]->∃r,b=x::r)
def vV (E:List Tie) (a:Int) (r:List Int×Bool):Prop:=r.1.length<=10/\(r.2=true->∃x s,r.1=a::x::s/\kS a x∈E)
theorem Jl (n a b:Int) (E:List S59) (hl:(E.length:Int)<big):∃w,Ev (fun k=>mY.f k n E a b) w/\(w.2=true->begins a w.1):=by
 have no:Ev (fun k=>mY.j0 k a b [] true n E) ([],false):=Ev.step (fun k=>by simp only [mY.j0,if_true]<;>exact rfl) (Ev.val rfl)
 unfold mY.f
 simp only [Option.bind_some]
 have ka:=rq n a E hl
 have kb:=rq n b E hl
 by_cases ca:ok n E/\0<=a/\a<n;rotate_left
 ·rw[decide_eq_false ca]at ka
  refine⟨([],false),Ev.bind ka ?_,by simp⟩
  simp only [Bool.false_eq_true,if_false]
  exact no
 rw[decide_eq_true ca]at ka
 by_cases cc:ok n E/\0<=b/\b<n;rotate_left
 ·rw[decide_eq_false cc]at kb
  refine⟨([],false),Ev.bind ka ?_,by simp⟩
  simp only [if_true]
  exact Ev.bind kb no
 rw[decide_eq_true cc]at kb
 obtain⟨f,f1,f2,f3,F⟩:=ER n E b ca.1 cc.2
 have a0:0<=a:=ca.2.1
 have a1:a<(f.length:Int):=by omega
 have fa:=f3 a ca.2.1 ca.2.2
 have h8:=ca.1.2.1
 by_cases c:rd f a<0
 ·refine⟨([],false),Ev.bind ka ?_,by simp⟩
  simp only [if_true]
  refine Ev.bind kb (Ev.step (fun k=>by simp only [mY.j0,Bool.not_true,Bool.false_eq_true,if_false]<;>exact rfl) (Ev.bind f1 ?_))
  simp only [if_pos a0,if_pos a1,if_pos c]
  exact Ev.val rfl
 have hw:=ES n b E ca.1 f f2 F (rd f a).toNat a [a] (by omega) (by simp;omega) ca.2 (by omega)
 obtain⟨r,e1,e2,_⟩:=wS F ca.1.2.2.1 (rd f a).toNat a ca.2 (by omega)
 rw[e1]at hw
 refine⟨([a]++(a::r).tail,true),Ev.bind ka ?_,?_⟩
 ·simp only [if_true]
  refine Ev.bind kb (Ev.step (fun k=>by simp only [mY.j0,Bool.not_true,Bool.false_eq_true,if_false]<;>exact rfl) (Ev.bind f1 ?_))
  simp only [if_pos a0,if_pos a1,if_neg c,List.nil_append,List.length_nil,Nat.reduceLT,if_true]
  exact hw
 intro _
 exact⟨by simp;omega,fun _=>⟨r,by simp⟩⟩
theorem Ju (n a x:Int) (E C:List S59) (ks:List Int) (i:Int) (best:List Int) (hk:ks.length<=1000) (hb:begins x best)
  (next:∀b,begins x b->∃r,Ev (fun k=>mI.l0 k ks a x b (wrap64 (i+1)) n E n C) r/\vV E a r):∀ (suf p:List Int) (m:Int) (F:List S59),p++suf=ks->ok m F->
  ∃r,Ev (fun k=>mI.l1 k ks a x best i (p.length:Int) n E n C m F) r/\vV E a r:=by
 intro suf
 induction suf with
 |nil=>
  intro p m F e hF
  rw[List.append_nil]at e
  subst e
  have c:¬ (p.length:Int)<(p.length:Int):=by omega
  have hl:=oG hF
  obtain⟨w,wf,wb⟩:=Jl m x i F (by unfold big;omega)
  obtain⟨r0,g1,g2⟩:=next best hb
  by_cases t:w.2=true
  ·have hbw:=wb t
   obtain⟨r1,h1,h2⟩:=next w.1 hbw
   by_cases z:(best.length:Int)=0
   ·refine⟨r1,Ev.step (fun k=>by simp only [mI.l1,if_neg c]<;>exact rfl) (Ev.bind wf ?_),h2⟩
    simp only [if_pos t,if_pos z];exact h1
   by_cases y:(w.1.length:Int)<(best.length:Int)
   ·refine⟨r1,Ev.step (fun k=>by simp only [mI.l1,if_neg c]<;>exact rfl) (Ev.bind wf ?_),h2⟩
    simp only [if_pos t,if_neg z,if_pos y];exact h1
   refine⟨r0,Ev.step (fun k=>by simp only [mI.l1,if_neg c]<;>exact rfl) (Ev.bind wf ?_),g2⟩
   simp only [if_pos t,if_neg z,if_neg y];exact g1
  refine⟨r0,Ev.step (fun k=>by simp only [mI.l1,if_neg c]<;>exact rfl) (Ev.bind wf ?_),g2⟩
  simp only [if_neg t];exact g1
 |cons v suf ih=>
  intro p m F e hF
  have c:(p.length:Int)<(ks.length:Int):=by rw[←e];exact nD p v suf
  have w:wrap64 ((p.length:Int)+1)=((p++[v]).length:Int):=nP (by unfold big;omega)
  by_cases q:rd ks (p.length:Int)=i
  ·obtain⟨r,h1,h2⟩:=ih (p++[v]) m F (by rw[←e];simp) hF
   exact⟨r,Ev.step (fun k=>by simp only [mI.l1,if_pos c,nn,if_true,if_pos q,w]<;>exact rfl) h1,h2⟩
  obtain⟨m',F',f1,f2⟩:=Me m (rd ks (p.length:Int)) F hF
  obtain⟨r,h1,h2⟩:=ih (p++[v]) m' F' (by rw[←e];simp) f2
  exact⟨r,Ev.step (fun k=>by simp only [mI.l1,if_pos c,nn,if_true,if_neg q,w]<;>exact rfl) (Ev.bind f1 h1),h2⟩
theorem Jt (n a x:Int) (E C:List S59) (hE:ok n E) (ks:List Int) (hk:ks.length<=1000) (hC:ok n C) (ht:kS a x∈E):∀ (d:Nat) (i:Int) (best:List Int),0<=i->i+d=n->begins x best->
  ∃r,Ev (fun k=>mI.l0 k ks a x best i n E n C) r/\vV E a r:=by
 intro d
 induction d with
 |zero=>
  intro i best h0 h hb
  have c:¬i<n:=by omega
  by_cases z:(best.length:Int)=0
  ·exact⟨([],false),Ev.step (fun k=>by simp only [mI.l0,if_neg c,if_pos z]<;>exact rfl) (Ev.val rfl),by simp[vV]⟩
  obtain⟨s,hs⟩:=hb.2 (fun e=>z (by rw[e];rfl))
  have hl:=hb.1
  have g:([a]:List Int).length+best.length<17592186044416:=by simp;omega
  refine⟨(a::best,true),Ev.step (fun k=>by simp only [mI.l0,if_neg c,if_neg z,Option.bind_some,if_pos g]<;>exact rfl) (Ev.val rfl),?_,fun _=>⟨x,s,by rw[hs],ht⟩⟩
  simp;omega
 |succ d ih=>
  intro i best h0 h hb
  have c:i<n:=by omega
  have h8:=hE.2.1
  have w:wrap64 (i+1)=i+1:=w64 (by omega) (by omega)
  have hh:=uK ks i (by unfold big;omega)
  have nxt:∀b,begins x b->∃r,Ev (fun k=>mI.l0 k ks a x b (wrap64 (i+1)) n E n C) r/\vV E a r:=fun b hb=>by rw[w];exact ih (i+1) b (by omega) (by omega) hb
  by_cases q:i∈ks
  ·rw[decide_eq_true q]at hh
   obtain⟨r,h1,h2⟩:=Ju n a x E C ks i best hk hb nxt ks [] n C rfl hC
   exact⟨r,Ev.step (fun k=>by simp only [mI.l0,if_pos c]<;>exact rfl) (Ev.bind hh (by simp only [if_true];exact h1)),h2⟩
  rw[decide_eq_false q]at hh
  obtain⟨r,h1,h2⟩:=nxt best hb
  exact⟨r,Ev.step (fun k=>by simp only [mI.l0,if_pos c]<;>exact rfl) (Ev.bind hh (by simp only [Bool.false_eq_true,if_false];exact h1)),h2⟩
theorem Jv (n a:Int) (E:List S59) (hE:ok n E) (ks:List Int) (hk:ks.length<=1000):∃r,Ev (fun k=>mI.f k n E ks a) r/\vV E a r:=by
 have hl:=oG hE
 unfold mI.f
 have hn:=wW n a E hE
 cases e:next n E a with
 |nil=>
  rw[e]at hn
  exact⟨([],false),Ev.bind hn (by simp only [List.length_nil,Int.natCast_zero,if_true];exact Ev.val rfl),by simp[vV]⟩
 |cons x s=>
  rw[e]at hn
  have ht:kS a x∈E:=(rF hE.2.2.1).1 (by rw[e];simp)
  have c0:¬ ((x::s).length:Int)=0:=by simp only [List.length_cons];omega
  have c1:0<((x::s).length:Int):=by simp only [List.length_cons];omega
  have r0:rd (x::s) 0=x:=rfl
  have hh:=uK ks x (by unfold big;omega)
  by_cases q:x∈ks
  ·rw[decide_eq_true q]at hh
   refine⟨([a,x],true),Ev.bind hn ?_,by simp,fun _=>⟨x,[],rfl,ht⟩⟩
   simp only [if_neg c0,if_pos c1,r0]
   exact Ev.bind hh (by simp only [if_true];exact Ev.val rfl)
  rw[decide_eq_false q]at hh
  obtain⟨r,h1,h2⟩:=Jt n a x E (cut E (kS a x)) hE ks hk (uU _ hE) ht n.toNat 0 [] (Int.le_refl _) (by have:=hE.1;omega) ⟨by simp,by simp⟩
  refine⟨r,Ev.bind hn ?_,h2⟩
  simp only [if_neg c0,if_pos c1,r0]
  refine Ev.bind hh ?_
  simp only [Bool.false_eq_true,if_false]
  have hc:=vM n a x E (by omega)
  rw[if_pos ⟨hE,ht⟩]at hc
  exact Ev.bind hc h1
theorem JU (n:Int) (T:List S59) (hT:(T.length:Int)<=1000):∀ (suf p:List S59) (X:List S59),p++suf=T->ok n X->∃F,Ev (fun k=>nW.l0 k T (p.length:Int) n X) (n,F)/\F.Sublist X:=by
 intro suf
 induction suf with
 |nil=>
  intro p X e hX
  rw[List.append_nil]at e
  subst e
  have c:¬ (p.length:Int)<(p.length:Int):=by omega
  exact⟨X,Ev.step (fun k=>by simp only [nW.l0,if_neg c]<;>exact rfl) (Ev.val rfl),List.Sublist.refl _⟩
 |cons t suf ih=>
  intro p X e hX
  have hl:=oG hX
  have c:(p.length:Int)<(T.length:Int):=by rw[←e];exact nD p t suf
  have w:wrap64 ((p.length:Int)+1)=((p++[t]).length:Int):=nP (by unfold big;omega)
  obtain⟨a,ha⟩:∃a,a=(jQ T (p.length:Int)).f0:=⟨_,rfl⟩
  obtain⟨b,hb⟩:∃b,b=(jQ T (p.length:Int)).f1:=⟨_,rfl⟩
  have hc:=vM n a b X (by omega)
  by_cases q:ok n X/\kS a b∈X
  ·rw[if_pos q]at hc
   obtain⟨F,h1,h2⟩:=ih (p++[t]) (cut X (kS a b)) (by rw[←e];simp) (uU _ hX)
   refine⟨F,Ev.step (fun k=>by simp only [nW.l0,if_pos c,nn,if_true,w,←ha,←hb]<;>exact rfl) (Ev.bind hc (by simp only [if_true];exact h1)),h2.trans List.filter_sublist⟩
  rw[if_neg q]at hc
  obtain⟨F,h1,h2⟩:=ih (p++[t]) X (by rw[←e];simp) hX
  exact⟨F,Ev.step (fun k=>by simp only [nW.l0,if_pos c,nn,if_true,w,←ha,←hb]<;>exact rfl) (Ev.bind hc (by simp only [Bool.false_eq_true,if_false];exact h1)),h2⟩
theorem Ce {n:Int}{t:Tie}(h:inr n t):kS t.f0 t.f1=t:=by
 have:=h.2.1
 unfold kS
 split
 ·rfl
 exact absurd this (by omega)
theorem JV (n:Int) (E:List S59) (hE:ok n E) (t:Tie) (ht:t∈E) (T:List S59) (hT:(T.length:Int)<=900):∃F,Ev (fun k=>nW.f k n E (t::T)) (n,F)/\ok n F/\F.length<E.length:=by
 have hl:=oG hE
 have ts:=Ce (hE.2.2.1 t ht)
 have hc:=vM n t.f0 t.f1 E (by omega)
 rw[ts,if_pos ⟨hE,ht⟩]at hc
 obtain⟨F,h1,h2⟩:=JU n (t::T) (by simp;omega) T [t] (cut E t) rfl (uU _ hE)
 have cl:=II (CW hE.2.2.2) t
 rw[if_pos ht]at cl
 have hle:=h2.length_le
 refine⟨F,?_,FE (uU t hE) h2,by omega⟩
 unfold nW.f
 rw[xR n E (by omega)]
 simp only [Option.bind_some]
 have c:(0:Int)<((t::T).length:Int):=by simp only [List.length_cons];omega
 have r0:jQ (t::T) 0=t:=rfl
 have w:wrap64 ((0:Int)+1)=(([t]:List S59).length:Int):=by rw[w64 (by omega) (by omega)];rfl
 exact Ev.step (fun k=>by simp only [nW.l0,if_pos c,Int.le_refl,if_true,r0,w]<;>exact rfl) (Ev.bind hc (by simp only [if_true];exact h1))
def few (r:List (List Int)×Bool):Prop:=r.1.length<=64/\∀x∈r.1,2<=x.length/\x.length<=10
theorem I1 (n:Int) (E X:List S59) (out:List (List Int)) (ear:List Int) (he:ear.length<=10) (m:Nat) (hm:m<=900)
  (next:∀ks:List Int,ks.length<=m->∃r,Ev (fun k=>(nW.f k n X (ties ear)).bind fun bt=>if out.length<5864062014805 then ll.l0 k (out++[ear]) ks n E bt.1 bt.2 else none) r/\few r):
  ∀ (suf p:List Int) (ks:List Int),p++suf=ear->ks.length+suf.length<=m->∃r,Ev (fun k=>ll.l2 k out ks ear (ties p) (p.length:Int) n E n X) r/\few r:=by
 intro suf
 induction suf with
 |nil=>
  intro p ks e hk
  rw[List.append_nil]at e
  subst e
  have c:¬ (p.length:Int)<(p.length:Int):=by omega
  obtain⟨r,h1,h2⟩:=next ks (by simpa using hk)
  exact⟨r,Ev.step (fun k=>by simp only [ll.l2,if_neg c]<;>exact rfl) h1,h2⟩
 |cons v suf ih=>
  intro p ks e hk
  simp only [List.length_cons]at hk
  have c1:(p.length:Int)<(ear.length:Int):=by rw[←e];exact nD p v suf
  have rv:rd ear (p.length:Int)=v:=by rw[←e];exact oQ p v suf
  have hpb:(p.length:Int)<big:=by unfold big;omega
  have hs:wrap64 ((p.length:Int)+1)=((p++[v]).length:Int):=nP hpb
  have hh:=uK ks v (by unfold big;omega)
  have hk8:ks.length<17592186044416:=by omega
  have e':(p++[v])++suf=ear:=by rw[←e];simp
  rcases List.eq_nil_or_concat p with rfl|⟨q,u,rfl⟩
  ·have c0:¬ (([]:List Int).length:Int)>0:=by simp
   have et:ties ([]:List Int)=ties ([]++[v]):=by simp[ties]
   by_cases m:v∈ks
   ·rw[decide_eq_true m]at hh
    obtain⟨r,h1,h2⟩:=ih ([]++[v]) ks e' (by omega)
    refine⟨r,Ev.step (fun k=>by simp only [ll.l2,if_pos c1,if_neg c0,nn,if_true,rv,hs]<;>exact rfl) (Ev.bind hh ?_),h2⟩
    simp only [if_true];rw[et];exact h1
   rw[decide_eq_false m]at hh
   obtain⟨r,h1,h2⟩:=ih ([]++[v]) (ks++[v]) e' (by simp;omega)
   refine⟨r,Ev.step (fun k=>by simp only [ll.l2,if_pos c1,if_neg c0,nn,if_true,rv,hs]<;>exact rfl) (Ev.bind hh ?_),h2⟩
   simp only [Bool.false_eq_true,if_false,if_pos hk8];rw[et];exact h1
  rw[List.concat_eq_append]at*
  have c0:((q++[u]).length:Int)>0:=by simp
  have c2:0<=wrap64 (((q++[u]).length:Int) - 1):=by rw[tO q u hpb];exact nn _
  have c3:wrap64 (((q++[u]).length:Int) - 1)<(ear.length:Int):=by rw[tO q u hpb];simp at c1;omega
  have ru:rd ear (wrap64 (((q++[u]).length:Int) - 1))=u:=by rw[tO q u hpb,←e,xZ];exact oQ q u (v::suf)
  have h5:(ties (q++[u])).length<8796093022208:=by rw[xk];omega
  have et:ties (q++[u])++[(⟨(kS u v).f0,(kS u v).f1⟩:S59)]=ties ((q++[u])++[v]):=by rw[←Cg]
  by_cases m:v∈ks
  ·rw[decide_eq_true m]at hh
   obtain⟨r,h1,h2⟩:=ih ((q++[u])++[v]) ks e' (by omega)
   refine⟨r,Ev.step (fun k=>by simp only [ll.l2,if_pos c1,if_pos c0,if_pos c2,if_pos c3,nn,if_true,ru,rv,hs,vZ,Option.bind_some,if_pos h5,et]<;>exact rfl) (Ev.bind hh ?_),h2⟩
   simp only [if_true];exact h1
  rw[decide_eq_false m]at hh
  obtain⟨r,h1,h2⟩:=ih ((q++[u])++[v]) (ks++[v]) e' (by simp;omega)
  refine⟨r,Ev.step (fun k=>by simp only [ll.l2,if_pos c1,if_pos c0,if_pos c2,if_pos c3,nn,if_true,ru,rv,hs,vZ,Option.bind_some,if_pos h5,et]<;>exact rfl) (Ev.bind hh ?_),h2⟩
  simp only [Bool.false_eq_true,if_false,if_pos hk8];exact h1
theorem IZ (n:Int) (E X:List S59) (hX:ok n X) (out:List (List Int)) (ks:List Int) (hk:ks.length<=900) (next:∀at_:Int,∃r,Ev (fun k=>ll.j3 k out ks at_ n E n X) r/\few r):∀ (d:Nat) (i:Int),0<=i->i+d=n->
  ∃r,Ev (fun k=>ll.l1 k out ks i n E n X) r/\few r:=by
 have h8:=hX.2.1
 intro d
 induction d with
 |zero=>
  intro i h0 h
  have c:¬i<n:=by omega
  obtain⟨r,h1,h2⟩:=next i
  exact⟨r,Ev.step (fun k=>by simp only [ll.l1,if_neg c]<;>exact rfl) h1,h2⟩
 |succ d ih=>
  intro i h0 h
  have c:i<n:=by omega
  have w:wrap64 (i+1)=i+1:=w64 (by omega) (by omega)
  have hh:=uK ks i (by unfold big;omega)
  obtain⟨r,h1,h2⟩:=ih (i+1) (by omega) (by omega)
  by_cases q:i∈ks
  ·rw[decide_eq_true q]at hh
   have ha:=AA n i X hX
   obtain⟨b,hb⟩:∃b,b=(((G.next n X i).length:Int)==0):=⟨_,rfl⟩
   rw[←hb]at ha
   cases b with
   |true=>exact⟨r,Ev.step (fun k=>by simp only [ll.l1,if_pos c]<;>exact rfl) (Ev.bind hh (by simp only [if_true];exact Ev.bind ha (by simp only [if_true,w];exact h1))),h2⟩
   |false=>
    obtain⟨r',g1,g2⟩:=next i
    exact⟨r',Ev.step (fun k=>by simp only [ll.l1,if_pos c]<;>exact rfl) (Ev.bind hh (by simp only [if_true];exact Ev.bind ha (by simp only [Bool.false_eq_true,if_false];exact g1))),g2⟩
  rw[decide_eq_false q]at hh
  exact⟨r,Ev.step (fun k=>by simp only [ll.l1,if_pos c]<;>exact rfl) (Ev.bind hh (by simp only [Bool.false_eq_true,if_false,w];exact h1)),h2⟩
theorem IY (n:Int) (E:List S59):∀ (m:Nat) (X:List S59) (ks:List Int) (out:List (List Int)),X.length<=m->ok n X->ks.length+10*m<=800->out.length+m<=64->(∀x∈out,2<=x.length/\x.length<=10)->
  ∃r,Ev (fun k=>ll.l0 k out ks n E n X) r/\few r:=by
 intro m
 induction m with
 |zero=>
  intro X ks out hm hX hk ho hr
  have c:¬ (X.length:Int)>0:=by omega
  exact⟨(out,true),Ev.step (fun k=>by simp only [ll.l0,if_neg c]<;>exact rfl) (Ev.val rfl),by simpa using ho,hr⟩
 |succ m ih=>
  intro X ks out hm hX hk ho hr
  by_cases c:(X.length:Int)>0;rotate_left
  ·exact⟨(out,true),Ev.step (fun k=>by simp only [ll.l0,if_neg c]<;>exact rfl) (Ev.val rfl),by simp only;omega,hr⟩
  have nxt:∀at_:Int,∃r,Ev (fun k=>ll.j3 k out ks at_ n E n X) r/\few r:=by
   intro at_
   obtain⟨⟨ear,t⟩,f1,f2,f3⟩:=Jv n at_ X hX ks (by omega)
   cases t with
   |false=>exact⟨([],false),Ev.step (fun k=>by simp only [ll.j3]<;>exact rfl) (Ev.bind f1 (by simp only [Bool.false_eq_true,if_false];exact Ev.val rfl)),by simp[few]⟩
   |true=>
    obtain⟨x,s,e,ht⟩:=f3 rfl
    simp only at e f2
    obtain⟨F,g1,g2,g3⟩:=JV n X hX (kS at_ x) ht (ties (x::s)) (by rw[xk];rw[e]at f2;simp only [List.length_cons]at*;omega)
    have te:ties ear=kS at_ x::ties (x::s):=by rw[e];rfl
    rw[←te]at g1
    have o5:out.length<5864062014805:=by omega
    obtain⟨r,h1,h2⟩:=I1 n E X out ear f2 (ks.length+10) (by omega) (fun ks' hk'=>by
     obtain⟨r,h1,h2⟩:=ih F ks' (out++[ear]) (by omega) g2 (by omega) (by simp;omega) (fun y hy=>by
      rcases List.mem_append.1 hy with hy|hy
      ·exact hr y hy
      rw[List.mem_singleton]at hy;rw[hy];exact⟨by rw[e];simp,f2⟩)
     exact⟨r,Ev.bind g1 (by simp only [if_pos o5];exact h1),h2⟩) ear [] ks rfl (by omega)
    exact⟨r,Ev.step (fun k=>by simp only [ll.j3]<;>exact rfl) (Ev.bind f1 (by simp only [if_true];exact h1)),h2⟩
  obtain⟨r,h1,h2⟩:=IZ n E X hX out ks (by omega) nxt n.toNat 0 (Int.le_refl _) (by have:=hX.1;omega)
  exact⟨r,Ev.step (fun k=>by simp only [ll.l0,if_pos c]<;>exact rfl) h1,h2⟩
theorem I4 (n:Int) (E:List S59) (hb:(E.length:Int)<big):∃r,Ev (fun k=>ll.f k n E) r/\few r:=by
 have no:Ev (fun k=>ll.j0 k [] true n E) ([],false):=Ev.step (fun k=>by simp only [ll.j0,if_true]<;>exact rfl) (Ev.val rfl)
 have fw:few ([],false):=by simp[few]
 unfold ll.f
 simp only [Option.bind_some]
 have hk:=uW n E hb
 by_cases c:ok n E
 ·rw[decide_eq_true c]at hk
  have hl:=oG c
  by_cases d:n<3
  ·exact⟨_,Ev.bind hk (by simp only [if_true,if_pos d];exact no),fw⟩
  obtain⟨w,hw⟩:=Cj n E c
  by_cases e:w=1
  ·obtain⟨L,hL⟩:=Ik n E c
   obtain⟨b,hb'⟩:∃b,b=decide ((L.length:Int)>0):=⟨_,rfl⟩
   cases b with
   |true=>exact⟨_,Ev.bind hk (by simp only [if_true,if_neg d];exact Ev.bind hw (by simp only [if_pos e];exact Ev.bind hL (by rw[←hb'];exact no))),fw⟩
   |false=>
    obtain⟨r,h1,h2⟩:=IY n E E.length E [0] [] (Nat.le_refl _) c (by simp;omega) (by simp;omega) (by simp)
    refine⟨r,Ev.bind hk (by simp only [if_true,if_neg d];exact Ev.bind hw (by simp only [if_pos e];exact Ev.bind hL (by rw[←hb'];exact Ev.step (fun k=>by simp only [ll.j0,Bool.false_eq_true,if_false,xR n E (by omega),Option.bind_some]<;>exact rfl) h1))),h2⟩
  exact⟨_,Ev.bind hk (by simp only [if_true,if_neg d];exact Ev.bind hw (by simp only [if_neg e];exact no)),fw⟩
 rw[decide_eq_false c]at hk
 exact⟨_,Ev.bind hk (by simp only [Bool.false_eq_true,if_false];exact no),fw⟩
theorem Jm {n a b:Int}{E:List Tie}(h8:n<=8) (hE:∀t∈E,inr n t) (ha:0<=a/\a<n) (h:(found n E a b).2=true):rT E a b (found n E a b).1/\∀q,rT E a b q->¬wlt q (found n E a b).1:=by
 refine⟨Jo h8 hE ha h,fun q hq=>?_⟩
 unfold found at*
 cases e:uf n E a b with
 |nil=>rw[e]at h;simp at h
 |cons p r=>
  have:=Lt (l:=uz n E b 9 [] a) (show ww _=p::r from e)
  exact this.2 q ((zQ h8 hE ha).2 hq)
theorem Jp {n a b:Int}{E:List Tie}(h8:n<=8) (hE:∀t∈E,inr n t) (ha:0<=a/\a<n) (h:(found n E a b).2=false):∀q,¬rT E a b q:=by
 intro q hq
 have:=(BI h8 hE ha).2 hq
 unfold found at h
 cases e:uf n E a b with
 |nil=>rw[e]at this;simp at this
 |cons p r=>rw[e]at h;simp at h
def wok (F:List Tie) (v:Int):List Tie:=F.filter fun t=>decide (t.f0≠v/\t.f1≠v)
theorem Mg (n m a:Int) (E:List S59) (hl:(E.length:Int)<=64):∀ (suf p q:List S59),p++suf=E->q.length<=p.length->Ev (fun k=>nY.l0 k a (p.length:Int) n E m q) (m,q++wok suf a):=by
 intro suf
 induction suf with
 |nil=>
  intro p q e hq
  rw[List.append_nil]at e
  subst e
  have c:¬ (p.length:Int)<(p.length:Int):=by omega
  exact Ev.step (fun k=>by simp only [nY.l0,if_neg c]<;>exact rfl) (Ev.val (by simp[wok]))
 |cons t suf ih=>
  intro p q e hq
  have c:(p.length:Int)<(E.length:Int):=by rw[←e];exact nD p t suf
  have w:wrap64 ((p.length:Int)+1)=((p++[t]).length:Int):=nP (by unfold big;omega)
  have rt:jQ E (p.length:Int)=t:=by rw[←e];exact vK p t suf
  have q8:q.length<8796093022208:=by omega
  have e':(p++[t])++suf=E:=by rw[←e];simp
  by_cases c1:t.f0=a
  ·refine Ev.step (fun k=>by simp only [nY.l0,if_pos c,nn,if_true,rt,w,if_pos c1]<;>exact rfl) (Ev.eq (ih (p++[t]) q e' (by simp;omega)) ?_)
   simp[wok,c1]
  by_cases c2:t.f1=a
  ·refine Ev.step (fun k=>by simp only [nY.l0,if_pos c,nn,if_true,rt,w,if_neg c1,if_pos c2]<;>exact rfl) (Ev.eq (ih (p++[t]) q e' (by simp;omega)) ?_)
   simp[wok,c2]
  refine Ev.step (fun k=>by simp only [nY.l0,if_pos c,nn,if_true,rt,w,if_neg c1,if_neg c2,if_pos q8]<;>exact rfl) (Ev.eq (ih (p++[t]) (q++[t]) e' (by simp;omega)) ?_)
  simp[wok,c1,c2]
theorem Mf (n a:Int) (E:List S59) (hE:ok n E) (ha:0<=a/\a<n):Ev (fun k=>nY.f k n E a) (n,wok E a):=by
 have hl:=oG hE
 unfold nY.f
 refine Ev.bind (rq n a E (by unfold big;omega)) ?_
 simp only [decide_eq_true (show ok n E/\0<=a/\a<n from⟨hE,ha⟩),if_true]
 exact Mg n n a E hl E [] [] rfl (Nat.le_refl _)
theorem Ip (C:List Tie) (p:List Int) (i:Int):but C (p++[i]) i=but C p i:=by
 unfold but
 refine List.filter_congr fun t _=>?_
 refine decide_eq_decide.2 ?_
 simp only [List.mem_append,List.mem_singleton]
 exact⟨fun h=>⟨fun k=>h.1 (Or.inl k),fun k=>h.2 (Or.inl k)⟩,fun h=>⟨fun k=>k.elim h.1 id,fun k=>k.elim h.2 id⟩⟩
theorem Io (C:List Tie) (p:List Int) {i v:Int}(h:v≠i):but C (p++[v]) i=wok (but C p i) v:=by
 unfold but wok
 rw[List.filter_filter]
 refine List.filter_congr fun t _=>?_
 rw[←Bool.decide_and]
 refine decide_eq_decide.2 ?_
 simp only [List.mem_append,List.mem_singleton]
 constructor
 ·intro k
  exact⟨⟨fun e=>h (e▸k.1 (Or.inr e)),fun e=>h (e▸k.2 (Or.inr e))⟩,fun g=>k.1 (Or.inl g),fun g=>k.2 (Or.inl g)⟩
 rintro⟨⟨k1,k2⟩,k3,k4⟩
 exact⟨fun g=>g.elim k3 (fun e=>absurd e k1),fun g=>g.elim k4 (fun e=>absurd e k2)⟩
theorem Dk (C:List Tie) (i:Int):but C [] i=C:=by
 unfold but
 exact List.filter_eq_self.2 (fun t _=>by simp)
theorem BM {n:Int}{C:List Tie}(h:ok n C) (p:List Int) (i:Int):ok n (but C p i):=wY _ h
theorem EX (n a x:Int) (E C:List S59) (hC:ok n C) (ks:List Int) (hk:(ks.length:Int)<=1000) (hr:∀v∈ks,0<=v/\v<n) (i:Int) (hi:0<=i/\i<n) (hx:0<=x/\x<n) (best:List Int):∀ (suf p:List Int),p++suf=ks->∀r,
  Ev (fun k=>if(found n (but C ks i) x i).2=true then(if(best.length:Int)=0 then mI.l0 k ks a x (found n (but C ks i) x i).1 (wrap64 (i+1)) n E n C else(if((found n (but C ks i) x i).1.length:Int)<(best.length:Int) then mI.l0 k ks a x (found n (but C ks i) x i).1 (wrap64 (i+1)) n E n C else mI.l0 k ks a x best (wrap64 (i+1)) n E n C)) else mI.l0 k ks a x best (wrap64 (i+1)) n E n C) r->
  Ev (fun k=>mI.l1 k ks a x best i (p.length:Int) n E n C n (but C p i)) r:=by
 intro suf
 induction suf with
 |nil=>
  intro p e r h
  rw[List.append_nil]at e
  subst e
  have c:¬ (p.length:Int)<(p.length:Int):=by omega
  have hb:=BM hC p i
  have hl:=oG hb
  have hf:=LA n x i (but C p i) (by unfold big;omega)
  rw[if_pos ⟨hb,hx,hi⟩]at hf
  exact Ev.step (fun k=>by simp only [mI.l1,if_neg c]<;>exact rfl) (Ev.bind hf h)
 |cons v suf ih=>
  intro p e r h
  have c:(p.length:Int)<(ks.length:Int):=by rw[←e];exact nD p v suf
  have w:wrap64 ((p.length:Int)+1)=((p++[v]).length:Int):=nP (by unfold big;omega)
  have rv:rd ks (p.length:Int)=v:=by rw[←e];exact oQ p v suf
  have hv:=hr v (by rw[←e];simp)
  have nx:=ih (p++[v]) (by rw[←e];simp) r h
  by_cases q:v=i
  ·rw[q,Ip]at nx
   rw[q]at w rv
   exact Ev.step (fun k=>by simp only [mI.l1,if_pos c,nn,if_true,rv,w]<;>exact rfl) nx
  rw[Io C p q]at nx
  exact Ev.step (fun k=>by simp only [mI.l1,if_pos c,nn,if_true,rv,if_neg q,w]<;>exact rfl) (Ev.bind (Mf n v _ (BM hC p i) hv) nx)
def AJ (C:List Tie) (K:List Int) (x i:Int) (best:List Int):Prop:=
 best=[]/\(∀q,qh C K x q->i<=nk q)\/(qh C K x best/\nk best<i/\∀q,qh C K x q->nk q<i->¬blt q best)
theorem De {C:List Tie}{K:List Int}{x:Int}{q:List Int}(h:qh C K x q):q≠[]:=fun e=>by have:=h.head;rw[e]at this;simp at this
theorem Jy (n a x:Int) (E C:List S59) (hC:ok n C) (ks:List Int) (hk:(ks.length:Int)<=1000) (hr:∀v∈ks,0<=v/\v<n) (hx:0<=x/\x<n) (hxk:x∉ks) (hs:∃q,qh C ks x q):∀ (d:Nat) (i:Int) (best:List Int),0<=i->i+d=n->best.length<=100->AJ C ks x i best->
  ∃p,vD C ks x p/\Ev (fun k=>mI.l0 k ks a x best i n E n C) (a::p,true):=by
 have h8:=hC.2.1
 have hkb:(ks.length:Int)<big:=by unfold big;omega
 have short:∀q,qh C ks x q->q.length<=100:=fun q hq=>by
  have:=tQ hq.nodup (fun y hy=>qy.2 (yV hC.2.2.1 hx hq y hy))
  rw[rf]at this
  omega
 intro d
 induction d with
 |zero=>
  intro i best h0 hi hb hB
  have c:¬i<n:=by omega
  obtain⟨q0,hq0⟩:=hs
  have r0:=hr _ hq0.last
  rcases hB with⟨_,k⟩|⟨b1,_,b3⟩
  ·have:=k q0 hq0;omega
  have z:¬ (best.length:Int)=0:=fun e=>De b1 (List.eq_nil_of_length_eq_zero (by omega))
  have g:([a]:List Int).length+best.length<17592186044416:=by simp;omega
  refine⟨best,⟨b1,fun q hq=>b3 q hq (by have:=hr _ hq.last;omega)⟩,Ev.step (fun k=>by simp only [mI.l0,if_neg c,if_neg z,Option.bind_some,if_pos g]<;>exact rfl) (Ev.val rfl)⟩
 |succ d ih=>
  intro i best h0 hi hb hB
  have c:i<n:=by omega
  have w:wrap64 (i+1)=i+1:=w64 (by omega) (by omega)
  have hh:=uK ks i hkb
  by_cases q:i∈ks;rotate_left
  ·rw[decide_eq_false q]at hh
   have no:∀y,qh C ks x y->nk y≠i:=fun y hy e=>q (e▸hy.last)
   obtain⟨s,s1,s2⟩:=ih (i+1) best (by omega) (by omega) hb (hB.imp (fun k=>⟨k.1,fun y hy=>by have:=k.2 y hy;have:=no y hy;omega⟩) (fun k=>⟨k.1,by omega,fun y hy hl=>k.2.2 y hy (by have:=no y hy;omega)⟩))
   exact⟨s,s1,Ev.step (fun k=>by simp only [mI.l0,if_pos c]<;>exact rfl) (Ev.bind hh (by simp only [Bool.false_eq_true,if_false,w];exact s2))⟩
  rw[decide_eq_true q]at hh
  have hbE:=BM hC ks i
  by_cases t:(found n (but C ks i) x i).2=true;rotate_left
  ·have t':(found n (but C ks i) x i).2=false:=by simpa using t
   have none_:=Jp h8 hbE.2.2.1 hx t'
   have no:∀y,qh C ks x y->nk y≠i:=fun y hy e=>none_ y (e▸Dh hy hxk)
   obtain⟨s,s1,s2⟩:=ih (i+1) best (by omega) (by omega) hb (hB.imp (fun k=>⟨k.1,fun y hy=>by have:=k.2 y hy;have:=no y hy;omega⟩) (fun k=>⟨k.1,by omega,fun y hy hl=>k.2.2 y hy (by have:=no y hy;omega)⟩))
   have g:=EX n a x E C hC ks hk hr i ⟨h0,c⟩ hx best ks [] rfl (a::s,true) (by simp only [if_neg t,w];exact s2)
   rw[Dk]at g
   exact⟨s,s1,Ev.step (fun k=>by simp only [mI.l0,if_pos c]<;>exact rfl) (Ev.bind hh (by simp only [if_true];exact g))⟩
  obtain⟨p1,p2⟩:=Jm h8 hbE.2.2.1 hx t
  obtain⟨p3,p4⟩:=L8 p1 q
  generalize hp:(found n (but C ks i) x i).1=p at*
  have same:∀y,qh C ks x y->nk y=i->¬blt y p:=fun y hy he k=>by
   have yw:=Dh hy hxk
   rw[he]at yw
   refine p2 y yw ?_
   rcases k with k|⟨k1,k|⟨_,k⟩⟩
   ·exact .inl k
   ·omega
   exact .inr ⟨k1,k⟩
  have take:(∀y,qh C ks x y->nk y<i->¬blt y p)->AJ C ks x (i+1) p:=fun g=> .inr ⟨p3,by omega,fun y hy hl=>by
   by_cases e:nk y=i
   ·exact same y hy e
   exact g y hy (by omega)⟩
  have keepB:∀g:AJ C ks x (i+1) p,∃s,vD C ks x s/\Ev (fun k=>mI.l0 k ks a x p (wrap64 (i+1)) n E n C) (a::s,true):=fun g=>by rw[w];exact ih (i+1) p (by omega) (by omega) (short p p3) g
  have fin:∀r,Ev (fun k=>if(found n (but C ks i) x i).2=true then(if(best.length:Int)=0 then mI.l0 k ks a x p (wrap64 (i+1)) n E n C else(if(p.length:Int)<(best.length:Int) then mI.l0 k ks a x p (wrap64 (i+1)) n E n C else mI.l0 k ks a x best (wrap64 (i+1)) n E n C)) else mI.l0 k ks a x best (wrap64 (i+1)) n E n C) r->
    Ev (fun k=>mI.l0 k ks a x best i n E n C) r:=fun r h=>by
   have g:=EX n a x E C hC ks hk hr i ⟨h0,c⟩ hx best ks [] rfl r (by rw[hp];exact h)
   rw[Dk]at g
   exact Ev.step (fun k=>by simp only [mI.l0,if_pos c]<;>exact rfl) (Ev.bind hh (by simp only [if_true];exact g))
  rcases hB with⟨e0,k⟩|⟨b1,b2,b3⟩
  ·obtain⟨s,s1,s2⟩:=keepB (take (fun y hy hl=>by have:=k y hy;omega))
   refine⟨s,s1,fin _ ?_⟩
   simp only [if_pos t,e0,List.length_nil,Int.natCast_zero,if_true]
   exact s2
  have z:¬ (best.length:Int)=0:=fun e=>De b1 (List.eq_nil_of_length_eq_zero (by omega))
  by_cases y:(p.length:Int)<(best.length:Int)
  ·obtain⟨s,s1,s2⟩:=keepB (take (fun u hu hl g=>by
    have nb:=b3 u hu hl
    rcases g with g|⟨g,_⟩
    ·exact nb (.inl (by omega))
    exact nb (.inl (by omega))))
   refine⟨s,s1,fin _ ?_⟩
   simp only [if_pos t,if_neg z,if_pos y]
   exact s2
  obtain⟨s,s1,s2⟩:=ih (i+1) best (by omega) (by omega) hb (.inr ⟨b1,by omega,fun u hu hl g=>by
   by_cases e:nk u=i
   ·have np:=same u hu e
    rcases g with g|⟨g,g2|⟨g2,_⟩⟩
    ·exact np (.inl (by omega))
    ·omega
    omega
   exact b3 u hu (by omega) g⟩)
  refine⟨s,s1,fin _ ?_⟩
  simp only [if_pos t,if_neg z,if_neg y,w]
  exact s2
theorem Jw (n a b:Int) (E:List S59) (hE:ok n E) (ks:List Int) (hk:(ks.length:Int)<=1000) (hr:∀v∈ks,0<=v/\v<n) (hp:uL n E ks a b) (hs:∃q,qh (cut E (kS a b)) ks b q):
  ∃p,vD (cut E (kS a b)) ks b p/\Ev (fun k=>mI.f k n E ks a) (a::p,true):=by
 have hl:=oG hE
 have hn:=wW n a E hE
 have hb:b∈next n E a:=(rF hE.2.2.1).2 hp.tie
 have hbr:=(o9 (hE.2.2.1 _ hp.tie)).2.1
 unfold mI.f
 cases e:next n E a with
 |nil=>rw[e]at hb;simp at hb
 |cons x s=>
  have hx:x=b:=by
   have hxm:x∈next n E a:=by rw[e];simp
   have h1:=(hp.least a x hp.here ((rF hE.2.2.1).1 hxm)).2 rfl
   have h2:=FC n a E
   rw[e,List.pairwise_cons]at h2
   rw[e]at hb
   rcases List.mem_cons.1 hb with k|k
   ·exact k.symm
   have:=h2.1 b k;omega
  subst hx
  rw[e]at hn
  have c0:¬ ((x::s).length:Int)=0:=by simp only [List.length_cons];omega
  have c1:0<((x::s).length:Int):=by simp only [List.length_cons];omega
  have r0:rd (x::s) 0=x:=rfl
  have hh:=uK ks x (by unfold big;omega)
  by_cases q:x∈ks
  ·rw[decide_eq_true q]at hh
   refine⟨[x],⟨⟨rfl,by simp[ties],by simp,by simp,q⟩,fun y hy k=>?_⟩,Ev.bind hn ?_⟩
   ·have:y=[x]:=by
     have h1:=hy.head
     cases y with
     |nil=>simp at h1
     |cons u y=>
      simp at h1
      subst h1
      cases y with
      |nil=>rfl
      |cons z y=>exact absurd q (hy.inner u (by rw[xS];simp))
    subst this
    exact Da _ k
   simp only [if_neg c0,if_pos c1,r0]
   exact Ev.bind hh (by simp only [if_true];exact Ev.val rfl)
  rw[decide_eq_false q]at hh
  obtain⟨p,p1,p2⟩:=Jy n a x E (cut E (kS a x)) (uU _ hE) ks hk hr hbr q hs n.toNat 0 [] (Int.le_refl _) (by have:=hE.1;omega) (by simp) (.inl ⟨rfl,fun y hy=>(hr _ hy.last).1⟩)
  refine⟨p,p1,Ev.bind hn ?_⟩
  simp only [if_neg c0,if_pos c1,r0]
  refine Ev.bind hh ?_
  simp only [Bool.false_eq_true,if_false]
  have hc:=vM n a x E (by omega)
  rw[if_pos ⟨hE,hp.tie⟩]at hc
  exact Ev.bind hc p2
def uq (X T:List Tie):List Tie:=X.filter fun t=> !decide (t∈T)
theorem JS (X p:List Tie) (t:Tie):uq X (p++[t])=cut (uq X p) t:=by
 unfold uq cut
 rw[List.filter_filter]
 refine List.filter_congr fun s _=>?_
 simp
 by_cases h1:s∈p<;>by_cases h2:s=t<;>simp[h1,h2]
theorem IG {X:List Tie}{t:Tie}(h:t∉X):cut X t=X:=by
 unfold cut
 refine List.filter_eq_self.2 fun s hs=>?_
 have:s≠t:=fun e=>h (e▸hs)
 simpa using this
theorem J3 (n:Int) (X T:List S59) (hX:ok n X) (hT:(T.length:Int)<=1000) (hr:∀t∈T,inr n t):∀ (suf p:List S59),p++suf=T->Ev (fun k=>nW.l0 k T (p.length:Int) n (uq X p)) (n,uq X T):=by
 intro suf
 induction suf with
 |nil=>
  intro p e
  rw[List.append_nil]at e
  subst e
  have c:¬ (p.length:Int)<(p.length:Int):=by omega
  exact Ev.step (fun k=>by simp only [nW.l0,if_neg c]<;>exact rfl) (Ev.val rfl)
 |cons t suf ih=>
  intro p e
  have c:(p.length:Int)<(T.length:Int):=by rw[←e];exact nD p t suf
  have w:wrap64 ((p.length:Int)+1)=((p++[t]).length:Int):=nP (by unfold big;omega)
  have rt:jQ T (p.length:Int)=t:=by rw[←e];exact vK p t suf
  have ts:=Ce (hr t (by rw[←e];simp))
  have hP:ok n (uq X p):=wY _ hX
  have hl:=oG hP
  have hc:=vM n t.f0 t.f1 (uq X p) (by omega)
  rw[ts]at hc
  have nx:=ih (p++[t]) (by rw[←e];simp)
  rw[JS]at nx
  by_cases q:t∈uq X p
  ·rw[if_pos ⟨hP,q⟩]at hc
   exact Ev.step (fun k=>by simp only [nW.l0,if_pos c,nn,if_true,rt,w]<;>exact rfl) (Ev.bind hc (by simp only [if_true];exact nx))
  rw[if_neg (fun k=>q k.2)]at hc
  rw[IG q]at nx
  exact Ev.step (fun k=>by simp only [nW.l0,if_pos c,nn,if_true,rt,w]<;>exact rfl) (Ev.bind hc (by simp only [Bool.false_eq_true,if_false];exact nx))
theorem J2 (n:Int) (X T:List S59) (hX:ok n X) (hT:(T.length:Int)<=1000) (hr:∀t∈T,inr n t):Ev (fun k=>nW.f k n X T) (n,uq X T):=by
 have hl:=oG hX
 unfold nW.f
 rw[xR n X (by omega)]
 simp only [Option.bind_some]
 have:=J3 n X T hX hT hr T [] rfl
 rw[show uq X []=X from List.filter_eq_self.2 (fun t _=>by simp)]at this
 exact this
theorem Je (n:Int) (E X:List S59) (out:List (List Int)) (ear ks:List Int) (he:ear.length<=20) (hk:ks.length<=900) (r:List (List Int)×Bool)
  (next:Ev (fun k=>(nW.f k n X (ties ear)).bind fun bt=>if out.length<5864062014805 then ll.l0 k (out++[ear]) (nL ks ear) n E bt.1 bt.2 else none) r):
  ∀ (suf p:List Int),p++suf=ear->Ev (fun k=>ll.l2 k out (nL ks p) ear (ties p) (p.length:Int) n E n X) r:=by
 intro suf
 induction suf with
 |nil=>
  intro p e
  rw[List.append_nil]at e
  subst e
  have c:¬ (p.length:Int)<(p.length:Int):=by omega
  exact Ev.step (fun k=>by simp only [ll.l2,if_neg c]<;>exact rfl) next
 |cons v suf ih=>
  intro p e
  have c1:(p.length:Int)<(ear.length:Int):=by rw[←e];exact nD p v suf
  have rv:rd ear (p.length:Int)=v:=by rw[←e];exact oQ p v suf
  have hpb:(p.length:Int)<big:=by unfold big;omega
  have hs:wrap64 ((p.length:Int)+1)=((p++[v]).length:Int):=nP hpb
  have hal:=CR p ks
  have hpl:p.length<=20:=by rw[←e]at he;simp at he;omega
  have hh:=uK (nL ks p) v (by unfold big;omega)
  have hk8:(nL ks p).length<17592186044416:=by omega
  have e':(p++[v])++suf=ear:=by rw[←e];simp
  have nx:=ih (p++[v]) e'
  rw[He]at nx
  rcases List.eq_nil_or_concat p with rfl|⟨q,u,rfl⟩
  ·have c0:¬ (([]:List Int).length:Int)>0:=by simp
   have et:ties ([]:List Int)=ties ([]++[v]):=by simp[ties]
   by_cases m:v∈nL ks []
   ·rw[decide_eq_true m]at hh
    rw[if_pos m]at nx
    refine Ev.step (fun k=>by simp only [ll.l2,if_pos c1,if_neg c0,nn,if_true,rv,hs]<;>exact rfl) (Ev.bind hh ?_)
    simp only [if_true];rw[et];exact nx
   rw[decide_eq_false m]at hh
   rw[if_neg m]at nx
   refine Ev.step (fun k=>by simp only [ll.l2,if_pos c1,if_neg c0,nn,if_true,rv,hs]<;>exact rfl) (Ev.bind hh ?_)
   simp only [Bool.false_eq_true,if_false,if_pos hk8];rw[et];exact nx
  rw[List.concat_eq_append]at*
  have c0:((q++[u]).length:Int)>0:=by simp
  have c2:0<=wrap64 (((q++[u]).length:Int) - 1):=by rw[tO q u hpb];exact nn _
  have c3:wrap64 (((q++[u]).length:Int) - 1)<(ear.length:Int):=by rw[tO q u hpb];simp at c1;omega
  have ru:rd ear (wrap64 (((q++[u]).length:Int) - 1))=u:=by rw[tO q u hpb,←e,xZ];exact oQ q u (v::suf)
  have h5:(ties (q++[u])).length<8796093022208:=by rw[xk];omega
  have et:ties (q++[u])++[(⟨(kS u v).f0,(kS u v).f1⟩:S59)]=ties ((q++[u])++[v]):=by rw[←Cg]
  by_cases m:v∈nL ks (q++[u])
  ·rw[decide_eq_true m]at hh
   rw[if_pos m]at nx
   refine Ev.step (fun k=>by simp only [ll.l2,if_pos c1,if_pos c0,if_pos c2,if_pos c3,nn,if_true,ru,rv,hs,vZ,Option.bind_some,if_pos h5,et]<;>exact rfl) (Ev.bind hh ?_)
   simp only [if_true];exact nx
  rw[decide_eq_false m]at hh
  rw[if_neg m]at nx
  refine Ev.step (fun k=>by simp only [ll.l2,if_pos c1,if_pos c0,if_pos c2,if_pos c3,nn,if_true,ru,rv,hs,vZ,Option.bind_some,if_pos h5,et]<;>exact rfl) (Ev.bind hh ?_)
  simp only [Bool.false_eq_true,if_false,if_pos hk8];exact nx
theorem Jd (n:Int) (E X:List S59) (hX:ok n X) (out:List (List Int)) (ks:List Int) (hk:ks.length<=900) (a b:Int) (hp:uL n X ks a b) (r:List (List Int)×Bool) (nxt:Ev (fun k=>ll.j3 k out ks a n E n X) r):∀ (d:Nat) (i:Int),0<=i->i+d=a->
  Ev (fun k=>ll.l1 k out ks i n E n X) r:=by
 have h8:=hX.2.1
 have ha:=(o9 (hX.2.2.1 _ hp.tie)).1
 intro d
 induction d with
 |zero=>
  intro i h0 h
  have e:i=a:=by omega
  subst e
  have c:i<n:=ha.2
  have hh:=uK ks i (by unfold big;omega)
  rw[decide_eq_true hp.here]at hh
  have hl:=AA n i X hX
  have hb:b∈next n X i:=(rF hX.2.2.1).2 hp.tie
  have:(((next n X i).length:Int)==0)=false:=by
   rw[beq_eq_false_iff_ne]
   have:=List.length_pos_of_mem hb
   omega
  rw[this]at hl
  exact Ev.step (fun k=>by simp only [ll.l1,if_pos c]<;>exact rfl) (Ev.bind hh (by simp only [if_true];exact Ev.bind hl (by simp only [Bool.false_eq_true,if_false];exact nxt)))
 |succ d ih=>
  intro i h0 h
  have c:i<n:=by omega
  have w:wrap64 (i+1)=i+1:=w64 (by omega) (by omega)
  have hh:=uK ks i (by unfold big;omega)
  have nx:=ih (i+1) (by omega) (by omega)
  by_cases q:i∈ks
  ·rw[decide_eq_true q]at hh
   have hl:=AA n i X hX
   have:(((next n X i).length:Int)==0)=true:=by
    rw[beq_iff_eq]
    cases e:next n X i with
    |nil=>rfl
    |cons y s=>
     have:=(hp.least i y q ((rF hX.2.2.1).1 (by rw[e];simp))).1
     omega
   rw[this]at hl
   exact Ev.step (fun k=>by simp only [ll.l1,if_pos c]<;>exact rfl) (Ev.bind hh (by simp only [if_true];exact Ev.bind hl (by simp only [if_true,w];exact nx)))
  rw[decide_eq_false q]at hh
  exact Ev.step (fun k=>by simp only [ll.l1,if_pos c]<;>exact rfl) (Ev.bind hh (by simp only [Bool.false_eq_true,if_false,w];exact nx))
theorem EH {n:Int}{X:List Tie}{K:List Int}{a b:Int}{p:List Int}(hX:∀t∈X,inr n t) (ht:kS a b∈X) (hp:qh (cut X (kS a b)) K b p):
  (∀v∈a::p,0<=v/\v<n)/\(∀t∈ties (a::p),t∈X)/\kS a b∈ties (a::p)/\((a::p).length:Int)<=n+1:=by
 have hab:=o9 (hX _ ht)
 have hk:=yV (fun t q=>hX t (ut.1 q).1) hab.2.1 hp
 have hl:=tQ hp.nodup (fun y hy=>qy.2 (hk y hy))
 rw[rf]at hl
 cases p with
 |nil=>have:=hp.head;simp at this
 |cons y p=>
  have:y=b:=by have:=hp.head;simpa using this
  subst this
  refine⟨fun v hv=>?_,fun t q=>?_,by simp[ties],by simp only [List.length_cons]at*;omega⟩
  ·rcases List.mem_cons.1 hv with rfl|hv
   ·exact hab.1
   exact hk v hv
  simp only [ties,List.mem_cons]at q
  rcases q with rfl|q
  ·exact ht
  exact(ut.1 (hp.ties t q)).1
theorem Jc (n:Int) (E:List S59) (hE:ok n E) (hc:∀u∈ni n,∀v∈ni n,mh E u v) (hn:∀t∈E,mh (cut E t) t.f0 t.f1):∀ (m:Nat) (X:List S59) (ks:List Int) (out:List (List Int)),X.length<=m->ok n X->uA n E X ks->ks.Nodup->out.length+m<=64->
  ∃rows,tL n X ks rows/\Ev (fun k=>ll.l0 k out ks n E n X) (out++rows,true):=by
 have h8:=hE.2.1
 intro m
 induction m with
 |zero=>
  intro X ks out hm hX hL hk ho
  have e:X=[]:=List.eq_nil_of_length_eq_zero (by omega)
  have c:¬ (X.length:Int)>0:=by omega
  exact⟨[],e,Ev.step (fun k=>by simp only [ll.l0,if_neg c]<;>exact rfl) (Ev.val (by simp))⟩
 |succ m ih=>
  intro X ks out hm hX hL hk ho
  by_cases e:X=[]
  ·have c:¬ (X.length:Int)>0:=by rw[e];simp
   exact⟨[],e,Ev.step (fun k=>by simp only [ll.l0,if_neg c]<;>exact rfl) (Ev.val (by simp))⟩
  have c:(X.length:Int)>0:=by
   have:=List.length_pos_iff.2 e
   omega
  have kl:=tQ hk (fun v hv=>qy.2 (hL.rng v hv))
  rw[rf]at kl
  obtain⟨a0,b0,p1,p2⟩:=FL hE.2.2.1 hc hL e
  obtain⟨a,b,hp⟩:=Ff hX.2.2.1 p1 p2
  obtain⟨p,g1,g2⟩:=Jw n a b X hX ks (by omega) hL.rng hp (Df h8 hE.2.2.1 hn hL hp.here hp.tie)
  obtain⟨r1,r2,r3,r4⟩:=EH hX.2.2.1 hp.tie g1.1
  have hlt:(p_ X (a::p)).length<X.length:=by
   unfold p_
   have h1:=List.length_filter_le (fun t=> !decide (t∈ties (a::p))) X
   refine Nat.lt_of_le_of_ne h1 (fun q=>?_)
   rw[List.length_filter_eq_length_iff]at q
   have:=q _ hp.tie
   simp[r3]at this
  obtain⟨rows,i1,i2⟩:=ih (p_ X (a::p)) (nL ks (a::p)) (out++[a::p]) (by omega) (wY _ hX) (hL.next r1) (x_ _ hk) (by simp;omega)
  have o5:out.length<5864062014805:=by omega
  have hl:=J2 n X (ties (a::p)) hX (by rw[xk];omega) (fun t q=>hX.2.2.1 t (r2 t q))
  have l2:=Je n E X out (a::p) ks (by omega) (by omega) (out++(a::p)::rows,true) (Ev.bind hl (by
   simp only [if_pos o5]
   rw[show out++(a::p)::rows=(out++[a::p])++rows by simp]
   exact i2)) (a::p) [] rfl
  have ha:=(o9 (hX.2.2.1 _ hp.tie)).1
  refine⟨(a::p)::rows,⟨e,⟨a,b,p,hp,g1,rfl⟩,i1⟩,Ev.step (fun k=>by simp only [ll.l0,if_pos c]<;>exact rfl) ?_⟩
  refine Jd n E X hX out ks (by omega) a b hp _ ?_ a.toNat 0 (Int.le_refl 0) (by omega)
  exact Ev.step (fun k=>by simp only [ll.j3]<;>exact rfl) (Ev.bind g2 (by simp only [if_true];exact l2))
end Go.Proofs.Ytgeonpciodepgaa.P
namespace Go.Proofs.Ytgeonpciodepgaa.G
open Go.RowKit Go.Proofs.YtgeonpciodepgaaW.PrintWords
def conn (n:Int) (E:List Tie):Prop:=∀u∈ni n,∀v∈ni n,mh E u v
def nob (E:List Tie):Prop:=∀t∈E,mh (cut E t) t.f0 t.f1
theorem xg {n:Int}{E:List Tie}{f:List Int}(h:Parts n E f) (h1:1<=n):(roots n f).length=1↔conn n E:=by
 have r1:=F5 h h1
 constructor
 ·intro k u hu v hv
  have a:=qy.1 hu
  have b:=qy.1 hv
  have idem:∀w,0<=w->w<n->rd f w∈roots n f:=fun w w0 w1=>by
   have l:=h.low w w0 w1
   exact zP.2 ⟨⟨l.1,by omega⟩,(h.same w (rd f w) w0 w1 l.1 (by omega) (h.conn w w0 w1)).symm⟩
  match e:roots n f,k with
  |[x],_=>
   have i1:=idem u a.1 a.2
   have i2:=idem v b.1 b.2
   rw[e,List.mem_singleton]at i1 i2
   exact(h.iff a b).1 (i1.trans i2.symm)
 intro hc
 have r2:(roots n f).length<=1:=by
  obtain⟨u,hu⟩:=List.exists_mem_of_length_pos (show 0<(roots n f).length by omega)
  refine tQ (m:=[u]) (Lj n f) (fun v hv=>?_)
  have a:=zP.1 hu
  have b:=zP.1 hv
  have:=h.same u v a.1.1 a.1.2 b.1.1 b.1.2 (hc u (qy.2 a.1) v (qy.2 b.1))
  have:v=u:=by omega
  simp[this]
 omega
theorem Iy {n:Int}{E:List Tie}(hE:∀t∈E,inr n t) (hc:conn n E) {t:Tie}(ht:t∈E):conn n (cut E t)↔mh (cut E t) t.f0 t.f1:=by
 have hi:=hE t ht
 constructor
 ·intro h
  exact h _ (qy.2 ⟨hi.1,by have:=hi.2.1;have:=hi.2.2;omega⟩) _ (qy.2 ⟨by have:=hi.1;have:=hi.2.1;omega,hi.2.2⟩)
 intro h u hu v hv
 refine(hc u hu v hv).closed (fun x=>mh (cut E t) u x) (.refl _) (fun x y hx hxy=>?_)
 by_cases e:kS x y=t
 ·rw[←e]at h
  rw[e]at h
  refine hx.trans ?_
  rw[←e]at h⊢
  exact Ex h
 exact hx.trans (mh.one (ut.2 ⟨hxy,e⟩))
end Go.Proofs.Ytgeonpciodepgaa.G
namespace Go.Proofs.Ytgeonpciodepgaa.P
open Go.RowKit Go.Proofs.YtgeonpciodepgaaW.PrintWords Go.Proofs.Ytgeonpciodepgaa.G Go.Proofs.YtgeonpciodepgaaW.PrintWords.Kd
theorem Lm (i:Int) (f:List Int):(roots i f).length<=i.toNat:=by
 rw[←rf i];exact List.length_filter_le _ _
theorem Lp {i:Int}(h0:0<=i) (f:List Int):roots (i+1) f=roots i f++if rd f i=i then[i] else[]:=by
 unfold roots
 rw[zL h0,List.filter_append]
 congr 1
 by_cases c:rd f i=i
 ·rw[if_pos c,List.filter_cons,if_pos (decide_eq_true c)];rfl
 rw[if_neg c,List.filter_cons,if_neg (by simpa using c)];rfl
theorem Mc (f:List Int) (h8:(f.length:Int)<=8):∀ (d:Nat) (i:Int),0<=i->i+d=(f.length:Int)->Ev (fun k=>oM.l0 k f ((roots i f).length:Int) i) ((roots (f.length:Int) f).length:Int):=by
 intro d
 induction d with
 |zero=>
  intro i h0 hi
  have c:¬i<(f.length:Int):=by omega
  have e:i=(f.length:Int):=by omega
  exact Ev.step (fun k=>by simp only [oM.l0,if_neg c]<;>exact rfl) (Ev.val (by rw[e]))
 |succ d ih=>
  intro i h0 hi
  have c:i<(f.length:Int):=by omega
  have w:wrap64 (i+1)=i+1:=w64 (by omega) (by omega)
  have nx:=ih (i+1) (by omega) (by omega)
  have hl:=Lm i f
  have w2:wrap64 (((roots i f).length:Int)+1)=((roots i f).length:Int)+1:=w64 (by omega) (by omega)
  rw[Lp h0]at nx
  by_cases e:rd f i=i
  ·rw[if_pos e]at nx
   refine Ev.step (fun k=>by simp only [oM.l0,if_pos c,if_pos h0,if_pos e,w,w2]<;>exact rfl) ?_
   simpa using nx
  rw[if_neg e]at nx
  refine Ev.step (fun k=>by simp only [oM.l0,if_pos c,if_pos h0,if_neg e,w]<;>exact rfl) ?_
  simpa using nx
theorem Ck (n:Int) (E:List S59) (hE:ok n E):∃f,Parts n E f/\Ev (fun k=>oM.f k n E) ((roots n f).length:Int):=by
 obtain⟨f,e,h⟩:=Gs n E hE
 have h8:=hE.2.1
 have hl:=h.len
 have he:=oG hE
 refine⟨f,h,?_⟩
 unfold oM.f
 refine Ev.bind (uW n E (by unfold big;omega)) ?_
 simp only [decide_eq_true hE,if_true]
 refine Ev.bind e ?_
 have:=Mc f (by omega) f.length 0 (Int.le_refl 0) (by omega)
 rw[hl]at this
 exact this
theorem Ie (n:Int) (E:List S59) (hE:ok n E) (h1:1<=n) (hc:conn n E) (t:Tie) (ht:t∈E):∃b,Ev (fun k=>qD.f k n E t.f0 t.f1) b/\(b=false↔mh (cut E t) t.f0 t.f1):=by
 have hl:=oG hE
 have hcut:=vM n t.f0 t.f1 E (by omega)
 rw[Ce (hE.2.2.1 t ht),if_pos ⟨hE,ht⟩]at hcut
 obtain⟨f,f1,f2⟩:=Ck n (cut E t) (uU t hE)
 obtain⟨g,g1,g2⟩:=Ck n E hE
 have go:=(xg g1 h1).2 hc
 have fp:=F5 f1 h1
 refine⟨decide (((roots n f).length:Int)> ((roots n g).length:Int)),?_,?_⟩
 ·unfold qD.f
  refine Ev.bind hcut ?_
  simp only [if_true]
  exact Ev.bind f2 (Ev.bind g2 (Ev.val rfl))
 rw[←Iy hE.2.2.1 hc ht,←xg f1 h1,decide_eq_false_iff_not]
 omega
theorem Im (n:Int) (E:List S59) (hE:ok n E) (h1:1<=n) (hc:conn n E):∀ (suf p q:List S59),p++suf=E->q.length<=p.length->∃L,Ev (fun k=>nV.l0 k q (p.length:Int) n E) L/\(L=[]↔q=[]/\∀t∈suf,mh (cut E t) t.f0 t.f1):=by
 have hl:=oG hE
 intro suf
 induction suf with
 |nil=>
  intro p q e hq
  rw[List.append_nil]at e
  subst e
  have c:¬ (p.length:Int)<(p.length:Int):=by omega
  exact⟨q,Ev.step (fun k=>by simp only [nV.l0,if_neg c]<;>exact rfl) (Ev.val rfl),by simp⟩
 |cons t suf ih=>
  intro p q e hq
  have c:(p.length:Int)<(E.length:Int):=by rw[←e];exact nD p t suf
  have w:wrap64 ((p.length:Int)+1)=((p++[t]).length:Int):=nP (by unfold big;omega)
  have rt:jQ E (p.length:Int)=t:=by rw[←e];exact vK p t suf
  have ht:t∈E:=by rw[←e];simp
  have q8:q.length<8796093022208:=by omega
  obtain⟨b,b1,b2⟩:=Ie n E hE h1 hc t ht
  cases b with
  |true=>
   obtain⟨L,l1,l2⟩:=ih (p++[t]) (q++[t]) (by rw[←e];simp) (by simp;omega)
   refine⟨L,Ev.step (fun k=>by simp only [nV.l0,if_pos c,nn,if_true,rt,w]<;>exact rfl) (Ev.bind b1 (by simp only [if_true,if_pos q8];exact l1)),?_⟩
   rw[l2]
   constructor
   ·intro k;simp at k
   intro k
   have:=b2.2 (k.2 t List.mem_cons_self)
   simp at this
  |false=>
   obtain⟨L,l1,l2⟩:=ih (p++[t]) q (by rw[←e];simp) (by simp;omega)
   refine⟨L,Ev.step (fun k=>by simp only [nV.l0,if_pos c,nn,if_true,rt,w]<;>exact rfl) (Ev.bind b1 (by simp only [Bool.false_eq_true,if_false];exact l1)),?_⟩
   rw[l2]
   constructor
   ·intro k
    refine⟨k.1,fun s hs=>?_⟩
    rcases List.mem_cons.1 hs with rfl|hs
    ·exact b2.1 rfl
    exact k.2 s hs
   intro k
   exact⟨k.1,fun s hs=>k.2 s (List.mem_cons_of_mem _ hs)⟩
theorem Il (n:Int) (E:List S59) (hE:ok n E) (h1:1<=n) (hc:conn n E):∃L,Ev (fun k=>nV.f k n E) L/\(L=[]↔nob E):=by
 have hl:=oG hE
 obtain⟨L,l1,l2⟩:=Im n E hE h1 hc E [] [] rfl (Nat.le_refl _)
 refine⟨L,?_,by rw[l2];exact⟨fun k=>k.2,fun k=>⟨rfl,k⟩⟩⟩
 unfold nV.f
 simp only [Option.bind_some]
 refine Ev.bind (uW n E (by unfold big;omega)) ?_
 simp only [decide_eq_true hE,if_true]
 exact l1
def vT (n:Int) (E:List Tie):Prop:=ok n E/\3<=n/\conn n E/\nob E
theorem Lx (n:Int) (E:List S59) (hb:(E.length:Int)<big):
  (vT n E->∃rows,tL n E [0] rows/\Ev (fun k=>ll.f k n E) (rows,true))/\(¬vT n E->Ev (fun k=>ll.f k n E) ([],false)):=by
 have no:Ev (fun k=>ll.j0 k [] true n E) ([],false):=Ev.step (fun k=>by simp only [ll.j0,if_true]<;>exact rfl) (Ev.val rfl)
 have hk:=uW n E hb
 unfold ll.f
 simp only [Option.bind_some]
 by_cases c:ok n E;rotate_left
 ·rw[decide_eq_false c]at hk
  exact⟨fun h=>absurd h.1 c,fun _=>Ev.bind hk (by simp only [Bool.false_eq_true,if_false];exact no)⟩
 rw[decide_eq_true c]at hk
 have hl:=oG c
 by_cases d:n<3
 ·refine⟨fun h=>by have:=h.2.1;omega,fun _=>Ev.bind hk (by simp only [if_true,if_pos d];exact no)⟩
 obtain⟨f,f1,f2⟩:=Ck n E c
 by_cases e:conn n E
 ·have r1:=(xg f1 (by omega)).2 e
  have e1:((roots n f).length:Int)=1:=by omega
  obtain⟨L,l1,l2⟩:=Il n E c (by omega) e
  by_cases g:nob E
  ·have hL:L=[]:=l2.2 g
   have dz:decide ((L.length:Int)>0)=false:=by rw[hL];rfl
   refine⟨fun _=>?_,fun k=>absurd ⟨c,by omega,e,g⟩ k⟩
   obtain⟨rows,h1,h2⟩:=Jc n E c e g E.length E [0] [] (Nat.le_refl _) c ⟨fun t h=>h,fun t h k=>absurd h k,by simp,fun v hv=>by rw[List.mem_singleton]at hv;subst hv;omega⟩ (by simp) (by simp;omega)
   exact⟨rows,h1,Ev.bind hk (by simp only [if_true,if_neg d];exact Ev.bind f2 (by simp only [if_pos e1];exact Ev.bind l1 (by rw[dz];exact Ev.step (fun k=>by simp only [ll.j0,Bool.false_eq_true,if_false,xR n E (by omega),Option.bind_some]<;>exact rfl) h2)))⟩
  have hL:L≠[]:=fun k=>g (l2.1 k)
  have dz:decide ((L.length:Int)>0)=true:=by
   have:=List.length_pos_iff.2 hL
   rw[decide_eq_true_eq];omega
  exact⟨fun h=>absurd h.2.2.2 g,fun _=>Ev.bind hk (by simp only [if_true,if_neg d];exact Ev.bind f2 (by simp only [if_pos e1];exact Ev.bind l1 (by rw[dz];exact no)))⟩
 have r1:¬ ((roots n f).length:Int)=1:=fun k=>e ((xg f1 (by omega)).1 (by omega))
 exact⟨fun h=>absurd h.2.2.1 e,fun _=>Ev.bind hk (by simp only [if_true,if_neg d];exact Ev.bind f2 (by simp only [if_neg r1];exact no))⟩
theorem JJ (n a b:Int) (E:List S59) (hE:ok n E) (ha:0<=a/\a<n) (hb:0<=b/\b<n):∃c,Ev (fun k=>uJ.f k n E a b) c/\(c=true↔mh E a b):=by
 obtain⟨f,e,h⟩:=FM n E hE
 have hl:=h.len
 have la:a<(f.length:Int):=by omega
 have lb:b<(f.length:Int):=by omega
 refine⟨rd f a==rd f b,?_,by rw[beq_iff_eq];exact h.iff ha hb⟩
 unfold uJ.f
 refine Ev.bind e ?_
 simp only [if_pos ha.1,if_pos hb.1,if_pos la,if_pos lb]
 exact Ev.val rfl
theorem Ii (n:Int) (E:List S59) (hE:ok n E):∀ (suf p q:List S59),p++suf=E->q.length<=p.length->∃L,Ev (fun k=>ol.l0 k q (p++suf) ((p++suf).length:Int) (p.length:Int) n E) L/\(L=[]↔q=[]/\∀t∈suf,mh (cut E t) t.f0 t.f1):=by
 have hl:=oG hE
 intro suf
 induction suf with
 |nil=>
  intro p q _ _
  exact⟨q,Ev.step (fun k=>by simp only [ol.l0,qj,if_false]<;>exact rfl) (Ev.val rfl),by simp⟩
 |cons t suf ih=>
  intro p q e hq
  have ht:t∈E:=by rw[←e];simp
  have hr:=hE.2.2.1 t ht
  unfold inr at hr
  have hp:(p.length:Int)<big:=qx (suf:=suf) (t:=t) (by rw[e];unfold big;omega)
  have c:=nD p t suf
  have q8:q.length<8796093022208:=by rw[e]at c;omega
  have rt:jQ (p++t::suf) (p.length:Int)=t:=w_ p t suf
  obtain⟨b,b1,b2⟩:=JJ n t.f0 t.f1 (cut E t) (uU t hE) ⟨hr.1,by omega⟩ ⟨by omega,hr.2.2⟩
  have st:∀L,Ev (fun k=>if b=true then ol.l0 k q (p++t::suf) ((p++t::suf).length:Int) ((p++[t]).length:Int) n E else ol.l0 k (q++[t]) (p++t::suf) ((p++t::suf).length:Int) ((p++[t]).length:Int) n E) L->
    Ev (fun k=>ol.l0 k q (p++t::suf) ((p++t::suf).length:Int) (p.length:Int) n E) L:=fun L hL=>by
   refine Ev.step (fun k=>by simp only [ol.l0,if_pos c,nn,if_true,rt,nP (t:=t) hp,if_pos q8]<;>exact rfl) (Ev.bind (Bv n E t (by omega)) (Ev.bind b1 ?_))
   exact hL
  cases b with
  |true=>
   obtain⟨L,l1,l2⟩:=ih (p++[t]) q (by rw[←e];simp) (by simp;omega)
   rw[←nM]at l1
   refine⟨L,st L (by simpa using l1),?_⟩
   rw[l2]
   constructor
   ·intro k
    refine⟨k.1,fun s hs=>?_⟩
    rcases List.mem_cons.1 hs with rfl|hs
    ·exact b2.1 rfl
    exact k.2 s hs
   intro k
   exact⟨k.1,fun s hs=>k.2 s (List.mem_cons_of_mem _ hs)⟩
  |false=>
   obtain⟨L,l1,l2⟩:=ih (p++[t]) (q++[t]) (by rw[←e];simp) (by simp;omega)
   rw[←nM]at l1
   refine⟨L,st L (by simpa using l1),?_⟩
   rw[l2]
   constructor
   ·intro k;simp at k
   intro k
   have:=b2.2 (k.2 t List.mem_cons_self)
   simp at this
theorem Ih (n:Int) (E:List S59) (hE:ok n E):∃L,Ev (fun k=>ol.f k n E) L/\(L=[]↔nob E):=by
 obtain⟨L,l1,l2⟩:=Ii n E hE E [] [] rfl (Nat.le_refl _)
 refine⟨L,l1,by rw[l2];exact⟨fun k=>k.2,fun k=>⟨rfl,k⟩⟩⟩
theorem IW (K:List Bool) (v x:Int) (h0:0<=v) (h1:v<(K.length:Int)) (x0:0<=x):l8 false (K.set v.toNat true) x=if x=v then true else l8 false K x:=by
 unfold l8
 rw[List.getD_eq_getElem?_getD,List.getD_eq_getElem?_getD,List.getElem?_set]
 by_cases e:x=v
 ·subst e
  have:x.toNat<K.length:=by omega
  simp[this]
 have:¬v.toNat=x.toNat:=by omega
 simp[this,e]
theorem F7 {n:Int}{lr:List Bool}{K K':List Int}{v:Int}(h:seen n lr K) (h0:0<=v) (h1:v<n) (hk:∀x,x∈K'↔x∈K\/x=v):seen n (lr.set v.toNat true) K':=by
 refine⟨by rw[List.length_set];exact h.1,fun x x0 x1=>?_⟩
 rw[IW lr v x h0 (by rw[h.1];exact h1) x0,hk,←h.2 x x0 x1]
 by_cases e:x=v
 ·simp[e]
 simp[e]
theorem Ls {n:Int}{lr:List Bool}{K K':List Int}(h:seen n lr K) (hk:∀x,x∈K'↔x∈K):seen n lr K':=⟨h.1,fun x x0 x1=>by rw[hk];exact h.2 x x0 x1⟩
theorem JW (C:List Tie) (p:List Int) (u w:Int):p_ C ((p++[u])++[w])=cut (p_ C (p++[u])) (kS u w):=by
 have e:ties ((p++[u])++[w])=ties (p++[u])++[kS u w]:=by
  rw[show(p++[u])++[w]=p++u::w::[] by simp,zY]
  simp[ties]
 unfold p_ cut
 rw[List.filter_filter,e]
 refine List.filter_congr fun s _=>?_
 simp
 by_cases h1:s∈ties (p++[u])<;>by_cases h2:s=kS u w<;>simp[h1,h2]
theorem I8 (n:Int) (E C:List S59) (hC:ok n C) (out:List (List Int)) (K ear:List Int) (he:ear.length<=20) (hr:∀v∈ear,0<=v/\v<n) (r:List (List Int)×Bool)
  (nxt:∀lr,seen n lr (nL K ear)->Ev (fun k=>if out.length<5864062014805 then kV.l0 k (out++[ear]) lr n E n (p_ C ear) else none) r):∀ (suf p:List Int) (u:Int) (lr:List Bool),p++u::suf=ear->seen n lr (nL K (p++[u]))->
  Ev (fun k=>kV.l3 k out lr ear ((p++[u]).length:Int) n E n (p_ C (p++[u]))) r:=by
 intro suf
 induction suf with
 |nil=>
  intro p u lr e hS
  subst e
  have c:¬ ((p++[u]).length:Int)<((p++[u]).length:Int):=by omega
  refine Ev.step (fun k=>by simp only [kV.l3,if_neg c]<;>exact rfl) (nxt lr hS)
 |cons w suf ih=>
  intro p u lr e hS
  have e1:ear=p++u::(w::suf):=e.symm
  have e2:ear=(p++[u])++w::suf:=by rw[←e];simp
  have hl:ear.length=p.length+1+1+suf.length:=by rw[←e];simp;omega
  have hl2:(p++[u]).length=p.length+1:=by simp
  have c:((p++[u]).length:Int)<(ear.length:Int):=by omega
  have c1:(p.length:Int)<(ear.length:Int):=by omega
  have hp:=yR p u (by omega)
  have r1:rd ear (p.length:Int)=u:=by rw[e1];exact oQ p u (w::suf)
  have r2:rd ear ((p++[u]).length:Int)=w:=by rw[e2];exact oQ (p++[u]) w suf
  have hw:=hr w (by rw[←e];simp)
  have w0:0<=w:=hw.1
  have w1:w<(lr.length:Int):=by rw[hS.1];exact hw.2
  have ws:wrap64 (((p++[u]).length:Int)+1)=(((p++[u])++[w]).length:Int):=nP (by unfold big;omega)
  have lc:=oG (wY (fun t=> !decide (t∈ties (p++[u]))) hC)
  have hle:=Bv n (p_ C (p++[u])) (kS u w) (by unfold p_;omega)
  rw[←JW]at hle
  have nx:=ih (p++[u]) w (lr.set w.toNat true) (by rw[←e];simp) (F7 hS hw.1 hw.2 (fun x=>by
   rw[r9,r9,List.mem_append,List.mem_singleton,or_assoc]))
  refine Ev.step (fun k=>by simp only [kV.l3,if_pos c,hp,nn,if_true,if_pos c1,r1,r2,zX,Option.bind_some,ws]<;>exact rfl) (Ev.bind hle ?_)
  simp only [if_pos w0,if_pos w1]
  exact nx
theorem I_ (n:Int) (E C:List S59) (hC:ok n C) (out:List (List Int)) (lr:List Bool) (K:List Int) (hS:seen n lr K) (i:Int) (hi:0<=i/\i<n) (no:∀y,i∈K->¬kS i y∈C) (r:List (List Int)×Bool)
  (nxt:Ev (fun k=>kV.l1 k out lr [] (i+1) n E n C) r):∀ (d:Nat) (j:Int),0<=j->j+d=n->Ev (fun k=>kV.l2 k out lr [] i j n E n C) r:=by
 have hl:=oG hC
 have h8:=hC.2.1
 have wi:wrap64 (i+1)=i+1:=w64 (by omega) (by omega)
 have i0:0<=i:=hi.1
 have i1:i<(lr.length:Int):=by rw[hS.1];exact hi.2
 intro d
 induction d with
 |zero=>
  intro j h0 h
  have c:¬j<n:=by omega
  refine Ev.step (fun k=>by simp only [kV.l2,if_neg c]<;>exact rfl) ?_
  exact Ev.step (fun k=>by simp only [kV.j5,Bool.false_eq_true,if_false,wi]<;>exact rfl) nxt
 |succ d ih=>
  intro j h0 h
  have c:j<n:=by omega
  have wj:wrap64 (j+1)=j+1:=w64 (by omega) (by omega)
  have nx:=ih (j+1) (by omega) (by omega)
  have fin:Ev (fun k=>kV.j6 k out lr [] i j false n E n C) r:=Ev.step (fun k=>by simp only [kV.j6,Bool.false_eq_true,if_false,wj]<;>exact rfl) nx
  have c0:((([]:List Int).length:Int)==0)=true:=rfl
  refine Ev.step (fun k=>by simp only [kV.l2,if_pos c,c0]<;>exact rfl) ?_
  by_cases q:i∈K
  ·have rt:l8 false lr i=true:=(hS.2 i hi.1 hi.2).2 q
   refine Ev.step (fun k=>by simp only [kV.j5,if_true,if_pos i0,if_pos i1,if_pos rt]<;>exact rfl) ?_
   have hh:=xW n i j C (by unfold big;omega)
   rw[decide_eq_false (no j q)]at hh
   exact Ev.bind hh fin
  have rt:¬l8 false lr i=true:=fun k=>q ((hS.2 i hi.1 hi.2).1 k)
  exact Ev.step (fun k=>by simp only [kV.j5,if_true,if_pos i0,if_pos i1,if_neg rt]<;>exact rfl) fin
theorem I9 (n:Int) (E C:List S59) (out:List (List Int)) (lr:List Bool) (ear:List Int) (he:ear≠[]) (i j:Int) (r:List (List Int)×Bool) (nxt:Ev (fun k=>kV.l3 k out lr ear 1 n E n C) r):Ev (fun k=>kV.l2 k out lr ear i j n E n C) r:=by
 have c0:((ear.length:Int)==0)=false:=by
  rw[beq_eq_false_iff_ne]
  have:=List.length_pos_iff.2 he
  omega
 have f3:∀i,Ev (fun k=>kV.j3 k out lr ear i false n E n C) r:=fun i=>Ev.step (fun k=>by simp only [kV.j3,Bool.false_eq_true,if_false]<;>exact rfl) nxt
 have f1:∀i,Ev (fun k=>kV.l1 k out lr ear i n E n C) r:=fun i=>by
  by_cases c:i<n
  ·exact Ev.step (fun k=>by simp only [kV.l1,if_pos c,c0]<;>exact rfl) (f3 i)
  exact Ev.step (fun k=>by simp only [kV.l1,if_neg c]<;>exact rfl) (f3 i)
 have f5:Ev (fun k=>kV.j5 k out lr ear i j false n E n C) r:=Ev.step (fun k=>by simp only [kV.j5,Bool.false_eq_true,if_false]<;>exact rfl) (f1 _)
 by_cases c:j<n
 ·exact Ev.step (fun k=>by simp only [kV.l2,if_pos c,c0]<;>exact rfl) f5
 exact Ev.step (fun k=>by simp only [kV.l2,if_neg c]<;>exact rfl) f5
theorem I5 (n:Int) (E C:List S59) (hC:ok n C) (out:List (List Int)) (lr:List Bool) (K:List Int) (hS:seen n lr K) (a b:Int) (hp:uL n C K a b) (q:List Int) (hq:q.length<=20) (hb:Ev (fun k=>ul.f k n (cut C (kS a b)) b lr) q) (r:List (List Int)×Bool)
  (nxt:Ev (fun k=>kV.l3 k out lr (a::q) 1 n E n C) r):∀ (d:Nat) (j:Int),0<=j->j+d=b->Ev (fun k=>kV.l2 k out lr [] a j n E n C) r:=by
 have hl:=oG hC
 have h8:=hC.2.1
 have hab:=o9 (hC.2.2.1 _ hp.tie)
 have i0:0<=a:=hab.1.1
 have i1:a<(lr.length:Int):=by rw[hS.1];exact hab.1.2
 have rt:l8 false lr a=true:=(hS.2 a hab.1.1 hab.1.2).2 hp.here
 have c0:((([]:List Int).length:Int)==0)=true:=rfl
 intro d
 induction d with
 |zero=>
  intro j h0 h
  have e:j=b:=by omega
  subst e
  have c:j<n:=hab.2.1.2
  have hh:=xW n a j C (by unfold big;omega)
  rw[decide_eq_true hp.tie]at hh
  have lim:[a].length+q.length<17592186044416:=by simp;omega
  refine Ev.step (fun k=>by simp only [kV.l2,if_pos c,c0]<;>exact rfl) ?_
  refine Ev.step (fun k=>by simp only [kV.j5,if_true,if_pos i0,if_pos i1,if_pos rt]<;>exact rfl) (Ev.bind hh ?_)
  refine Ev.step (fun k=>by simp only [kV.j6,if_true,zX,Option.bind_some]<;>exact rfl) (Ev.bind (Bv n C (kS a j) (by omega)) (Ev.bind hb ?_))
  simp only [if_pos lim]
  exact I9 n E C out lr (a::q) (by simp) a _ r nxt
 |succ d ih=>
  intro j h0 h
  have c:j<n:=by have:=hab.2.1.2;omega
  have wj:wrap64 (j+1)=j+1:=w64 (by omega) (by omega)
  have nx:=ih (j+1) (by omega) (by omega)
  have fin:Ev (fun k=>kV.j6 k out lr [] a j false n E n C) r:=Ev.step (fun k=>by simp only [kV.j6,Bool.false_eq_true,if_false,wj]<;>exact rfl) nx
  have no:¬kS a j∈C:=fun k=>by
   have:=(hp.least a j hp.here k).2 rfl
   omega
  have hh:=xW n a j C (by unfold big;omega)
  rw[decide_eq_false no]at hh
  refine Ev.step (fun k=>by simp only [kV.l2,if_pos c,c0]<;>exact rfl) ?_
  exact Ev.step (fun k=>by simp only [kV.j5,if_true,if_pos i0,if_pos i1,if_pos rt]<;>exact rfl) (Ev.bind hh fin)
theorem I7 (n:Int) (E C:List S59) (hC:ok n C) (out:List (List Int)) (lr:List Bool) (K:List Int) (hS:seen n lr K) (a b:Int) (hp:uL n C K a b) (q:List Int) (hq:q.length<=20) (hb:Ev (fun k=>ul.f k n (cut C (kS a b)) b lr) q) (r:List (List Int)×Bool)
  (nxt:Ev (fun k=>kV.l3 k out lr (a::q) 1 n E n C) r):∀ (d:Nat) (i:Int),0<=i->i+d=a->Ev (fun k=>kV.l1 k out lr [] i n E n C) r:=by
 have hab:=o9 (hC.2.2.1 _ hp.tie)
 have c0:((([]:List Int).length:Int)==0)=true:=rfl
 intro d
 induction d with
 |zero=>
  intro i h0 h
  have e:i=a:=by omega
  subst e
  have c:i<n:=hab.1.2
  refine Ev.step (fun k=>by simp only [kV.l1,if_pos c,c0]<;>exact rfl) ?_
  exact Ev.step (fun k=>by simp only [kV.j3,if_true]<;>exact rfl) (I5 n E C hC out lr K hS i b hp q hq hb r nxt b.toNat 0 (Int.le_refl 0) (by have:=hab.2.1.1;omega))
 |succ d ih=>
  intro i h0 h
  have c:i<n:=by have:=hab.1.2;omega
  have nx:=ih (i+1) (by omega) (by omega)
  refine Ev.step (fun k=>by simp only [kV.l1,if_pos c,c0]<;>exact rfl) ?_
  refine Ev.step (fun k=>by simp only [kV.j3,if_true]<;>exact rfl) (I_ n E C hC out lr K hS i ⟨h0,c⟩ (fun y hy k=>?_) r nx n.toNat 0 (Int.le_refl 0) (by omega))
  have:=(hp.least i y hy k).1
  omega
theorem I6 (n:Int) (E:List S59) (hE:ok n E) (hc:∀u∈ni n,∀v∈ni n,mh E u v) (hn:∀t∈E,mh (cut E t) t.f0 t.f1):∀ (m:Nat) (X:List S59) (K:List Int) (lr:List Bool) (out:List (List Int)),X.length<=m->ok n X->uA n E X K->seen n lr K->out.length+m<=64->
  ∃rows,tL n X K rows/\Ev (fun k=>kV.l0 k out lr n E n X) (out++rows,true):=by
 have h8:=hE.2.1
 intro m
 induction m with
 |zero=>
  intro X K lr out hm hX hL hS ho
  have e:X=[]:=List.eq_nil_of_length_eq_zero (by omega)
  have c:¬ (X.length:Int)>0:=by omega
  exact⟨[],e,Ev.step (fun k=>by simp only [kV.l0,if_neg c]<;>exact rfl) (Ev.val (by simp))⟩
 |succ m ih=>
  intro X K lr out hm hX hL hS ho
  by_cases e:X=[]
  ·have c:¬ (X.length:Int)>0:=by rw[e];simp
   exact⟨[],e,Ev.step (fun k=>by simp only [kV.l0,if_neg c]<;>exact rfl) (Ev.val (by simp))⟩
  have c:(X.length:Int)>0:=by
   have:=List.length_pos_iff.2 e
   omega
  obtain⟨a0,b0,p1,p2⟩:=FL hE.2.2.1 hc hL e
  obtain⟨a,b,hp⟩:=Ff hX.2.2.1 p1 p2
  obtain⟨p0,hp0⟩:=Df h8 hE.2.2.1 hn hL hp.here hp.tie
  have hab:=o9 (hX.2.2.1 _ hp.tie)
  obtain⟨p,g1,g2⟩:=Ia n b (cut X (kS a b)) (uU _ hX) lr K hS hab.2.1 hp0
  obtain⟨r1,r2,r3,r4⟩:=EH hX.2.2.1 hp.tie g1.1
  have hlt:(p_ X (a::p)).length<X.length:=by
   unfold p_
   have h1:=List.length_filter_le (fun t=> !decide (t∈ties (a::p))) X
   refine Nat.lt_of_le_of_ne h1 (fun q=>?_)
   rw[List.length_filter_eq_length_iff]at q
   have:=q _ hp.tie
   simp[r3]at this
  have o5:out.length<5864062014805:=by omega
  have pl:(a::p).length<=20:=by omega
  have pl2:p.length<=20:=by simp at pl;omega
  -- what comes behind is the same for each row that tells the same
  have key:∀lr',seen n lr' (nL K (a::p))->∃rows,tL n (p_ X (a::p)) (nL K (a::p)) rows/\Ev (fun k=>kV.l0 k (out++[a::p]) lr' n E n (p_ X (a::p))) ((out++[a::p])++rows,true):=fun lr' h'=>
   ih (p_ X (a::p)) (nL K (a::p)) lr' (out++[a::p]) (by omega) (wY _ hX) (hL.next r1) h' (by simp;omega)
  have lrx:∃lr',seen n lr' (nL K (a::p)):=by
   refine⟨(ni n).map fun v=>decide (v∈nL K (a::p)),by rw[List.length_map,rf];have:=hE.1;omega,fun v v0 v1=>?_⟩
   have hv:(ni n)[v.toNat]? =some v:=by
    unfold ni
    rw[List.getElem?_map,List.getElem?_range (by omega)]
    simp;omega
   unfold l8
   rw[List.getD_eq_getElem?_getD,List.getElem?_map,hv]
   simp
  obtain⟨lr0,hlr0⟩:=lrx
  obtain⟨rows,i1,_⟩:=key lr0 hlr0
  refine⟨(a::p)::rows,⟨e,⟨a,b,p,hp,g1,rfl⟩,i1⟩,Ev.step (fun k=>by simp only [kV.l0,if_pos c]<;>exact rfl) ?_⟩
  have c0:seen n lr (nL K ([]++[a])):=Ls hS (fun x=>by
   rw[r9]
   simp
   rintro rfl
   exact hp.here)
  have l3:=I8 n E X hX out K (a::p) pl r1 (out++(a::p)::rows,true) (fun lr' h'=>by
   obtain⟨rows',j1,j2⟩:=key lr' h'
   have:=Bt rows rows' _ _ i1 j1
   subst this
   simp only [if_pos o5]
   rw[show out++(a::p)::rows=(out++[a::p])++rows by simp]
   exact j2) p [] a lr rfl c0
  have l3':Ev (fun k=>kV.l3 k out lr (a::p) 1 n E n X) (out++(a::p)::rows,true):=by
   have e0:p_ X ([]++[a])=X:=by
    unfold p_
    rw[List.filter_eq_self]
    intro t _
    simp[ties]
   rw[e0]at l3
   exact l3
  exact I7 n E X hX out lr K hS a b hp p pl2 g2 _ l3' a.toNat 0 (Int.le_refl 0) (by have:=hab.1.1;omega)
theorem JD (n:Int) (E:List S59) (hb:(E.length:Int)<big):
  (vT n E->∃rows,tL n E [0] rows/\Ev (fun k=>kV.f k n E) (rows,true))/\(¬vT n E->Ev (fun k=>kV.f k n E) ([],false)):=by
 have no:Ev (fun k=>kV.j0 k true n E) ([],false):=Ev.step (fun k=>by simp only [kV.j0,if_true]<;>exact rfl) (Ev.val rfl)
 have hk:=Bq n E hb
 unfold kV.f
 by_cases c:ok n E;rotate_left
 ·rw[decide_eq_false c]at hk
  exact⟨fun h=>absurd h.1 c,fun _=>Ev.bind hk (by simp only [Bool.false_eq_true,if_false];exact no)⟩
 rw[decide_eq_true c]at hk
 have hl:=oG c
 by_cases d:n<3
 ·refine⟨fun h=>by have:=h.2.1;omega,fun _=>Ev.bind hk (by simp only [if_true,if_pos d];exact no)⟩
 obtain⟨f,f1,f2⟩:=IC n E c
 by_cases e:conn n E;rotate_left
 ·have r1:¬ ((roots n f).length:Int)=1:=fun k=>e ((xg f1 (by omega)).1 (by omega))
  exact⟨fun h=>absurd h.2.2.1 e,fun _=>Ev.bind hk (by simp only [if_true,if_neg d];exact Ev.bind f2 (by simp only [if_neg r1];exact no))⟩
 have r1:=(xg f1 (by omega)).2 e
 have e1:((roots n f).length:Int)=1:=by omega
 obtain⟨L,l1,l2⟩:=Ih n E c
 by_cases g:nob E
 ·have hL:L=[]:=l2.2 g
  have dz:decide ((L.length:Int)>0)=false:=by rw[hL];rfl
  have n0:0<=n:=by omega
  have h8:=c.2.1
  have n1:n.toNat<=281474976710656:=by omega
  have n2:0<((List.replicate n.toNat false).length:Int):=by rw[List.length_replicate];omega
  have hS:seen n ((List.replicate n.toNat false).set (0:Int).toNat true) [0]:=F7 (K:=[]) ⟨by rw[List.length_replicate];omega,fun v v0 v1=>by
   unfold l8
   rw[List.getD_eq_getElem?_getD,List.getElem?_replicate]
   split<;>simp⟩ (Int.le_refl 0) (by omega) (fun x=>by simp)
  refine⟨fun _=>?_,fun k=>absurd ⟨c,by omega,e,g⟩ k⟩
  obtain⟨rows,h1,h2⟩:=I6 n E c e g E.length E [0] _ [] (Nat.le_refl _) c ⟨fun t h=>h,fun t h k=>absurd h k,by simp,fun v hv=>by rw[List.mem_singleton]at hv;subst hv;omega⟩ hS (by simp;omega)
  exact⟨rows,h1,Ev.bind hk (by simp only [if_true,if_neg d];exact Ev.bind f2 (by simp only [if_pos e1];exact Ev.bind l1 (by rw[dz];exact Ev.step (fun k=>by simp only [kV.j0,Bool.false_eq_true,if_false,if_pos n0,if_pos n1,Option.bind_some,if_pos n2]<;>exact rfl) h2)))⟩
 have hL:L≠[]:=fun k=>g (l2.1 k)
 have dz:decide ((L.length:Int)>0)=true:=by
  have:=List.length_pos_iff.2 hL
  rw[decide_eq_true_eq];omega
 exact⟨fun h=>absurd h.2.2.2 g,fun _=>Ev.bind hk (by simp only [if_true,if_neg d];exact Ev.bind f2 (by simp only [if_pos e1];exact Ev.bind l1 (by rw[dz];exact no)))⟩
theorem H9 (n:Int) (E:List S59) (hb:(E.length:Int)<big):∃rows,few rows/\Ev (fun k=>ll.f k n E) rows/\Ev (fun k=>kV.f k n E) rows/\(rows.2=true->vT n E/\tL n E [0] rows.1)/\(rows.2=false->¬vT n E/\rows.1=[]):=by
 obtain⟨r,r1,r2⟩:=I4 n E hb
 obtain⟨s1,s2⟩:=Lx n E hb
 obtain⟨i1,i2⟩:=JD n E hb
 by_cases c:vT n E
 ·obtain⟨rows,a1,a2⟩:=s1 c
  obtain⟨rows',b1,b2⟩:=i1 c
  have:=Bt rows rows' _ _ a1 b1
  subst this
  have:=Ev.unique r1 a2
  subst this
  exact⟨_,r2,a2,b2,fun _=>⟨c,a1⟩,by simp⟩
 have:=Ev.unique r1 (s2 c)
 subst this
 exact⟨_,r2,s2 c,i2 c,by simp,fun _=>⟨c,rfl⟩⟩
theorem J8:∀ (suf pre:List Int),((pre++suf).length:Int)<big->Ev (fun k=>qw.l0 k (pre++suf) (pre++suf) (pre.length:Int)) true:=by
 intro suf
 induction suf with
 |nil=>
  intro pre hb
  exact Ev.step (fun k=>by simp only [qw.l0,qj,if_false]<;>exact rfl) (Ev.val rfl)
 |cons t suf ih=>
  intro pre hb
  refine Ev.step (fun k=>by simp only [qw.l0,nD,nn,if_true,nP (t:=t) (qx hb)]<;>exact rfl) ?_
  rw[nM pre t suf]
  exact ih (pre++[t]) (tN hb)
theorem J9 (L:List Int) (hb:(L.length:Int)<big):Ev (fun k=>qw.f k L L) true:=by
 unfold qw.f
 simp only [if_true]
 exact J8 L [] hb
theorem IU (l:List Int) (h:rU l):∃n E,Ev (fun k=>tT.f k l) (n,E)/\E.length<=60:=by
 obtain⟨s,o1,o2,o3⟩:=Ky l h
 obtain⟨r,r1,r2⟩:=Le s o2 o3 0 (by omega) (by omega)
 refine⟨r.1,r.2.1,?_,by unfold ny at r2;omega⟩
 unfold tT.f
 simp only [o1,Option.bind_some]
 exact Ev.bind r1 (Ev.val rfl)
theorem J_:∀ (suf pre:List (List Int)),((pre++suf).length:Int)<big->(∀x∈suf,(x.length:Int)<big)->Ev (fun k=>qJ.l0 k (pre++suf) (pre++suf) (pre.length:Int)) true:=by
 intro suf
 induction suf with
 |nil=>
  intro pre hb _
  exact Ev.step (fun k=>by simp only [qJ.l0,qj,if_false]<;>exact rfl) (Ev.val rfl)
 |cons t suf ih=>
  intro pre hb hx
  refine Ev.step (fun k=>by simp only [qJ.l0,nD,nn,if_true,BS,nP (t:=t) (qx hb)]<;>exact rfl) (Ev.bind (J9 t (hx t List.mem_cons_self)) ?_)
  simp only [if_true]
  rw[nM pre t suf]
  exact ih (pre++[t]) (tN hb) (fun x h=>hx x (List.mem_cons_of_mem _ h))
theorem Ka (L:List (List Int)) (hb:(L.length:Int)<big) (hx:∀x∈L,(x.length:Int)<big):Ev (fun k=>qJ.f k L L) true:=by
 unfold qJ.f
 simp only [if_true]
 exact J_ L [] hb hx
theorem Lr {rows:List (List Int)×Bool}(h:few rows):Ev (fun k=>qJ.f k rows.1 rows.1) true:=
 Ka rows.1 (by have:=h.1;unfold big;omega) (fun x hx=>by have:=h.2 x hx;unfold big;omega)
theorem E_ (n a:Int) (E:List S59):uo.f n E a=some (decide (0<=a/\a<n)):=by
 unfold uo.f
 by_cases h:0<=a<;>simp[h]
def yz (n:Int) (E:List Tie) (row:List Int):Prop:=(∀v∈row,0<=v/\v<n)/\∀t∈ties row,t∈E
instance(n:Int) (E:List Tie) (row:List Int):Decidable (yz n E row):=by unfold yz;infer_instance
theorem L6 (n:Int) (E:List S59) (hE:(E.length:Int)<big):∀ (suf q:List Int) (a:Int),((q++a::suf).length:Int)<big->
  Ev (fun k=>nC.l0 k (q++a::suf) (q++a::suf) ((q++a::suf).length:Int) ((q.length:Int)+1) n E) (decide ((∀v∈suf,0<=v/\v<n)/\∀t∈ties (a::suf),t∈E)):=by
 intro suf
 induction suf with
 |nil=>
  intro q a hb
  have c:¬ (q.length:Int)+1<((q++[a]).length:Int):=by simp
  refine Ev.step (fun k=>by simp only [nC.l0,if_neg c]<;>exact rfl) (Ev.val ?_)
  simp[ties]
 |cons t suf ih=>
  intro q a hb
  have hl:(q++a::t::suf).length=q.length+(suf.length+2):=by simp
  have hb2:(q.length:Int)+(suf.length+2)<4611686018427387904:=by unfold big at hb;omega
  have c1:(q.length:Int)+1<((q++a::t::suf).length:Int):=by omega
  have c2:0<=(q.length:Int)+1:=by omega
  have c3:(q.length:Int)+1>0:=by omega
  have w1:wrap64 ((q.length:Int)+1 - 1)=(q.length:Int):=by rw[w64 (by omega) (by omega)];omega
  have c4:0<=(q.length:Int):=nn _
  have c5:(q.length:Int)<((q++a::t::suf).length:Int):=by omega
  have r1:rd (q++a::t::suf) ((q.length:Int)+1)=t:=by
   have:=oQ (q++[a]) t suf
   simpa using this
  have r2:rd (q++a::t::suf) (q.length:Int)=a:=oQ q a (t::suf)
  have w2:wrap64 ((q.length:Int)+1+1)=((q++[a]).length:Int)+1:=by rw[w64 (by omega) (by omega)];simp
  refine Ev.step (fun k=>by simp only [nC.l0,if_pos c1,if_pos c2,r1,E_,Option.bind_some]<;>exact rfl) ?_
  by_cases k1:0<=t/\t<n;rotate_left
  ·rw[decide_eq_false k1]
   simp only [Bool.false_eq_true,if_false]
   exact Ev.val (congrArg some (decide_eq_false (fun h=>k1 (h.1 t (by simp)))).symm)
  rw[decide_eq_true k1]
  simp only [if_true,if_pos c3,w1,if_pos c4,if_pos c5,r2]
  refine Ev.bind (xW n a t E hE) ?_
  by_cases k2:kS a t∈E
  ·rw[decide_eq_true k2]
   simp only [if_true,w2]
   have:=ih (q++[a]) t (by simpa using hb)
   have e:(q++[a])++t::suf=q++a::t::suf:=by simp
   rw[e]at this
   refine Ev.eq this ?_
   refine decide_eq_decide.2 ⟨fun h=>⟨fun v hv=>?_,fun s hs=>?_⟩,fun h=>⟨fun v hv=>h.1 v (by simp[hv]),fun s hs=>h.2 s (by simp[ties,hs])⟩⟩
   ·rcases List.mem_cons.1 hv with rfl|hv
    ·exact k1
    exact h.1 v hv
   simp only [ties,List.mem_cons]at hs
   rcases hs with rfl|hs
   ·exact k2
   exact h.2 s hs
  rw[decide_eq_false k2]
  simp only [Bool.false_eq_true,if_false]
  exact Ev.val (congrArg some (decide_eq_false (fun h=>k2 (h.2 _ (by simp[ties])))).symm)
theorem Gp (n:Int) (E:List S59) (row:List Int) (hE:(E.length:Int)<big) (hr:(row.length:Int)<big):Ev (fun k=>nC.f k n E row) (decide (yz n E row)):=by
 unfold nC.f yz
 cases row with
 |nil=>
  have c:¬ (0:Int)<(([]:List Int).length:Int):=by simp
  exact Ev.step (fun k=>by simp only [nC.l0,if_neg c]<;>exact rfl) (Ev.val (by simp[ties]))
 |cons a suf=>
  have c1:(0:Int)<((a::suf).length:Int):=by rw[List.length_cons];omega
  have c3:¬ (0:Int)>0:=by omega
  have r1:rd (a::suf) 0=a:=rfl
  have w2:wrap64 (0+1)=1:=by rw[w64 (by omega) (by omega)];rfl
  refine Ev.step (fun k=>by simp only [nC.l0,if_pos c1,Int.le_refl,if_true,r1,E_,Option.bind_some]<;>exact rfl) ?_
  by_cases k1:0<=a/\a<n
  ·rw[decide_eq_true k1]
   simp only [if_true,if_neg c3,w2]
   have:=L6 n E hE suf [] a (by simpa using hr)
   simp only [List.nil_append,List.length_nil]at this
   refine Ev.eq this ?_
   refine decide_eq_decide.2 ⟨fun h=>⟨fun v hv=>?_,h.2⟩,fun h=>⟨fun v hv=>h.1 v (by simp[hv]),h.2⟩⟩
   rcases List.mem_cons.1 hv with rfl|hv
   ·exact k1
   exact h.1 v hv
  rw[decide_eq_false k1]
  simp only [Bool.false_eq_true,if_false]
  exact Ev.val (congrArg some (decide_eq_false (fun h=>k1 (h.1 a (by simp)))).symm)
def fresh:List Int->List Int->Prop
 |_,[]=>True
 |vs,x::r=>x∉vs/\fresh (vs++[x]) r
instance Jr:(vs l:List Int)->Decidable (fresh vs l)
 |_,[]=>isTrue trivial
 |vs,x::r=>by
  have:=Jr (vs++[x]) r
  unfold fresh
  infer_instance
theorem Js (l:List Int):∀vs:List Int,fresh vs l↔l.Nodup/\∀x∈l,x∉vs:=by
 induction l with
 |nil=>intro vs;simp[fresh]
 |cons x r ih=>
  intro vs
  unfold fresh
  rw[ih,List.nodup_cons]
  constructor
  ·rintro⟨h1,h2,h3⟩
   refine⟨⟨fun hx=>?_,h2⟩,fun y hy=>?_⟩
   ·exact h3 x hx (by simp)
   rcases List.mem_cons.1 hy with rfl|hy
   ·exact h1
   exact fun hv=>h3 y hy (by simp[hv])
  rintro⟨⟨h1,h2⟩,h3⟩
  refine⟨h3 x (by simp),h2,fun y hy hv=>?_⟩
  rcases List.mem_append.1 hv with hv|hv
  ·exact h3 y (by simp[hy]) hv
  rw[List.mem_singleton]at hv
  subst hv
  exact h1 hy
theorem IL:∀ (suf p:List Int),((p++suf).length:Int)<big->
  Ev (fun k=>oI.l0 k (p++suf) (p++suf) ((p++suf).length:Int) (p.length:Int)) (decide (fresh p suf)):=by
 intro suf
 induction suf with
 |nil=>
  intro p hb
  refine Ev.step (fun k=>by simp only [oI.l0,qj,if_false]<;>exact rfl) ?_
  exact Ev.val (congrArg some (decide_eq_true (by simp[fresh])).symm)
 |cons t suf ih=>
  intro p hb
  have hp:(p.length:Int)<big:=qx hb
  have hle:(p.length:Int)<=((p++t::suf).length:Int):=Int.le_of_lt (nD _ _ _)
  have htk:(p++t::suf).take ((p.length:Int)).toNat=p:=by simp
  refine Ev.step (fun k=>by simp only [oI.l0,nD,nn,if_true,oQ,nP (t:=t) hp,hle,htk]<;>exact rfl) ?_
  refine Ev.bind (Ey p t hp) ?_
  by_cases c:t∈p
  ·simp only [c,decide_true,if_true]
   exact Ev.val (congrArg some (decide_eq_false (by simp[fresh,c])).symm)
  simp only [c,decide_false,Bool.false_eq_true,if_false]
  rw[nM p t suf]
  refine Ev.eq (ih (p++[t]) (tN hb)) ?_
  rw[decide_eq_decide]
  simp[fresh,c]
theorem EB (l:List Int) (hb:(l.length:Int)<big):Ev (fun k=>oI.f k l) (decide l.Nodup):=by
 unfold oI.f
 refine Ev.eq (IL l [] hb) ?_
 rw[decide_eq_decide,Js]
 simp
theorem Ga (a b:Int):∀l:List Tie,qU l a b=decide ((⟨a,b⟩:Tie)∈l)
  |[]=>by simp[qU]
  |t::r=>by
    rw[qU,Ga a b r]
    obtain⟨x,y⟩:=t
    by_cases h:a=x<;>by_cases k:b=y<;>simp[h,k]
def kn (n:Int) (K:List Bool) (ks:List Int):Prop:=(K.length:Int)=n/\∀v,0<=v->v<n->l8 false K v=decide (v∈ks)
theorem JM (K:List Bool) (v x:Int) (h0:0<=v) (h1:v<(K.length:Int)) (x0:0<=x):l8 false (K.set v.toNat true) x=if x=v then true else l8 false K x:=by
  unfold l8
  simp only [List.getD_eq_getElem?_getD,List.getElem?_set]
  by_cases c:x=v
  · subst c
    have:x.toNat<K.length:=by omega
    simp[this]
  have c':¬v.toNat=x.toNat:=fun e=>c (by omega)
  simp[c,c']
theorem JN {n:Int}{K:List Bool}{ks:List Int}{v:Int}(h:kn n K ks) (h0:0<=v) (h1:v<n):kn n (K.set v.toNat true) (tu ks v):=by
  refine⟨by rw[List.length_set];exact h.1,fun x x0 x1=>?_⟩
  rw[JM K v x h0 (by rw[h.1];exact h1) x0,h.2 x x0 x1]
  by_cases c:x=v
  · rw[if_pos c];exact(decide_eq_true ((zM ks v x).2 (Or.inr c))).symm
  rw[if_neg c]
  exact decide_eq_decide.2 ⟨fun y=>(zM ks v x).2 (Or.inl y),fun y=>((zM ks v x).1 y).resolve_right c⟩
theorem JL {n:Int}{K:List Bool}{ks:List Int}(h:kn n K ks) (hn:ks.Nodup) (hr:∀v∈ks,0<=v/\v<n):false∉K↔(ks.length:Int)=n:=by
  have hall:false∉K↔∀v:Int,0<=v->v<n->v∈ks:=by
    constructor
    · intro hf v h0 h1
      have e:=h.2 v h0 h1
      by_cases c:v∈ks
      · exact c
      rw[decide_eq_false c]at e
      exfalso
      apply hf
      have hl:v.toNat<K.length:=by have:=h.1;omega
      unfold l8 at e
      rw[List.getD_eq_getElem?_getD,List.getElem?_eq_getElem hl]at e
      simp at e
      rw[←e]
      exact List.getElem_mem hl
    intro hv hf
    obtain⟨i,hi,e⟩:=List.getElem_of_mem hf
    have e2:=h.2 (i:Int) (nn i) (by rw[←h.1];omega)
    unfold l8 at e2
    rw[List.getD_eq_getElem?_getD,Int.toNat_natCast,List.getElem?_eq_getElem hi,e]at e2
    simp at e2
    exact e2 (hv i (nn i) (by rw[←h.1];omega))
  rw[hall]
  have hn0:0<=n:=by rw[←h.1];exact nn _
  have rl:((List.range n.toNat).map (fun i:Nat=>(i:Int))).length=n.toNat:=by simp
  have rn:((List.range n.toNat).map (fun i:Nat=>(i:Int))).Nodup:=by
    rw[List.Nodup,List.pairwise_map]
    exact List.nodup_range.imp (fun hne e=>hne (by exact_mod_cast e))
  constructor
  · intro hv
    have:=BL hn rn (fun x=>⟨fun hx=>by
      have:=hr x hx
      exact List.mem_map.2 ⟨x.toNat,List.mem_range.2 (by omega),by omega⟩,fun hx=>by
      obtain⟨i,hi,rfl⟩:=List.mem_map.1 hx
      have:=List.mem_range.1 hi
      exact hv i (nn i) (by omega)⟩)
    rw[rl]at this
    omega
  intro hlen v h0 h1
  by_cases c:v∈ks
  · exact c
  exfalso
  have:(v::ks).length<=((List.range n.toNat).map (fun i:Nat=>(i:Int))).length:=tQ (List.nodup_cons.2 ⟨c,hn⟩) (fun x hx=>by
    rcases List.mem_cons.1 hx with rfl|hx
    · exact List.mem_map.2 ⟨x.toNat,List.mem_range.2 (by omega),by omega⟩
    have:=hr x hx
    exact List.mem_map.2 ⟨x.toNat,List.mem_range.2 (by omega),by omega⟩)
  rw[rl]at this
  simp at this
  omega
theorem JG (a:Bool):∀ (suf p:List Bool),((p++suf).length:Int)<big->a∉p->
    ∃r,Ev (fun k=>o6.l0 k (p++suf) a ((p++suf).length:Int) (p.length:Int)) r/\(r>=0↔a∈p++suf):=by
  intro suf
  induction suf with
  |nil=>
    intro p hb hp
    refine⟨-1,Ev.step (fun k=>by simp only [o6.l0,qj,if_false]<;>exact rfl) (Ev.val rfl),?_⟩
    simp[hp]
  |cons t suf ih=>
    intro p hb hp
    have hl:(p.length:Int)<big:=qx hb
    by_cases c:a=t
    · refine⟨(p.length:Int),Ev.step (fun k=>by simp only [o6.l0,nD,nn,if_true,FR,if_pos (show(a==t)=true by simp[c])]<;>exact rfl) (Ev.val rfl),?_⟩
      simp[c]
    obtain⟨r,h1,h2⟩:=ih (p++[t]) (by rw[←nM];exact hb) (by simp[hp,c])
    rw[←nM]at h1 h2
    exact⟨r,Ev.step (fun k=>by simp only [o6.l0,nD,nn,if_true,FR,if_neg (show¬ (a==t)=true by simp[c]),nP (t:=t) hl]<;>exact rfl) h1,h2⟩
theorem IB (l:List Bool) (a:Bool) (hb:(l.length:Int)<big):Ev (fun k=>sI.f k l a) (decide (a∈l)):=by
  unfold sI.f o6.f
  obtain⟨r,h1,h2⟩:=JG a l [] hb (by simp)
  refine Ev.bind h1 (Ev.val ?_)
  rw[decide_eq_decide.2 h2];rfl
section
variable {n:Int}{E T:List S59}{D:List Int}{ears:List (List Int)}{len at_:Int}{row ks:List Int}{P:Prop}
theorem Ko (U:List S59) (hr:∀v∈row,0<=v/\v<n) (hb:(row.length:Int)<big)
    (H:∀K,kn n K (nL ks row)->∃b,Ev (fun k=>kF.l0 k D K ears len (wrap64 (at_+1)) n E U 0) b/\(b=true↔P)):∀ (suf p:List Int) (K:List Bool),row=p++suf->kn n K (nL ks p)->
    ∃b,Ev (fun k=>kF.l3 k D K ears len at_ row (row.length:Int) (p.length:Int) n E U 0) b/\(b=true↔P):=by
  intro suf
  induction suf with
  |nil=>
    intro p K e hK
    rw[List.append_nil]at e
    subst e
    obtain⟨b,e1,h1⟩:=H K hK
    have c:¬ (row.length:Int)<(row.length:Int):=by omega
    exact⟨b,Ev.step (fun k=>by simp only [kF.l3,if_neg c]<;>exact rfl) e1,h1⟩
  |cons v suf ih=>
    intro p K e hK
    have c1:(p.length:Int)<(row.length:Int):=by rw[e];exact nD p v suf
    have rv:rd row (p.length:Int)=v:=by rw[e];exact oQ p v suf
    have hv:=hr v (by rw[e];simp)
    have hs:wrap64 ((p.length:Int)+1)=((p++[v]).length:Int):=nP (by omega)
    have c2:v<(K.length:Int):=by rw[hK.1];exact hv.2
    obtain⟨b,e1,h1⟩:=ih (p++[v]) (K.set v.toNat true) (by rw[e];simp) (by rw[CQ];exact JN hK hv.1 hv.2)
    exact⟨b,Ev.step (fun k=>by simp only [kF.l3,nn,if_true,if_pos c1,rv,if_pos hv.1,if_pos c2,hs]<;>exact rfl) e1,h1⟩
theorem LW (K:List Bool) (hnd:(ties row).Nodup) (hb:(row.length:Int)<big)
    (H:∃b,Ev (fun k=>kF.l3 k D K ears len at_ row (row.length:Int) 0 n E (T++ties row) 0) b/\(b=true↔P)):∀ (suf p:List Int) (u:Int),row=(p++[u])++suf->
    ∃b,Ev (fun k=>kF.l2 k D K row ((p++[u]).length:Int) ears len at_ n E (T++ties (p++[u])) 0) b/\(b=true↔(∀t∈ties (u::suf),t∉T)/\P):=by
  intro suf
  induction suf with
  |nil=>
    intro p u e
    rw[List.append_nil]at e
    subst e
    obtain⟨b,e1,h1⟩:=H
    have c:¬ ((p++[u]).length:Int)<((p++[u]).length:Int):=by omega
    exact⟨b,Ev.step (fun k=>by simp only [kF.l2,if_neg c]<;>exact rfl) e1,by simp[ties,h1]⟩
  |cons v suf ih=>
    intro p u e
    have hpb:((p++[u]).length:Int)<big:=by rw[e]at hb;exact qx hb
    have c1:((p++[u]).length:Int)<(row.length:Int):=by rw[e];exact nD (p++[u]) v suf
    have c2:0<=wrap64 (((p++[u]).length:Int) - 1):=by rw[tO p u hpb];exact nn _
    have c3:wrap64 (((p++[u]).length:Int) - 1)<(row.length:Int):=by rw[tO p u hpb];simp at c1;omega
    have rv:rd row ((p++[u]).length:Int)=v:=by rw[e];exact oQ (p++[u]) v suf
    have ru:rd row (wrap64 (((p++[u]).length:Int) - 1))=u:=by rw[tO p u hpb,e,xZ];exact oQ p u (v::suf)
    have hs:wrap64 (((p++[u]).length:Int)+1)=(((p++[u])++[v]).length:Int):=nP hpb
    have er:ties row=ties (p++[u])++kS u v::ties (v::suf):=by
      rw[e,show(p++[u])++v::suf=p++u::v::suf by simp];exact zY p u v suf
    have hni:kS u v∉ties (p++[u]):=fun h=>by
      rw[er,List.nodup_append]at hnd
      exact hnd.2.2 _ h _ (by simp) rfl
    have et:(T++ties (p++[u]))++[(⟨(kS u v).f0,(kS u v).f1⟩:S59)]=T++ties ((p++[u])++[v]):=by rw[List.append_assoc,←Cg]
    have ed:decide ((⟨(kS u v).f0,(kS u v).f1⟩:Tie)∈T++ties (p++[u]))=decide (kS u v∈T++ties (p++[u])):=rfl
    have base:∀k,kF.l2 (k+1) D K row ((p++[u]).length:Int) ears len at_ n E (T++ties (p++[u])) 0=if decide (kS u v∈T++ties (p++[u]))=true then some false else kF.l2 k D K row (((p++[u])++[v]).length:Int) ears len at_ n E (T++ties ((p++[u])++[v])) 0:=fun k=>by
      simp only [kF.l2,nn,if_true,if_pos c1,if_pos c2,if_pos c3,ru,rv,hs,zX,Option.bind_some,Ga,et,ed]
    by_cases m:kS u v∈T
    · refine⟨false,Ev.step base (by rw[decide_eq_true (List.mem_append_left _ m)];exact Ev.val rfl),?_⟩
      simp only [Bool.false_eq_true,false_iff]
      exact fun h=>h.1 (kS u v) (by simp[ties]) m
    obtain⟨b,e1,h1⟩:=ih (p++[u]) v (by rw[e];simp)
    refine⟨b,Ev.step base (by rw[decide_eq_false (fun h=>(List.mem_append.1 h).elim m hni)];simpa using e1),?_⟩
    rw[h1]
    simp only [ties,List.mem_cons,forall_eq_or_imp]
    exact⟨fun h=>⟨⟨m,h.1⟩,h.2⟩,fun h=>⟨h.1.2,h.2⟩⟩
theorem Ku (K:List Bool) (U:List S59) (inner:List Int) (hK:kn n K ks) (hi:∀v∈inner,0<=v/\v<n) (hb:(inner.length:Int)<big)
    (H:(∀v∈inner,v∉ks)->∃b,Ev (fun k=>kF.l2 k D K row 1 ears len at_ n E U 0) b/\(b=true↔P)):∀ (suf p:List Int),inner=p++suf->(∀v∈p,v∉ks)->
    ∃b,Ev (fun k=>kF.l1 k D K row ears len at_ inner (inner.length:Int) (p.length:Int) n E U 0) b/\(b=true↔(∀v∈suf,v∉ks)/\P):=by
  intro suf
  induction suf with
  |nil=>
    intro p e hp
    rw[List.append_nil]at e
    subst e
    obtain⟨b,e1,h1⟩:=H hp
    have c:¬ (inner.length:Int)<(inner.length:Int):=by omega
    exact⟨b,Ev.step (fun k=>by simp only [kF.l1,if_neg c]<;>exact rfl) e1,by simp[h1]⟩
  |cons v suf ih=>
    intro p e hp
    have c1:(p.length:Int)<(inner.length:Int):=by rw[e];exact nD p v suf
    have rv:rd inner (p.length:Int)=v:=by rw[e];exact oQ p v suf
    have hv:=hi v (by rw[e];simp)
    have hs:wrap64 ((p.length:Int)+1)=((p++[v]).length:Int):=nP (by omega)
    have c2:v<(K.length:Int):=by rw[hK.1];exact hv.2
    have base:∀k,kF.l1 (k+1) D K row ears len at_ inner (inner.length:Int) (p.length:Int) n E U 0=if decide (v∈ks)=true then some false else kF.l1 k D K row ears len at_ inner (inner.length:Int) ((p++[v]).length:Int) n E U 0:=fun k=>by
      simp only [kF.l1,nn,if_true,if_pos c1,rv,if_pos hv.1,if_pos c2,hs,hK.2 v hv.1 hv.2]
    by_cases m:v∈ks
    · refine⟨false,Ev.step base (by rw[decide_eq_true m];exact Ev.val rfl),?_⟩
      simp only [Bool.false_eq_true,false_iff]
      exact fun h=>h.1 v (by simp) m
    obtain⟨b,e1,h1⟩:=ih (p++[v]) (by rw[e];simp) (fun x hx=>(List.mem_append.1 hx).elim (hp x) (fun h=>by rw[List.mem_singleton]at h;subst h;exact m))
    refine⟨b,Ev.step base (by rw[decide_eq_false m];simpa using e1),?_⟩
    rw[h1]
    simp only [List.mem_cons,forall_eq_or_imp]
    exact⟨fun h=>⟨⟨m,h.1⟩,h.2⟩,fun h=>⟨h.1.2,h.2⟩⟩
end
theorem KP (a:Int) (m:List Int) (z:Int):(a::(m++[z])).drop 1=m++[z]/\((a::(m++[z])).take ((a::(m++[z])).length - 1)).drop 1=m:=by
  refine⟨rfl,?_⟩
  simp
theorem Ja (n:Int) (E:List S59) (hok:ok n E) (D:List Int):∀ (se pe:List (List Int)) (T:List S59) (ks:List Int) (K:List Bool),((pe++se).length:Int)<big->T.length+tot se<4000000->kn n K ks->ks.Nodup->(∀v∈ks,0<=v/\v<n)->(pe=[]->ks=[])->
    ∃b,Ev (fun k=>kF.l0 k D K (pe++se) ((pe++se).length:Int) (pe.length:Int) n E T 0) b/\(b=true↔rY n E ((pe.length:Int)==0) T ks se):=by
  have hE:(E.length:Int)<big:=by have:=oG hok;unfold big;omega
  intro se
  induction se with
  |nil=>
    intro pe T ks K hb hT hK hn hr h0
    by_cases c:(T.length:Int)=(E.length:Int)
    · refine⟨!decide (false∈K),Ev.step (fun k=>by simp only [kF.l0,qj,if_false,if_pos c]<;>exact rfl) (Ev.bind (IB K false (by have:=hK.1;have:=hok.2.1;unfold big;omega)) (Ev.val rfl)),?_⟩
      simp only [rY,Bool.not_eq_true',decide_eq_false_iff_not]
      rw[JL hK hn hr]
      exact⟨fun h=>⟨by omega,h⟩,fun h=>h.2⟩
    refine⟨false,Ev.step (fun k=>by simp only [kF.l0,qj,if_false,if_neg c]<;>exact rfl) (Ev.val rfl),?_⟩
    simp only [rY,Bool.false_eq_true,false_iff]
    exact fun h=>c (by omega)
  |cons row se ih=>
    intro pe T ks K hb hT hK hn hr h0
    simp only [tot]at hT
    have hrb:(row.length:Int)<big:=by unfold big;omega
    have hpl:(pe.length:Int)<big:=qx hb
    have fst:(((pe.length:Int)==0)=true)↔pe=[]:=by rw[beq_iff_eq];exact⟨fun h=>List.eq_nil_of_length_eq_zero (by omega),fun h=>by rw[h];rfl⟩
    have J2f:Ev (fun k=>kF.j2 k D K (pe.length:Int) row (pe++row::se) ((pe++row::se).length:Int) (pe.length:Int) true n E T 0) false:=Ev.step (fun k=>by simp only [kF.j2,if_true]<;>exact rfl) (Ev.val rfl)
    have bad:¬EF n E T ks ((pe.length:Int)==0) row->(false=true↔rY n E ((pe.length:Int)==0) T ks (row::se)):=fun h=>by
      simp only [rY,Bool.false_eq_true,false_iff];exact fun x=>h x.1
    by_cases cl:(row.length:Int)<2
    · exact⟨false,Ev.step (fun k=>by simp only [kF.l0,nD,nn,if_true,BS,if_pos cl]<;>exact rfl) J2f,bad (fun h=>by have:=h.len;omega)⟩
    have hl:2<=row.length:=by omega
    have base:∀k,kF.l0 (k+1) D K (pe++row::se) ((pe++row::se).length:Int) (pe.length:Int) n E T 0=(nC.f k n E row).bind fun t=>kF.j2 k D K (pe.length:Int) row (pe++row::se) ((pe++row::se).length:Int) (pe.length:Int) (!t) n E T 0:=fun k=>by
      simp only [kF.l0,nD,nn,if_true,BS,if_neg cl]
    by_cases hw:yz n E row;rotate_left
    · have W:=Ev.eq (Gp n E row hE hrb) (decide_eq_false hw)
      exact⟨false,Ev.step base (Ev.bind W J2f),bad (fun h=>hw ⟨h.ni,h.tied⟩)⟩
    have W:=Ev.eq (Gp n E row hE hrb) (decide_eq_true hw)
    obtain⟨a,m,z,rfl⟩:=F6 hl
    have r0:rd (a::(m++[z])) 0=a:=rfl
    obtain⟨r1,r2,r3⟩:=MQ (row:=a::(m++[z])) (by simp) hrb
    rw[BG]at r1
    have ha:=hw.1 a (by simp)
    have hz:=hw.1 z (by simp)
    have hrl:0<((a::(m++[z])).length:Int):=by simp;omega
    have hK1:∀v:Int,v<n->v<(K.length:Int):=fun v h=>by rw[hK.1];exact h
    have hwl:wrap64 (((a::(m++[z])).length:Int) - 1)=(((a::(m++[z])).length - 1:Nat):Int):=by
      unfold big at hrb
      rw[w64 (by omega) (by omega)];omega
    -- behind the tests of the ends
    have J4:∀inner:List Int,(∀v∈inner,v∈a::(m++[z]))->(inner.length:Int)<big->(inner.Nodup->(∀v∈inner,v∉ks)->(ties (a::(m++[z]))).Nodup)->
        ∃b,Ev (fun k=>kF.j4 k D K (a::(m++[z])) inner (pe++(a::(m++[z]))::se) ((pe++(a::(m++[z]))::se).length:Int) (pe.length:Int) n E T 0) b/\
          (b=true↔inner.Nodup/\(∀v∈inner,v∉ks)/\(∀t∈ties (a::(m++[z])),t∉T)/\rY n E false (T++ties (a::(m++[z]))) (nL ks (a::(m++[z]))) se):=by
      intro inner hin hib hnd
      have base4:∀k,kF.j4 (k+1) D K (a::(m++[z])) inner (pe++(a::(m++[z]))::se) ((pe++(a::(m++[z]))::se).length:Int) (pe.length:Int) n E T 0=(oI.f k inner).bind fun t=>if t=true then kF.l1 k D K (a::(m++[z])) (pe++(a::(m++[z]))::se) ((pe++(a::(m++[z]))::se).length:Int) (pe.length:Int) inner (inner.length:Int) 0 n E T 0 else some false:=fun k=>by
        simp only [kF.j4]
      by_cases d:inner.Nodup
      · have H3:∀K',kn n K' (nL ks (a::(m++[z])))->∃b,Ev (fun k=>kF.l0 k D K' (pe++(a::(m++[z]))::se) ((pe++(a::(m++[z]))::se).length:Int) (wrap64 ((pe.length:Int)+1)) n E (T++ties (a::(m++[z]))) 0) b/\(b=true↔rY n E false (T++ties (a::(m++[z]))) (nL ks (a::(m++[z]))) se):=by
          intro K' hK'
          obtain⟨b,e1,h1⟩:=ih (pe++[a::(m++[z])]) (T++ties (a::(m++[z]))) (nL ks (a::(m++[z]))) K' (by simpa using hb) (by rw[List.length_append,xk];omega) hK' (x_ _ hn) (fun v hv=>((r9 _ _ _).1 hv).elim (hr v) (hw.1 v)) (fun e=>by simp at e)
          have f:((((pe++[a::(m++[z])]).length:Nat):Int)==0)=false:=by rw[beq_eq_false_iff_ne];simp;omega
          rw[f]at h1
          rw[show(pe++[a::(m++[z])])++se=pe++(a::(m++[z]))::se by simp]at e1
          rw[nP (t:=a::(m++[z])) hpl]
          exact⟨b,e1,h1⟩
        obtain⟨b,e1,h1⟩:=Ku (D:=D) (E:=E) (row:=a::(m++[z])) (ears:=pe++(a::(m++[z]))::se) (len:=((pe++(a::(m++[z]))::se).length:Int)) (at_:=(pe.length:Int)) K T inner hK (fun v hv=>hw.1 v (hin v hv)) hib (P:=(∀t∈ties (a::(m++[z])),t∉T)/\rY n E false (T++ties (a::(m++[z]))) (nL ks (a::(m++[z]))) se) (fun hnew=>by
            have h3:=Ko (D:=D) (E:=E) (len:=((pe++(a::(m++[z]))::se).length:Int)) (T++ties (a::(m++[z]))) hw.1 hrb H3 (a::(m++[z])) [] K rfl hK
            have h2:=LW (T:=T) (P:=rY n E false (T++ties (a::(m++[z]))) (nL ks (a::(m++[z]))) se) K (hnd d hnew) hrb h3 (m++[z]) [] a rfl
            simpa [ties] using h2) inner [] rfl (by simp)
        refine⟨b,Ev.step base4 (Ev.bind (Ev.eq (EB inner hib) (decide_eq_true d)) (by simp only [if_true];exact e1)),?_⟩
        rw[h1]
        exact⟨fun h=>⟨d,h⟩,fun h=>h.2⟩
      refine⟨false,Ev.step base4 (Ev.bind (Ev.eq (EB inner hib) (decide_eq_false d)) (by simp only [Bool.false_eq_true,if_false];exact Ev.val rfl)),?_⟩
      simp only [Bool.false_eq_true,false_iff]
      exact fun h=>d h.1
    have c1:1<=wrap64 (((a::(m++[z])).length:Int) - 1):=by rw[hwl];simp;omega
    have c2:wrap64 (((a::(m++[z])).length:Int) - 1)<=((a::(m++[z])).length:Int):=by rw[hwl];omega
    have c3:1<=((a::(m++[z])).length:Int):=by simp;omega
    have hmb:(m.length:Int)<big/\((m++[z]).length:Int)<big:=by simp at hrb⊢;omega
    have J3t:Ev (fun k=>kF.j3 k D K (pe.length:Int) (a::(m++[z])) a z (pe++(a::(m++[z]))::se) ((pe++(a::(m++[z]))::se).length:Int) (pe.length:Int) true n E T 0) false:=Ev.step (fun k=>by simp only [kF.j3,if_true]<;>exact rfl) (Ev.val rfl)
    have base2:∀k,kF.j2 (k+1) D K (pe.length:Int) (a::(m++[z])) (pe++(a::(m++[z]))::se) ((pe++(a::(m++[z]))::se).length:Int) (pe.length:Int) false n E T 0=
        (if a=z then(if((a::(m++[z])).length:Int)<4 then kF.j3 k D K (pe.length:Int) (a::(m++[z])) a z (pe++(a::(m++[z]))::se) ((pe++(a::(m++[z]))::se).length:Int) (pe.length:Int) true n E T 0 else(if(pe.length:Int)=0 then kF.j3 k D K (pe.length:Int) (a::(m++[z])) a z (pe++(a::(m++[z]))::se) ((pe++(a::(m++[z]))::se).length:Int) (pe.length:Int) (a !=z) n E T 0 else kF.j3 k D K (pe.length:Int) (a::(m++[z])) a z (pe++(a::(m++[z]))::se) ((pe++(a::(m++[z]))::se).length:Int) (pe.length:Int) false n E T 0))
         else(if(pe.length:Int)=0 then kF.j3 k D K (pe.length:Int) (a::(m++[z])) a z (pe++(a::(m++[z]))::se) ((pe++(a::(m++[z]))::se).length:Int) (pe.length:Int) (a !=z) n E T 0 else kF.j3 k D K (pe.length:Int) (a::(m++[z])) a z (pe++(a::(m++[z]))::se) ((pe++(a::(m++[z]))::se).length:Int) (pe.length:Int) false n E T 0)):=fun k=>by
      simp only [kF.j2,Bool.false_eq_true,if_false,if_pos hrl,if_pos r2,if_pos r3,r0,r1]
    have fin:∀b,Ev (fun k=>kF.j2 k D K (pe.length:Int) (a::(m++[z])) (pe++(a::(m++[z]))::se) ((pe++(a::(m++[z]))::se).length:Int) (pe.length:Int) false n E T 0) b->Ev (fun k=>kF.l0 k D K (pe++(a::(m++[z]))::se) ((pe++(a::(m++[z]))::se).length:Int) (pe.length:Int) n E T 0) b:=fun b h=>Ev.step base (Ev.bind W h)
    have lp:=BG a m z
    have hp:=EY a m z
    have mp:=Fx a m z
    by_cases l4:a=z/\((a::(m++[z])).length:Int)<4
    · refine⟨false,fin _ (Ev.step base2 (by simp only [if_pos l4.1,if_pos l4.2];exact J3t)),bad (fun h=>?_)⟩
      have:=h.long (by rw[hp,lp];exact l4.1)
      omega
    have hlong:uk (a::(m++[z]))=nk (a::(m++[z]))->4<=(a::(m++[z])).length:=by
      rw[hp,lp];intro e
      have:¬ ((a::(m++[z])).length:Int)<4:=fun h=>l4 ⟨e,h⟩
      omega
    by_cases cp:pe=[]
    · have cp0:(pe.length:Int)=0:=by rw[cp];rfl
      have ek:=h0 cp
      by_cases az:a=z;rotate_left
      · have ne:(a !=z)=true:=by simp[az]
        refine⟨false,fin _ (Ev.step base2 (by simp only [if_neg az,if_pos cp0,ne];exact J3t)),bad (fun h=>?_)⟩
        have:=h.ring (fst.2 cp)
        rw[hp,lp]at this
        exact az this
      have l4':¬ ((a::(m++[z])).length:Int)<4:=fun h=>l4 ⟨az,h⟩
      have ne:(a !=z)=false:=by simp[az]
      have base3:∀k,kF.j3 (k+1) D K (pe.length:Int) (a::(m++[z])) a z (pe++(a::(m++[z]))::se) ((pe++(a::(m++[z]))::se).length:Int) (pe.length:Int) false n E T 0=kF.j4 k D K (a::(m++[z])) (m++[z]) (pe++(a::(m++[z]))::se) ((pe++(a::(m++[z]))::se).length:Int) (pe.length:Int) n E T 0:=fun k=>by
        simp only [kF.j3,Bool.false_eq_true,if_false,if_pos c1,if_pos c2,if_pos c3,if_pos cp0,List.drop_succ_cons,List.drop_zero]
      obtain⟨b,e1,h1⟩:=J4 (m++[z]) (fun v hv=>List.mem_cons_of_mem _ hv) hmb.2 (fun d _=>by
        rw[List.nodup_append]at d
        have hzm:z∉m:=fun h=>d.2.2 z h z (by simp) rfl
        exact EI (n:=n) (E:=E) (taken:=T) (ks:=ks) (first:=true) hl hlong (by rw[mp];exact d.1) (by rw[hp,mp,az];exact hzm) (by rw[lp,mp];exact hzm))
      refine⟨b,fin _ (Ev.step base2 (by simp only [if_pos az,if_neg l4',if_pos cp0,ne];exact Ev.step base3 e1)),?_⟩
      rw[h1,fst.2 cp]
      simp only [rY]
      constructor
      · rintro⟨d,hnew,ht,he⟩
        rw[List.nodup_append]at d
        have hzm:z∉m:=fun h=>d.2.2 z h z (by simp) rfl
        exact⟨⟨hl,hw.1,hw.2,fun _=>by rw[hp,lp];exact az,fun h=>Bool.noConfusion h,hlong,by rw[mp];exact d.1,by rw[mp,hp];exact fun v hv=>⟨hnew v (List.mem_append_left _ hv),fun e=>hzm (by rw[←az,←e];exact hv)⟩,ht⟩,he⟩
      rintro⟨h,he⟩
      refine⟨?_,fun v _=>by rw[ek];simp,h.new,he⟩
      have hm:=h.mid
      have hap:=h.apart
      rw[mp]at hm
      rw[mp,hp]at hap
      rw[List.nodup_append]
      exact⟨hm,by simp,fun x hx y hy e=>by rw[List.mem_singleton]at hy;subst hy;subst e;exact(hap x hx).2 az.symm⟩
    have cp0:¬ (pe.length:Int)=0:=fun h=>cp (List.eq_nil_of_length_eq_zero (by omega))
    have ff:((pe.length:Int)==0)=false:=Bool.eq_false_iff.2 (fun h=>cp (fst.1 h))
    have ca:a<(K.length:Int):=hK1 a ha.2
    have cz:z<(K.length:Int):=hK1 z hz.2
    have tk:((a::(m++[z])).take (wrap64 (((a::(m++[z])).length:Int) - 1)).toNat).drop 1=m:=by rw[hwl,Int.toNat_natCast];exact(KP a m z).2
    have base3:∀k,kF.j3 (k+1) D K (pe.length:Int) (a::(m++[z])) a z (pe++(a::(m++[z]))::se) ((pe++(a::(m++[z]))::se).length:Int) (pe.length:Int) false n E T 0=if decide (a∈ks)=true then(if decide (z∈ks)=true then kF.j4 k D K (a::(m++[z])) m (pe++(a::(m++[z]))::se) ((pe++(a::(m++[z]))::se).length:Int) (pe.length:Int) n E T 0 else some false) else some false:=fun k=>by
      simp only [kF.j3,Bool.false_eq_true,if_false,if_pos c1,if_pos c2,if_neg cp0,if_pos ha.1,if_pos hz.1,if_pos ca,if_pos cz,tk,hK.2 a ha.1 ha.2,hK.2 z hz.1 hz.2]
    have base2':∀b,Ev (fun k=>kF.j3 k D K (pe.length:Int) (a::(m++[z])) a z (pe++(a::(m++[z]))::se) ((pe++(a::(m++[z]))::se).length:Int) (pe.length:Int) false n E T 0) b->Ev (fun k=>kF.j2 k D K (pe.length:Int) (a::(m++[z])) (pe++(a::(m++[z]))::se) ((pe++(a::(m++[z]))::se).length:Int) (pe.length:Int) false n E T 0) b:=fun b h=>by
      refine Ev.step base2 ?_
      by_cases az:a=z
      · simp only [if_pos az,if_neg (fun h=>l4 ⟨az,h⟩),if_neg cp0];exact h
      simp only [if_neg az,if_neg cp0];exact h
    by_cases ka:a∈ks
    · by_cases kz:z∈ks
      · obtain⟨b,e1,h1⟩:=J4 m (fun v hv=>List.mem_cons_of_mem _ (List.mem_append_left _ hv)) hmb.1 (fun d hnew=>EI (n:=n) (E:=E) (taken:=T) (ks:=ks) (first:=false) hl hlong (by rw[mp];exact d) (by rw[hp,mp];exact fun h=>hnew a h ka) (by rw[lp,mp];exact fun h=>hnew z h kz))
        refine⟨b,fin _ (base2' _ (Ev.step base3 (by simp only [decide_eq_true ka,decide_eq_true kz,if_true];exact e1))),?_⟩
        rw[h1,ff]
        simp only [rY]
        constructor
        · rintro⟨d,hnew,ht,he⟩
          exact⟨⟨hl,hw.1,hw.2,fun h=>Bool.noConfusion h,fun _=>by rw[hp,lp];exact⟨ka,kz⟩,hlong,by rw[mp];exact d,by rw[mp,hp];exact fun v hv=>⟨hnew v hv,fun e=>hnew v hv (e▸ka)⟩,ht⟩,he⟩
        rintro⟨h,he⟩
        have hm:=h.mid
        have hap:=h.apart
        rw[mp]at hm hap
        exact⟨hm,fun v hv=>(hap v hv).1,h.new,he⟩
      refine⟨false,fin _ (base2' _ (Ev.step base3 (by simp only [decide_eq_true ka,decide_eq_false kz,if_true,Bool.false_eq_true,if_false];exact Ev.val rfl))),bad (fun h=>?_)⟩
      have:=(h.ends ff).2
      rw[lp]at this
      exact kz this
    refine⟨false,fin _ (base2' _ (Ev.step base3 (by simp only [decide_eq_false ka,Bool.false_eq_true,if_false];exact Ev.val rfl))),bad (fun h=>?_)⟩
    have:=(h.ends ff).1
    rw[hp]at this
    exact ka this
theorem JE (n:Int) (E:List S59) (ears:List (List Int)) (hE:(E.length:Int)<big) (hb:(ears.length:Int)<big) (hT:tot ears<4000000):
    ∃b,Ev (fun k=>wT.f k n E ears) b/\(b=true↔IX n E ears):=by
  have F:Ev (fun k=>kF.j0 k ears [] true n E) false:=Ev.step (fun k=>by simp only [kF.j0,if_true]<;>exact rfl) (Ev.val rfl)
  unfold wT.f kF.f
  by_cases c:ok n E;rotate_left
  · refine⟨false,Ev.bind (Ev.eq (Bq n E hE) (decide_eq_false c)) (by simp only [Bool.false_eq_true,if_false];exact F),?_⟩
    simp only [Bool.false_eq_true,false_iff]
    exact fun x=>c x.1
  have K:=Ev.eq (Bq n E hE) (decide_eq_true c)
  by_cases c1:ears=[]
  · refine⟨false,Ev.bind K ?_,?_⟩
    · simp only [if_true,c1,List.length_nil,Int.natCast_zero,beq_self_eq_true]
      rw[c1]at F
      exact F
    simp only [Bool.false_eq_true,false_iff]
    exact fun h=>h.2.1 c1
  have n0:=c.1
  have n8:=c.2.1
  have hc:n.toNat<=281474976710656:=by omega
  have cb:((ears.length:Int)==0)=false:=by
    rw[beq_eq_false_iff_ne]
    exact fun h=>c1 (List.eq_nil_of_length_eq_zero (by omega))
  have hK:kn n (List.replicate n.toNat false) []:=by
    refine⟨by rw[List.length_replicate];omega,fun v h0 h1=>?_⟩
    unfold l8
    rw[List.getD_eq_getElem?_getD,List.getElem?_replicate]
    split<;>simp
  obtain⟨b,e,h⟩:=Ja n E c [] ears [] [] [] (List.replicate n.toNat false) (by simpa using hb) (by simpa using hT) hK (by simp) (by simp) (fun _=>rfl)
  simp only [List.nil_append,List.length_nil,Int.natCast_zero,beq_self_eq_true]at e h
  refine⟨b,Ev.bind K ?_,?_⟩
  · simp only [if_true,cb]
    exact Ev.step (fun k=>by simp only [kF.j0,Bool.false_eq_true,if_false,if_pos n0,if_pos hc]<;>exact rfl) e
  rw[h]
  exact⟨fun x=>⟨c,c1,x⟩,fun x=>x.2.2⟩
end Go.Proofs.Ytgeonpciodepgaa.P
namespace Go.Proofs.Ytgeonpciodepgaa.G
theorem EG {n:Int}{C:List Tie}{K:List Int}{a b:Int}{p:List Int}(hC:∀t∈C,inr n t) (h1:uL n C K a b) (h2:qh (cut C (kS a b)) K b p):
  p≠[]/\nk (a::p)=nk p/\vJ (a::p)=p.dropLast/\(uk (a::p)=nk (a::p)->4<=(a::p).length)/\(ties (a::p)).Nodup/\(∀v∈a::p,0<=v/\v<n)/\(∀t∈ties (a::p),t∈C):=by
 have hi:=o9 (hC _ h1.tie)
 have hab:a≠b:=by
  intro k
  subst k
  have:=hC _ h1.tie
  unfold inr kS at this
  simp at this
 have hk:=yV (fun t q=>hC t (ut.1 q).1) hi.2.1 h2
 have hp0:p≠[]:=fun k=>by have:=h2.head;rw[k]at this;simp at this
 have hl:nk (a::p)=nk p:=by
  cases p with
  |nil=>exact absurd rfl hp0
  |cons y r=>exact BD a y r
 have hh:uk (a::p)=a:=rfl
 refine⟨hp0,hl,rfl,?_,?_,?_,?_⟩
 ·rw[hl,hh]
  intro e
  match p,h2.head,h2.ties,e with
  |[],k,_,_=>simp at k
  |[x],k,_,e=>
   simp at k
   unfold nk at e
   simp at e
   omega
  |[x,y],k,kt,e=>
   simp at k
   unfold nk at e
   simp at e
   subst k
   subst e
   have:=(ut.1 (kt (kS x a) (by simp[ties]))).2
   refine absurd ?_ this
   unfold kS
   split<;>split<;>first|rfl|omega
  |x::y::z::r,_,_,_=>simp
 ·cases p with
  |nil=>exact absurd rfl hp0
  |cons y r=>
   have:y=b:=by have:=h2.head;simpa using this
   subst this
   rw[ties,List.nodup_cons]
   exact⟨fun k=>(ut.1 (h2.ties _ k)).2 rfl,zZ _ h2.nodup⟩
 ·intro v hv
  rcases List.mem_cons.1 hv with rfl|hv
  ·exact hi.1
  exact hk v hv
 intro t q
 cases p with
 |nil=>exact absurd rfl hp0
 |cons y r=>
  have:y=b:=by have:=h2.head;simpa using this
  subst this
  rw[ties,List.mem_cons]at q
  rcases q with rfl|q
  ·exact h1.tie
  exact(ut.1 (h2.ties t q)).1
theorem EJ {n:Int}{E:List Tie}(hE:ok n E) (hc:∀u∈ni n,∀v∈ni n,mh E u v):∀ (rows:List (List Int)) (C:List Tie) (K:List Int) (taken:List Tie) (ks:List Int),tL n C K rows->uA n E C K->(∀x,x∈ks↔x∈K)->ks.Nodup->(∀t,t∈C↔t∈E/\t∉taken)->taken.Nodup->(∀t∈taken,t∈E)->
  rY n E false taken ks rows
 |[],C,K,taken,ks,h,hL,hk,hn,hC,ht,hs=>by
  have e:C=[]:=h
  subst e
  have all:∀t∈E,t∈taken:=fun t q=>Classical.byContradiction fun k=>by have:=(hC t).2 ⟨q,k⟩;simp at this
  have z:=hL.rng 0 hL.zero
  have hK:∀v,0<=v->v<n->v∈K:=fun v v0 v1=>(hc 0 (qy.2 z) v (qy.2 ⟨v0,v1⟩)).closed (fun x=>x∈K) hL.zero (fun x y _ q=>by
   have g:=hL.gone _ q (by simp)
   unfold kS at g
   split at g
   ·exact g.2
   exact g.1)
  refine⟨BL ht (CW hE.2.2.2) (fun t=>⟨hs t,all t⟩),?_⟩
  have:=BL hn (Fa n) (fun x=>by rw[hk,qy];exact⟨fun q=>hL.rng x q,fun q=>hK x q.1 q.2⟩)
  rw[rf]at this
  have:=hE.1
  omega
 |row::rest,C,K,taken,ks,h,hL,hk,hn,hC,ht,hs=>by
  obtain⟨_,⟨a,b,p,h1,h2,h3⟩,h4⟩:=h
  have hi:∀t∈C,inr n t:=fun t q=>hE.2.2.1 t (hL.sub t q)
  obtain⟨f0,f1,f2,f3,f4,f5,f6⟩:=EG hi h1 h2.1
  subst h3
  refine⟨⟨?_,f5,fun t q=>hL.sub t (f6 t q),fun q=>by simp at q,fun _=>⟨(hk a).2 h1.here,by rw[f1];exact(hk _).2 h2.1.last⟩,f3,by rw[f2];exact h2.1.nodup.sublist (List.dropLast_sublist p),fun v q=>?_,fun t q=>((hC t).1 (f6 t q)).2⟩,?_⟩
  ·have:=List.length_pos_iff.2 f0
   simp;omega
  ·rw[f2]at q
   have:=h2.1.inner v q
   exact⟨fun k=>this ((hk v).1 k),fun k=>this (by rw[k];exact h1.here)⟩
  refine EJ hE hc rest (p_ C (a::p)) (nL K (a::p)) (taken++ties (a::p)) (nL ks (a::p)) h4 (hL.next f5) (fun x=>by rw[r9,r9,hk]) (x_ _ hn) (fun t=>?_) ?_ (fun t q=>?_)
  ·rw[zO,hC,List.mem_append,not_or]
   exact⟨fun q=>⟨q.1.1,q.1.2,q.2⟩,fun q=>⟨⟨q.1,q.2.1⟩,q.2.2⟩⟩
  ·rw[List.nodup_append]
   exact⟨ht,f4,fun x hx y hy e=>by subst e;exact((hC x).1 (f6 x hy)).2 hx⟩
  rcases List.mem_append.1 q with q|q
  ·exact hs t q
  exact hL.sub t (f6 t q)
theorem Jb {n:Int}{E:List Tie}(hE:ok n E) (h3:3<=n) (hc:∀u∈ni n,∀v∈ni n,mh E u v) {rows:List (List Int)}(h:tL n E [0] rows):rows≠[]/\rY n E true [] [] rows:=by
 cases rows with
 |nil=>
  have e:E=[]:=h
  subst e
  have:=(hc 0 (qy.2 ⟨Int.le_refl 0,by omega⟩) 1 (qy.2 ⟨by omega,by omega⟩)).closed (fun x=>x=0) rfl (fun x y _ k=>by simp at k)
  omega
 |cons row rest=>
  refine⟨by simp,?_⟩
  obtain⟨_,⟨a,b,p,h1,h2,h3⟩,h4⟩:=h
  have hL:uA n E E [0]:=⟨fun t h=>h,fun t h k=>absurd h k,by simp,fun v hv=>by rw[List.mem_singleton]at hv;subst hv;omega⟩
  obtain⟨f0,f1,f2,f3,f4,f5,f6⟩:=EG hE.2.2.1 h1 h2.1
  have ha:a=0:=by simpa using h1.here
  have hl:nk p=0:=by simpa using h2.1.last
  subst h3
  refine⟨⟨?_,f5,f6,fun _=>by rw[f1,hl];exact ha,fun q=>by simp at q,f3,by rw[f2];exact h2.1.nodup.sublist (List.dropLast_sublist p),fun v q=>?_,fun t q=>by simp⟩,?_⟩
  ·have:=List.length_pos_iff.2 f0
   simp;omega
  ·rw[f2]at q
   have:=h2.1.inner v q
   exact⟨by simp,fun k=>this (by rw[k];exact h1.here)⟩
  refine EJ hE hc rest (p_ E (a::p)) (nL [0] (a::p)) ([]++ties (a::p)) (nL [] (a::p)) h4 (hL.next f5) (fun x=>?_) (x_ _ (by simp)) (fun t=>?_) ?_ (fun t q=>?_)
  ·rw[r9,r9]
   subst ha
   simp
  ·rw[zO,List.nil_append]
  ·rw[List.nil_append];exact f4
  rw[List.nil_append]at q;exact f6 t q
end Go.Proofs.Ytgeonpciodepgaa.G
namespace Go.Proofs.Ytgeonpciodepgaa.P
open Go.RowKit Go.Proofs.YtgeonpciodepgaaW.PrintWords Go.Proofs.Ytgeonpciodepgaa.G Go.Proofs.YtgeonpciodepgaaW.PrintWords.Kd
theorem Gl:∀ {r:List (List Int)}(h:∀x∈r,x.length<=10),tot r<=10*r.length
 |[],_=>by simp[tot]
 |x::r,h=>by
  have h1:=h x List.mem_cons_self
  have h2:=Gl (r:=r) (fun y hy=>h y (List.mem_cons_of_mem _ hy))
  simp only [tot,List.length_cons]
  omega
theorem GG (l:List Int) (_hl:l.length<=9223372036854775807) (h:∀x∈l,0<=x/\x<=255):∃k,v_.f k l=some true:=by
 refine Ev.rounds ?_
 unfold v_.f
 by_cases d:(l.length:Int)>1048576
 ·simp only [if_pos d];exact Ev.val rfl
 simp only [if_neg d]
 obtain⟨n,E,d1,hE⟩:=IU l h
 have hEb:(E.length:Int)<big:=by unfold big;omega
 obtain⟨rows,w,s1,i1,y1,y2⟩:=H9 n E hEb
 have nb:¬ (rows.2 !=rows.2)=true:=by simp
 refine Ev.bind d1 (Ev.bind s1 (Ev.bind i1 ?_))
 simp only [if_neg nb]
 refine Ev.bind (Lr w) ?_
 simp only [if_true]
 cases e:rows.2 with
 |false=>
  have z:(rows.1.length:Int)=0:=by rw[(y2 e).2];rfl
  simp only [Bool.false_eq_true,if_false,if_pos z]
  exact Ev.val rfl
 |true=>
  obtain⟨c1,c2⟩:=y1 e
  obtain⟨g1,g2⟩:=Jb c1.1 c1.2.1 c1.2.2.1 c2
  have hT:=Gl (r:=rows.1) (fun x hx=>(w.2 x hx).2)
  have w1:=w.1
  obtain⟨b,b1,b2⟩:=JE n E rows.1 hEb (by unfold big;omega) (by omega)
  have hb:b=true:=b2.2 ⟨c1.1,g1,g2⟩
  subst hb
  simp only [if_true]
  exact Ev.bind b1 (Ev.val rfl)
end Go.Proofs.Ytgeonpciodepgaa.P
namespace Go.Proofs.Ytgeonpciodepgaa.P
open Go.RowKit Go.Proofs.YtgeonpciodepgaaW.PrintWords Go.ChangeShapes Go.WideShapes Go.Deep Go.Proofs.YtgeonpciodepgaaW.PrintWords.Kd
theorem K9 {H:Type}{enc:TypeId×Value->H}{Pr:Program}{t e:TypeId}{k:IntKind}(ht:Pr.underlying t=some (.slice e)) (he:Pr.underlying e=some (.int k)) (hc:Pr.cellsOf e=1) {w:World}{base:Nat}{spare:Nat->Bool}{held:Bool}{fuel:Nat}{cs:List Value}{x:DataW H×List MemPlace}
  (h:DataW.trod enc Pr w base spare held fuel t cs=some x):
  ∃ (A:Option Addr) (c:Nat) (l:List Int),cs=[.slice A l.length c]/\l.length<=c/\Kd.C (Kd.int k) w A l.length l/\∀n∈l,(Lit.int k n).wf=true:=by
 rcases open_slice1 ht hc h with⟨rfl,_⟩|⟨a,len,cap,m,n,V,D,Pl,rfl,hb,hl,hm,hmm,hx,hi⟩
 ·exact⟨none,0,[],rfl,Nat.le_refl _,⟨rfl,by simp,fun h=>by simp at h⟩,fun t ht=>by simp at ht⟩
 have hlm:len<=m:=by rw[hmm];split<;>omega
 have key:∀i,i<len->∃z:Int,w.cell? (a.add i)=some (.int k z)/\(Lit.int k z).wf=true:=by
  intro i hil
  obtain⟨h0,r0⟩:=hi i (by omega)
  obtain⟨n0,e0,_,w0⟩:=DataW.trod_int he r0
  simp only [List.cons.injEq,and_true]at e0
  exact⟨n0,by rw[h0,e0],w0⟩
 obtain⟨f,hf⟩:=choose_lt key
 refine⟨some a,cap,(List.range len).map f,by simp,by simpa using hl,⟨by simp,?_,fun _=>⟨a,rfl,fun j p hj=>?_⟩⟩,fun t ht=>?_⟩
 ·unfold maxLen at hm;simp;omega
 ·obtain⟨hj1,hj2⟩:=List.getElem?_eq_some_iff.1 hj
  simp at hj1 hj2
  subst hj2
  refine⟨[.int k (f j)],rfl,rfl,fun i u hu=>?_⟩
  match i,hu with
  |0,hu=>
   simp at hu;subst hu
   have:j*(Kd.int k).sz+0=j:=Nat.mul_one j
   rw[this]
   exact(hf j hj1).1
 simp at ht
 obtain⟨i,hil,rfl⟩:=ht
 exact(hf i hil).2
end Go.Proofs.Ytgeonpciodepgaa.P
