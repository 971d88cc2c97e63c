/- The proof's parts ahead of the row: of no condition of their own. -/
import Derived.Test.YtgeonpciodepgaaZFnEarOpen6
import Derived.Deep.Slices
import Derived.ProofKit
set_option linter.unusedVariables false
set_option linter.unusedSimpArgs false
namespace Go.Proofs.Ytgeonpciodepgaa.P
open Go.RowKit Go.Proofs.YtgeonpciodepgaaW.PrintWords Go.Proofs.Ytgeonpciodepgaa.G Go.Proofs.YtgeonpciodepgaaW.PrintWords.Kd
theorem wF (n a:Int) (E:List S59) (hE:(E.length:Int)<big):Ev (fun k=>rD.f k n E a) (decide (ok n E/\0<=a/\a<n)):=by
 unfold rD.f
 refine Ev.bind (yT n E hE) ?_
 by_cases c:ok n E
 ·simp only [c,decide_true,if_true,Dc,Option.bind_some]
  rw[w64 (by have:=c.1;omega) (by have:=c.2.1;omega)]
  refine Ev.val (congrArg some (decide_eq_decide.2 ?_))
  exact⟨fun h=>⟨trivial,h.1,by omega⟩,fun h=>⟨h.2.1,by omega⟩⟩
 simp only [c,decide_false,Bool.false_eq_true,if_false]
 exact Ev.val (congrArg some (decide_eq_false (by simp)).symm)
theorem Dz (n a b:Int) (E:List S59) (hE:(E.length:Int)<big):Ev (fun k=>wh.f k n E a b) (decide (ok n E/\oD a b∈E)):=by
 unfold wh.f
 refine Ev.bind (yT n E hE) ?_
 by_cases c:ok n E
 ·simp only [c,decide_true,if_true]
  refine Ev.bind (I8 n a b E hE) ?_
  exact Ev.val (by simp)
 simp only [c,decide_false,Bool.false_eq_true,if_false]
 exact Ev.val (by simp)
theorem Fg (n:Int) (E:List S59) (hE:(E.length:Int)<=1048576):tH.f n E=some (n,E):=by
 unfold tH.f
 have:([]:List S59).length+E.length<8796093022208:=by simp;omega
 simp only [Option.bind_some,this,if_true,List.nil_append]
end Go.Proofs.Ytgeonpciodepgaa.P
namespace Go.Proofs.Ytgeonpciodepgaa.G
open Go.RowKit Go.Proofs.YtgeonpciodepgaaW.PrintWords
def vL (l:List Int):Prop:=∀x∈l,0<=x/\x<=255
theorem FJ {l:List Int}(h:vL l) (i:Int):0<=rd l i/\rd l i<=255:=by
 unfold rd
 by_cases c:i.toNat<l.length
 ·rw[List.getD_eq_getElem?_getD,List.getElem?_eq_getElem c]
  exact h _ (List.getElem_mem c)
 rw[List.getD_eq_getElem?_getD,List.getElem?_eq_none (by omega)]
 simp
theorem P8 {a b:Int}(h0:0<=a) (h1:a<9223372036854775808) (h2:0<=b) (h3:b<9223372036854775808):0<=Go.bits .xor .i64 a b:=by
 obtain⟨x,rfl⟩:=Int.eq_ofNat_of_zero_le h0
 obtain⟨y,rfl⟩:=Int.eq_ofNat_of_zero_le h2
 have hx:x^^^y<2^63:=Nat.xor_lt_two_pow (by omega) (by omega)
 have e1:(BitVec.ofInt 64 (x:Int)).toNat=x:=by
  rw[BitVec.ofInt_natCast,BitVec.toNat_ofNat];exact Nat.mod_eq_of_lt (by omega)
 have e2:(BitVec.ofInt 64 (y:Int)).toNat=y:=by
  rw[BitVec.ofInt_natCast,BitVec.toNat_ofNat];exact Nat.mod_eq_of_lt (by omega)
 show 0<=IntKind.i64.wrap ((BitVec.ofInt 64 (x:Int)^^^BitVec.ofInt 64 (y:Int)).toNat:Int)
 rw[BitVec.toNat_xor,e1,e2]
 simp[IntKind.wrap,IntKind.bits,IntKind.signed]
 omega
theorem DN {a b:Int}(h:0<=a) (hb:0<b):0<=Int.tmod a b/\Int.tmod a b<b:=by
 rw[Int.tmod_eq_emod_of_nonneg h]
 exact⟨Int.emod_nonneg _ (by omega),Int.emod_lt_of_pos _ hb⟩
theorem JZ {a b:Int}(h:0<=a) (hb:0<=b):0<=Int.tdiv a b/\Int.tdiv a b<=a:=by
 rw[Int.tdiv_eq_ediv_of_nonneg h]
 exact⟨Int.ediv_nonneg h hb,Int.ediv_le_self _ h⟩
def qO (lo hi:Int) (M:Nat) (c p:Int) (r:Int×List Tie×Int):Prop:=lo<=r.1/\r.1<=hi/\r.2.1.length<=M/\p<=r.2.2/\r.2.2<=p+c
end Go.Proofs.Ytgeonpciodepgaa.G
namespace Go.Proofs.Ytgeonpciodepgaa.P
open Go.RowKit Go.Proofs.YtgeonpciodepgaaW.PrintWords Go.Proofs.Ytgeonpciodepgaa.G Go.Proofs.YtgeonpciodepgaaW.PrintWords.Kd
theorem N_ (l:List Int) (h:vL l):∃s,zJ.f l=some (s,0)/\vL s/\s.length<=2000:=by
 unfold zJ.f
 by_cases c:(l.length:Int)>2000
 ·have c2:(2000:Int)<=(l.length:Int):=by omega
  exact⟨l.take 2000,by simp only [if_pos c,if_pos c2],fun x hx=>h x (List.mem_of_mem_take hx),List.length_take_le _ _⟩
 exact⟨l,by simp only [if_neg c],h,by omega⟩
theorem uf (s:List Int) (hs:vL s) (hl:s.length<=2000) (p n:Int) (h0:0<=p) (h1:p<=100000):
  ∃v,Ev (fun k=>o9.f k s p n) (v,p+1)/\0<=v/\(v<n\/n<1/\v=0):=by
 unfold o9.f
 rw[w64 (x:=p+1) (by omega) (by omega)]
 by_cases c:n<1
 ·refine⟨0,?_,Int.le_refl 0,.inr ⟨c,rfl⟩⟩
  simp only [if_pos c]
  exact Ev.step (fun k=>by simp only [o9.j0,if_true]<;>exact rfl) (Ev.val rfl)
 simp only [if_neg c]
 by_cases z:(s.length:Int)=0
 ·refine⟨0,?_,Int.le_refl 0,.inl (by omega)⟩
  have z':((s.length:Int)==0)=true:=beq_iff_eq.2 z
  exact Ev.step (fun k=>by simp only [o9.j0,z',if_true]<;>exact rfl) (Ev.val rfl)
 have z':((s.length:Int)==0)=false:=beq_eq_false_iff_ne.2 z
 have zp:(0:Int)<s.length:=by omega
 have e1:wrap64 (p+1 - 1)=p:=by rw[w64 (by omega) (by omega)];omega
 have n0:¬n=0:=by omega
 by_cases d:p<(s.length:Int)
 ·have hb:=FJ hs p
  have t:=DN hb.1 (b:=n) (by omega)
  refine⟨Int.tmod (rd s p) n,?_,t.1,.inl t.2⟩
  refine Ev.step (fun k=>by simp only [o9.j0,z',Bool.false_eq_true,if_false,e1,if_pos d,if_pos h0,if_neg n0,w64 (x:=rd s p) (by omega) (by omega)]<;>exact rfl) (Ev.val rfl)
 have t1:=DN h0 zp
 have w1:wrap64 (p*7)=p*7:=w64 (by omega) (by omega)
 have w2:wrap64 (p*7+3)=p*7+3:=w64 (by omega) (by omega)
 have t2:=DN (a:=p*7+3) (by omega) zp
 have b1:=FJ hs (Int.tmod p (s.length:Int))
 have b2:=FJ hs (Int.tmod (p*7+3) (s.length:Int))
 have q:=JZ h0 (b:=(s.length:Int)) (by omega)
 generalize hu:rd s (Int.tmod p (s.length:Int))=u at b1
 generalize hv:rd s (Int.tmod (p*7+3) (s.length:Int))=v at b2
 generalize hy:Int.tdiv p (s.length:Int)=y at q
 have hx0:0<=u*131+v*1117+p*29+y*53:=by omega
 have hx1:u*131+v*1117+p*29+y*53<100000000:=by omega
 have q2:=JZ hx0 (b:=64) (by omega)
 have w3:wrap64 (wrap64 (wrap64 (wrap64 (wrap64 u*131)+wrap64 (wrap64 v*1117))+wrap64 (p*29))+wrap64 (wrap64 y*53))=u*131+v*1117+p*29+y*53:=by
  rw[w64 (x:=u) (by omega) (by omega),w64 (x:=v) (by omega) (by omega),w64 (x:=y) (by omega) (by omega),w64 (x:=u*131) (by omega) (by omega),w64 (x:=v*1117) (by omega) (by omega),w64 (x:=y*53) (by omega) (by omega),w64 (x:=p*29) (by omega) (by omega),w64 (x:=u*131+v*1117) (by omega) (by omega),w64 (x:=u*131+v*1117+p*29) (by omega) (by omega),w64 (by omega) (by omega)]
 have w4:wrap64 (Int.tdiv (u*131+v*1117+p*29+y*53) 64)=Int.tdiv (u*131+v*1117+p*29+y*53) 64:=w64 (by omega) (by omega)
 generalize hX:u*131+v*1117+p*29+y*53=X at*
 have x0:=P8 hx0 (by omega) q2.1 (by omega)
 have t:=DN x0 (b:=n) (by omega)
 refine⟨Int.tmod (Go.bits .xor .i64 X (Int.tdiv X 64)) n,?_,t.1,.inl t.2⟩
 refine Ev.step (fun k=>by simp only [o9.j0,z',Bool.false_eq_true,if_false,e1,if_neg d,if_neg z,w1,w2,if_pos t1.1,if_pos t1.2,if_pos t2.1,if_pos t2.2,if_neg n0,hu,hv,hy,w3,w4]<;>exact rfl) (Ev.val rfl)
theorem Lf (n m a b:Int):∀ (suf p q:List S59) (f:Bool),((p++suf).length:Int)<=1048576->q.length<=p.length+(if f then 1 else 0)->
  ∃E,Ev (fun k=>pJ.l0 k f (p.length:Int) n (p++suf) m q a b) (m,E,true)/\E.length<=(p++suf).length+1:=by
 intro suf
 induction suf with
 |nil=>
  intro p q f hb hq
  have hq8:q.length<8796093022208:=by rw[List.length_append]at hb;split at hq<;>omega
  cases f with
  |true=>exact⟨q,Ev.step (fun k=>by simp only [pJ.l0,sP,if_false,if_true]<;>exact rfl) (Ev.val rfl),by simpa using hq⟩
  |false=>exact⟨q++[⟨a,b⟩],Ev.step (fun k=>by simp only [pJ.l0,sP,if_false,Bool.false_eq_true,if_pos hq8]<;>exact rfl) (Ev.val rfl),by simp at hq⊢;omega⟩
 |cons t suf ih=>
  intro p q f hb hq
  have hb':((p++t::suf).length:Int)<big:=by unfold big;omega
  have hp:(p.length:Int)<big:=sV hb'
  have hq8:q.length+1<8796093022208:=by rw[List.length_append]at hb;split at hq<;>omega
  have hq7:q.length<8796093022208:=by omega
  have hb2:(((p++[t])++suf).length:Int)<=1048576:=by rw[←qw];exact hb
  cases f with
  |true=>
   obtain⟨E,e1,e2⟩:=ih (p++[t]) (q++[t]) true hb2 (by simp at hq⊢;omega)
   rw[qw p t suf]
   refine⟨E,Ev.step (fun k=>by simp only [←qw,pJ.l0,qi,nn,if_true,Ak,qU (t:=t) hp,if_pos hq7]<;>exact rfl) ?_,e2⟩
   rw[qw p t suf]
   exact e1
  |false=>
   have s0:pJ.l0=pJ.l0:=rfl
   by_cases c:tlt ⟨a,b⟩ ⟨t.f0,t.f1⟩
   ·obtain⟨E,e1,e2⟩:=ih (p++[t]) (q++[⟨a,b⟩,t]) true hb2 (by simp at hq⊢;omega)
    have hq9:(q++[(⟨a,b⟩:S59)]).length<8796093022208:=by simp;omega
    rw[qw p t suf]
    refine⟨E,Ev.step (fun k=>by simp only [←qw,pJ.l0,qi,nn,if_true,Bool.false_eq_true,if_false,Ak,qU (t:=t) hp,Fs,Option.bind_some,decide_eq_true c,if_pos hq7,if_pos hq9]<;>exact rfl) ?_,e2⟩
    rw[qw p t suf]
    exact e1
   obtain⟨E,e1,e2⟩:=ih (p++[t]) (q++[t]) false hb2 (by simp at hq⊢;omega)
   rw[qw p t suf]
   refine⟨E,Ev.step (fun k=>by simp only [←qw,pJ.l0,qi,nn,if_true,Bool.false_eq_true,if_false,Ak,qU (t:=t) hp,Fs,Option.bind_some,decide_eq_false c,if_pos hq7]<;>exact rfl) ?_,e2⟩
   rw[qw p t suf]
   exact e1
theorem zh (n a b:Int) (E:List S59) (hE:(E.length:Int)<=1048576):
  ∃m F t,Ev (fun k=>pJ.f k n E a b) (m,F,t)/\F.length<=E.length+1/\(m=n\/m=0):=by
 have hb:(E.length:Int)<big:=by unfold big;omega
 have no:Ev (fun k=>pJ.j0 k a b true n E) (0,[],false):=Ev.step (fun k=>by simp only [pJ.j0,if_true]<;>exact rfl) (Ev.val rfl)
 unfold pJ.f
 by_cases c:ok n E/\0<=a/\a<n;rotate_left
 ·refine⟨0,[],false,Ev.bind (wF n a E hb) ?_,by simp,.inr rfl⟩
  simp only [c,decide_false,Bool.false_eq_true,if_false]
  exact no
 by_cases d:ok n E/\0<=b/\b<n
 ·have h1:∀v:Bool,∃m F t,Ev (fun k=>pJ.j0 k a b v n E) (m,F,t)/\F.length<=E.length+1/\(m=n\/m=0):=by
   intro v
   cases v with
   |true=>exact⟨0,[],false,no,by simp,.inr rfl⟩
   |false=>
    obtain⟨F,e1,e2⟩:=Lf n n (oD a b).f0 (oD a b).f1 E [] [] false hE (by simp)
    refine⟨n,F,true,?_,e2,.inl rfl⟩
    exact Ev.step (fun k=>by simp only [pJ.j0,Bool.false_eq_true,if_false,zD,Option.bind_some]<;>exact rfl) e1
  by_cases e:a=b
  ·obtain⟨m,F,t,e1,e2⟩:=h1 true
   refine⟨m,F,t,Ev.bind (wF n a E hb) ?_,e2⟩
   simp only [c,and_self,decide_true,if_true]
   refine Ev.bind (wF n b E hb) ?_
   simp only [d,and_self,decide_true,if_true,if_pos e]
   exact e1
  obtain⟨m,F,t,e1,e2⟩:=h1 (decide (ok n E/\oD a b∈E))
  refine⟨m,F,t,Ev.bind (wF n a E hb) ?_,e2⟩
  simp only [c,and_self,decide_true,if_true]
  refine Ev.bind (wF n b E hb) ?_
  simp only [d,and_self,decide_true,if_true,if_neg e]
  exact Ev.bind (Dz n a b E hb) e1
 refine⟨0,[],false,Ev.bind (wF n a E hb) ?_,by simp,.inr rfl⟩
 simp only [c,and_self,decide_true,if_true]
 refine Ev.bind (wF n b E hb) ?_
 simp only [d,decide_false,Bool.false_eq_true,if_false]
 exact no
theorem Ml (s:List Int) (hs:vL s) (hl:s.length<=2000):∀ (d:Nat) (p n:Int) (E:List S59),d<=20->0<=p->p+2*d<=80000->0<=n->n<=8->E.length+d<=1000->
  ∃r,Ev (fun k=>pK.l2 k (d:Int) s p n E) r/\qO 0 8 (E.length+d) (2*d) p r:=by
 intro d
 induction d with
 |zero=>
  intro p n E hd h0 h1 n0 n1 hE
  refine⟨(n,E,p),?_,by simp[qO];omega⟩
  have c:¬ (0:Int)>0:=by omega
  refine Ev.step (fun k=>by simp only [pK.l2,Int.natCast_zero,if_neg c]<;>exact rfl) ?_
  exact Ev.step (fun k=>by simp only [pK.j4,Bool.false_eq_true,if_false]<;>exact rfl) (Ev.val rfl)
 |succ d ih=>
  intro p n E hd h0 h1 n0 n1 hE
  have c:((d+1:Nat):Int)>0:=by omega
  have w:wrap64 (((d+1:Nat):Int) - 1)=(d:Int):=by rw[w64 (by omega) (by omega)];omega
  by_cases m:n>1
  ·obtain⟨v,v1,_⟩:=uf s hs hl p n h0 (by omega)
   obtain⟨u,u1,_⟩:=uf s hs hl (p+1) n (by omega) (by omega)
   obtain⟨m',F,t,a1,a2,a3⟩:=zh n v u E (by omega)
   have step:∀r,Ev (fun k=>if t=true then pK.l2 k (d:Int) s (p+1+1) m' F else pK.l2 k (d:Int) s (p+1+1) n E) r->Ev (fun k=>pK.l2 k ((d+1:Nat):Int) s p n E) r:=by
    intro r hr
    refine Ev.step (fun k=>by simp only [pK.l2,if_pos c,decide_eq_true m]<;>exact rfl) ?_
    refine Ev.step (fun k=>by simp only [pK.j4,if_true,w]<;>exact rfl) ?_
    exact Ev.bind v1 (Ev.bind u1 (Ev.bind a1 hr))
   cases t with
   |true=>
    obtain⟨r,r1,r2⟩:=ih (p+1+1) m' F (by omega) (by omega) (by omega) (by omega) (by omega) (by omega)
    exact⟨r,step r (by simp only [if_true];exact r1),by unfold qO at*;omega⟩
   |false=>
    obtain⟨r,r1,r2⟩:=ih (p+1+1) n E (by omega) (by omega) (by omega) (by omega) (by omega) (by omega)
    exact⟨r,step r (by simp only [Bool.false_eq_true,if_false];exact r1),by unfold qO at*;omega⟩
  refine⟨(n,E,p),?_,by simp[qO];omega⟩
  refine Ev.step (fun k=>by simp only [pK.l2,if_pos c,decide_eq_false m]<;>exact rfl) ?_
  exact Ev.step (fun k=>by simp only [pK.j4,Bool.false_eq_true,if_false]<;>exact rfl) (Ev.val rfl)
theorem Ac (s:List Int) (hs:vL s) (hl:s.length<=2000) (p n:Int) (E:List S59) (h0:0<=p) (h1:p<=75000) (n0:0<=n) (n1:n<=8) (hE:E.length<=20):
  ∃r,Ev (fun k=>pK.j2 k s p n E) r/\qO 0 8 40 30 p r:=by
 obtain⟨v,v1,v2,v3⟩:=uf s hs hl p 13 h0 (by omega)
 obtain⟨r,r1,r2⟩:=Ml s hs hl v.toNat (p+1) n E (by omega) (by omega) (by omega) n0 n1 (by omega)
 rw[Int.toNat_of_nonneg v2]at r1
 refine⟨r,Ev.step (fun k=>by simp only [pK.j2]<;>exact rfl) (Ev.bind v1 r1),by unfold qO at*;omega⟩
theorem Mj (s:List Int) (hs:vL s) (hl:s.length<=2000):∀ (d:Nat) (i p n:Int) (E:List S59),i+d=9->0<=i->0<=p->p+d<=70000->0<=n->n<=8->(E.length:Int)<=i->
  ∃r,Ev (fun k=>pK.l0 k i s p n E) r/\qO 0 8 40 (30+d) p r:=by
 intro d
 induction d with
 |zero=>
  intro i p n E hi i0 h0 h1 n0 n1 hE
  obtain⟨r,r1,r2⟩:=Ac s hs hl p n E h0 (by omega) n0 n1 (by omega)
  have c:¬i<n:=by omega
  exact⟨r,Ev.step (fun k=>by simp only [pK.l0,if_neg c]<;>exact rfl) r1,by unfold qO at*;omega⟩
 |succ d ih=>
  intro i p n E hi i0 h0 h1 n0 n1 hE
  by_cases c:i<n
  ·obtain⟨v,v1,_⟩:=uf s hs hl p i h0 (by omega)
   obtain⟨m',F,t,a1,a2,a3⟩:=zh n i v E (by omega)
   obtain⟨r,r1,r2⟩:=ih (i+1) (p+1) m' F (by omega) (by omega) (by omega) (by omega) (by omega) (by omega) (by omega)
   refine⟨r,Ev.step (fun k=>by simp only [pK.l0,if_pos c,w64 (x:=i+1) (by omega) (by omega)]<;>exact rfl) (Ev.bind v1 (Ev.bind a1 r1)),by unfold qO at*;omega⟩
  obtain⟨r,r1,r2⟩:=Ac s hs hl p n E h0 (by omega) n0 n1 (by omega)
  exact⟨r,Ev.step (fun k=>by simp only [pK.l0,if_neg c]<;>exact rfl) r1,by unfold qO at*;omega⟩
theorem Mk (s:List Int) (hs:vL s) (hl:s.length<=2000):∀ (d:Nat) (i p n:Int) (E:List S59),i+d=9->0<=i->0<=p->p<=70000->0<=n->n<=8->(E.length:Int)<=i->
  ∃r,Ev (fun k=>pK.l1 k i s p n E) r/\qO 0 8 40 (30+d) p r:=by
 intro d
 induction d with
 |zero=>
  intro i p n E hi i0 h0 h1 n0 n1 hE
  obtain⟨r,r1,r2⟩:=Ac s hs hl p n E h0 (by omega) n0 n1 (by omega)
  have c:¬i<n:=by omega
  exact⟨r,Ev.step (fun k=>by simp only [pK.l1,if_neg c]<;>exact rfl) r1,by unfold qO at*;omega⟩
 |succ d ih=>
  intro i p n E hi i0 h0 h1 n0 n1 hE
  by_cases c:i<n
  ·by_cases c2:n>2
   ·have c3:¬n=0:=by omega
    obtain⟨m',F,t,a1,a2,a3⟩:=zh n i (Int.tmod (i+1) n) E (by omega)
    obtain⟨r,r1,r2⟩:=ih (i+1) p m' F (by omega) (by omega) (by omega) (by omega) (by omega) (by omega) (by omega)
    refine⟨r,Ev.step (fun k=>by simp only [pK.l1,if_pos c,if_pos c2,if_neg c3,w64 (x:=i+1) (by omega) (by omega)]<;>exact rfl) (Ev.bind a1 r1),by unfold qO at*;omega⟩
   obtain⟨r,r1,r2⟩:=Ac s hs hl p n E h0 (by omega) n0 n1 (by omega)
   exact⟨r,Ev.step (fun k=>by simp only [pK.l1,if_pos c,if_neg c2]<;>exact rfl) r1,by unfold qO at*;omega⟩
  obtain⟨r,r1,r2⟩:=Ac s hs hl p n E h0 (by omega) n0 n1 (by omega)
  exact⟨r,Ev.step (fun k=>by simp only [pK.l1,if_neg c]<;>exact rfl) r1,by unfold qO at*;omega⟩
theorem Mi (s:List Int) (hs:vL s) (hl:s.length<=2000) (p:Int) (h0:0<=p) (h1:p<=60000):
  ∃r,Ev (fun k=>pK.f k s p) r/\qO 0 8 40 50 p r:=by
 obtain⟨v,v1,v2,v3⟩:=uf s hs hl p 8 h0 (by omega)
 obtain⟨u,u1,u2,u3⟩:=uf s hs hl (p+1) 6 (by omega) (by omega)
 have w:wrap64 (1+v)=1+v:=w64 (by omega) (by omega)
 unfold pK.f
 by_cases c:u=0
 ·obtain⟨r,r1,r2⟩:=Mj s hs hl 8 1 (p+1+1) (1+v) [] (by omega) (by omega) (by omega) (by omega) (by omega) (by omega) (by simp)
  refine⟨r,Ev.bind v1 (Ev.bind u1 ?_),by unfold qO at*;omega⟩
  simp only [w,if_pos c]
  exact r1
 by_cases d:u=1
 ·obtain⟨r,r1,r2⟩:=Mk s hs hl 9 0 (p+1+1) (1+v) [] (by omega) (by omega) (by omega) (by omega) (by omega) (by omega) (by simp)
  refine⟨r,Ev.bind v1 (Ev.bind u1 ?_),by unfold qO at*;omega⟩
  simp only [w,if_neg c,if_pos d]
  exact r1
 obtain⟨r,r1,r2⟩:=Ac s hs hl (p+1+1) (1+v) [] (by omega) (by omega) (by omega) (by omega) (by simp)
 refine⟨r,Ev.bind v1 (Ev.bind u1 ?_),by unfold qO at*;omega⟩
 simp only [w,if_neg c,if_neg d]
 exact r1
theorem Po (s:List Int) (hs:vL s) (hl:s.length<=2000) (p n:Int) (E:List S59) (h0:0<=p) (h1:p<=70000) (n0:0<=n) (n1:n<=8) (hE:E.length<=40):
  ∃r,Ev (fun k=>r9.f k s p n E) r/\qO (-1) 9 50 5 p r:=by
 obtain⟨v,v1,v2,v3⟩:=uf s hs hl p 6 h0 (by omega)
 have q8:E.length<8796093022208:=by omega
 have q9:([(⟨-1,0⟩:S59)]:List S59).length+E.length<8796093022208:=by simp;omega
 unfold r9.f
 simp only [Fg n E (by omega),Option.bind_some,if_pos q8,if_pos q9]
 by_cases c0:v=0
 ·obtain⟨u,u1,u2,u3⟩:=uf s hs hl (p+1) 5 (by omega) (by omega)
  have g:u<((([(-1),0,1,8,9]:List Int)).length:Int):=by show u<5;omega
  have b: -1<=rd [(-1),0,1,8,9] u/\rd [(-1),0,1,8,9] u<=9:=by
   have:u=0\/u=1\/u=2\/u=3\/u=4:=by omega
   rcases this with rfl|rfl|rfl|rfl|rfl<;>decide
  refine⟨(rd [(-1),0,1,8,9] u,E,p+1+1),Ev.bind v1 ?_,by simp[qO];omega⟩
  simp only [if_pos c0]
  refine Ev.bind u1 ?_
  simp only [if_pos u2,if_pos g]
  exact Ev.val rfl
 by_cases c1:v=1
 ·obtain⟨u,u1,u2,u3⟩:=uf s hs hl (p+1) 3 (by omega) (by omega)
  obtain⟨t,t1,t2,t3⟩:=uf s hs hl (p+1+1) 3 (by omega) (by omega)
  refine⟨(n,E++[⟨u,t⟩],p+1+1+1),Ev.bind v1 ?_,by simp[qO];omega⟩
  simp only [if_neg c0,if_pos c1]
  exact Ev.bind u1 (Ev.bind t1 (Ev.val rfl))
 by_cases c2:v=2
 ·refine⟨(n,E++[⟨wrap64 (n - 1),n⟩],p+1),Ev.bind v1 ?_,by simp[qO];omega⟩
  simp only [if_neg c0,if_neg c1,if_pos c2]
  exact Ev.val rfl
 by_cases c3:v=3
 ·by_cases d:(E.length:Int)>0
  ·obtain⟨u,u1,u2,u3⟩:=uf s hs hl (p+1) (E.length:Int) (by omega) (by omega)
   have g:u<(E.length:Int):=by omega
   refine⟨(n,E.set u.toNat ⟨(nk E u).f1,(nk E u).f0⟩,p+1+1),Ev.bind v1 ?_,by simp[qO];omega⟩
   simp only [if_neg c0,if_neg c1,if_neg c2,if_pos c3,if_pos d]
   refine Ev.bind u1 ?_
   simp only [if_pos u2,if_pos g]
   exact Ev.val rfl
  refine⟨(n,E,p+1),Ev.bind v1 ?_,by simp[qO];omega⟩
  simp only [if_neg c0,if_neg c1,if_neg c2,if_pos c3,if_neg d]
  exact Ev.val rfl
 by_cases c4:v=4
 ·by_cases d:(E.length:Int)>1
  ·have d0:0<(E.length:Int):=by omega
   refine⟨(n,E++[⟨(nk E 0).f0,(nk E 0).f1⟩],p+1),Ev.bind v1 ?_,by simp[qO];omega⟩
   simp only [if_neg c0,if_neg c1,if_neg c2,if_neg c3,if_pos c4,if_pos d,if_pos d0]
   exact Ev.val rfl
  refine⟨(n,E,p+1),Ev.bind v1 ?_,by simp[qO];omega⟩
  simp only [if_neg c0,if_neg c1,if_neg c2,if_neg c3,if_pos c4,if_neg d]
  exact Ev.val rfl
 refine⟨(n,[⟨-1,0⟩]++E,p+1),Ev.bind v1 ?_,by simp[qO];omega⟩
 simp only [if_neg c0,if_neg c1,if_neg c2,if_neg c3,if_neg c4]
 exact Ev.val rfl
theorem Lp (s:List Int) (hs:vL s) (hl:s.length<=2000) (p:Int) (h0:0<=p) (h1:p<=60000):
  ∃r,Ev (fun k=>zK.f k s p) r/\qO (-1) 9 50 60 p r:=by
 obtain⟨⟨n,E,q⟩,r1,r2⟩:=Mi s hs hl p h0 h1
 simp only [qO]at r2
 obtain⟨v,v1,v2,v3⟩:=uf s hs hl q 12 (by omega) (by omega)
 unfold zK.f
 by_cases c:v=0
 ·obtain⟨r,s1,s2⟩:=Po s hs hl (q+1) n E (by omega) (by omega) (by omega) (by omega) (by omega)
  refine⟨r,Ev.bind r1 (Ev.bind v1 ?_),by unfold qO at*;omega⟩
  simp only [if_pos c]
  exact Ev.bind s1 (Ev.val rfl)
 refine⟨(n,E,q+1),Ev.bind r1 (Ev.bind v1 ?_),by simp[qO];omega⟩
 simp only [if_neg c]
 exact Ev.val rfl
theorem NY (n v:Int) (E:List S59) (hE:(E.length:Int)<big) (h8:n<=8):∀ (d:Nat) (i:Int),0<=i->i+d=n->
  Ev (fun k=>sH.l0 k v ((qR i).filter fun j=>decide (oD v j∈E)) i n E) (next n E v):=by
 intro d
 induction d with
 |zero=>
  intro i h0 hi
  have hi':i=n:=by omega
  subst hi'
  have c:¬i<i:=by omega
  refine Ev.step (fun k=>by simp only [sH.l0,c,if_false]<;>exact rfl) ?_
  exact Ev.val rfl
 |succ d ih=>
  intro i h0 hi
  have c:i<n:=by omega
  have w:wrap64 (i+1)=i+1:=w64 (by omega) (by omega)
  have hl:((qR i).filter fun j=>decide (oD v j∈E)).length<17592186044416:=by
   have:=List.length_filter_le (fun j=>decide (oD v j∈E)) (qR i)
   rw[vZ]at this
   omega
  refine Ev.step (fun k=>by simp only [sH.l0,c,if_true,w,hl]<;>exact rfl) ?_
  refine Ev.bind (I8 n v i E hE) ?_
  have e:=ih (i+1) (by omega) (by omega)
  rw[Fp h0,List.filter_append]at e
  by_cases d:oD v i∈E
  ·simp only [d,decide_true,if_true]
   simpa [d] using e
  simp only [d,decide_false,Bool.false_eq_true,if_false]
  simpa [d] using e
theorem Bq (n v:Int) (E:List S59) (hE:ok n E):Ev (fun k=>sH.f k n E v) (next n E v):=by
 unfold sH.f
 have hb:(E.length:Int)<big:=by have:=uA hE;unfold big;omega
 exact NY n v E hb hE.2.1 n.toNat 0 (by omega) (by have:=hE.1;omega)
def cnt (f:List Bool):Nat:=(f.filter fun b=> !b).length
theorem JF {f:List Bool}{u v:Int}(hu:0<=u) (hu2:u<(f.length:Int)) (hv:0<=v):qp false (f.set u.toNat true) v=if u=v then true else qp false f v:=by
 unfold qp
 rw[List.getD_eq_getElem?_getD,List.getD_eq_getElem?_getD,List.getElem?_set]
 by_cases c:u=v
 ·subst c
  rw[if_pos rfl,if_pos (by omega),if_pos rfl];rfl
 rw[if_neg (by omega),if_neg c]
theorem Fe:∀ {f:List Bool}{i:Nat},f.getD i false=false->i<f.length->cnt (f.set i true)+1=cnt f
 |[],i,_,h=>absurd h (Nat.not_lt_zero _)
 |b::f,0,h,_=>by
  have:b=false:=h
  subst this
  simp[cnt]
 |b::f,i+1,h,hl=>by
  have hl':i<f.length:=by simpa using hl
  have ih:=Fe (f:=f) (i:=i) (by simpa using h) hl'
  unfold cnt at*
  rw[List.set_cons_succ]
  cases b<;>simp at ih⊢<;>omega
structure Inv (n:Int) (E:List Tie) (a:Int) (f:List Bool) (q:List Int) (at_:Int->Prop):Prop where
 len:(f.length:Int)=n
 start:qp false f a=true
 conn:∀v,0<=v->v<n->qp false f v=true->qm E a v
 queue:∀x∈q,0<=x/\x<n/\qp false f x=true
 done:∀v,0<=v->v<n->qp false f v=true->v∈q\/at_ v\/∀w,oD v w∈E->qp false f w=true
theorem OT (n:Int) (E:List S59) (a:Int) (c:Int) (hE:∀t∈E,inr n t) (hc:0<=c/\c<n) (hca:qm E a c):∀ (suf p:List Int) (f:List Bool) (q:List Int),
  ((p++suf).length:Int)<big->(∀x∈suf,oD c x∈E)->q.length+cnt f<=1000->Inv n E a f q (fun v=>v=c)->
  ∃f' q',Inv n E a f' q' (fun v=>v=c)/\(∀x∈suf,qp false f' x=true)/\(∀x,0<=x->qp false f x=true->qp false f' x=true)/\q'.length+cnt f'=q.length+cnt f/\cnt f'<=cnt f/\
   ∀r,Ev (fun k=>rJ.l0 k f' q' n E) r->Ev (fun k=>rJ.l1 k f q (p++suf) (p.length:Int) n E) r:=by
 intro suf
 induction suf with
 |nil=>
  intro p f q hb hs hm hI
  refine⟨f,q,hI,by simp,fun x _ h=>h,rfl,Nat.le_refl _,fun r hr=>?_⟩
  refine Ev.step (fun k=>by simp only [rJ.l1,sP,if_false]<;>exact rfl) hr
 |cons t suf ih=>
  intro p f q hb hs hm hI
  have hp:(p.length:Int)<big:=sV hb
  have ht:oD c t∈E:=hs t (List.mem_cons_self)
  have htr:=(vH (hE _ ht)).2.1
  have b1:0<=t:=htr.1
  have b2:t<(f.length:Int):=by rw[hI.len];exact htr.2
  by_cases d:qp false f t=true
  ·obtain⟨f',q',h1,h2,h3,h4,h5,h6⟩:=ih (p++[t]) f q (wG hb) (fun x hx=>hs x (List.mem_cons_of_mem _ hx)) hm hI
   refine⟨f',q',h1,fun x hx=>?_,h3,h4,h5,fun r hr=>?_⟩
   ·rcases List.mem_cons.1 hx with rfl|hx
    ·exact h3 _ b1 d
    exact h2 x hx
   refine Ev.step (fun k=>by simp only [rJ.l1,qi,nn,if_true,rY,qU (t:=t) hp,b1,b2,d]<;>exact rfl) ?_
   rw[qw p t suf]
   exact h6 r hr
  have d':qp false f t=false:=by simpa using d
  have hcnt:=Fe (f:=f) (i:=t.toNat) d' (by omega)
  have hq:q.length<17592186044416:=by omega
  have hset:∀v,0<=v->qp false (f.set t.toNat true) v=if t=v then true else qp false f v:=fun v hv=>JF b1 b2 hv
  have hI':Inv n E a (f.set t.toNat true) (q++[t]) (fun v=>v=c):=by
   refine⟨by rw[List.length_set];exact hI.len,?_,?_,?_,?_⟩
   ·by_cases ha:0<=a
    ·rw[hset a ha,hI.start];simp
    have h0:=hI.start
    unfold qp at h0⊢
    rw[List.getD_eq_getElem?_getD]at h0⊢
    rw[List.getElem?_set]
    split
    ·split<;>simp_all
    exact h0
   ·intro v h0 h1 hv
    rw[hset v h0]at hv
    by_cases e:t=v
    ·subst e;exact hca.step ht
    rw[if_neg e]at hv;exact hI.conn v h0 h1 hv
   ·intro x hx
    rcases List.mem_append.1 hx with hx|hx
    ·obtain⟨x0,x1,x2⟩:=hI.queue x hx
     exact⟨x0,x1,by rw[hset x x0,x2];simp⟩
    rw[List.mem_singleton]at hx
    subst hx
    exact⟨b1,htr.2,by rw[hset _ b1];simp⟩
   intro v h0 h1 hv
   rw[hset v h0]at hv
   by_cases e:t=v
   ·subst e;exact .inl (by simp)
   rw[if_neg e]at hv
   rcases hI.done v h0 h1 hv with h|h|h
   ·exact .inl (by simp[h])
   ·exact .inr (.inl h)
   refine .inr (.inr (fun w hw=>?_))
   rw[hset w (vH (hE _ hw)).2.1.1,h w hw];simp
  obtain⟨f',q',h1,h2,h3,h4,h5,h6⟩:=ih (p++[t]) (f.set t.toNat true) (q++[t]) (wG hb) (fun x hx=>hs x (List.mem_cons_of_mem _ hx)) (by simp;omega) hI'
  refine⟨f',q',h1,fun x hx=>?_,fun x h0 hx=>h3 x h0 (by rw[hset x h0,hx];simp),by rw[h4];simp;omega,by omega,fun r hr=>?_⟩
  ·rcases List.mem_cons.1 hx with rfl|hx
   ·exact h3 _ b1 (by rw[hset _ b1];simp)
   exact h2 x hx
  refine Ev.step (fun k=>by simp only [rJ.l1,qi,nn,if_true,rY,qU (t:=t) hp,b1,b2,d',Bool.false_eq_true,if_false,hq]<;>exact rfl) ?_
  rw[qw p t suf]
  exact h6 r hr
theorem JJ (n:Int) (E:List S59) (a:Int) (hE:ok n E) (f:List Bool) (hI:Inv n E a f [] (fun _=>False)):
  ∃f',Ev (fun k=>rJ.l0 k f [] n E) f'/\(f'.length:Int)=n/\∀v,0<=v->v<n->(qp false f' v=true↔qm E a v):=by
 refine⟨f,Ev.step (fun k=>by simp[rJ.l0]<;>exact rfl) (Ev.val rfl),hI.len,fun v h0 h1=>⟨hI.conn v h0 h1,fun hc=>?_⟩⟩
 have key:0<=v/\v<n/\qp false f v=true:=by
  refine hc.closed (fun x=>0<=x/\x<n/\qp false f x=true) ?_ ?_
  ·have:=hc.symm.range hE.2.2.1 ⟨h0,h1⟩
   exact⟨this.1,this.2,hI.start⟩
  intro x y hx ht
  have:=(vH (hE.2.2.1 _ ht)).2.1
  rcases hI.done x hx.1 hx.2.1 hx.2.2 with h|h|h
  ·simp at h
  ·exact h.elim
  exact⟨this.1,this.2,h y ht⟩
 exact key.2.2
theorem OQ (n:Int) (E:List S59) (a:Int) (hE:ok n E):∀ (m:Nat) (f:List Bool) (q:List Int),2*cnt f+q.length<=m->m<=1000->Inv n E a f q (fun _=>False)->
  ∃f',Ev (fun k=>rJ.l0 k f q n E) f'/\(f'.length:Int)=n/\∀v,0<=v->v<n->(qp false f' v=true↔qm E a v):=by
 intro m
 induction m with
 |zero=>
  intro f q h1 h2 hI
  have:q=[]:=List.length_eq_zero_iff.1 (by omega)
  subst this
  exact JJ n E a hE f hI
 |succ m ih=>
  intro f q h1 h2 hI
  cases q with
  |nil=>exact JJ n E a hE f hI
  |cons c q=>
   have hc:=hI.queue c (List.mem_cons_self)
   have hcc:=hI.conn c hc.1 hc.2.1 hc.2.2
   have hI1:Inv n E a f q (fun v=>v=c):=by
    refine⟨hI.len,hI.start,hI.conn,fun x hx=>hI.queue x (List.mem_cons_of_mem _ hx),fun v h0 h1 hv=>?_⟩
    rcases hI.done v h0 h1 hv with h|h|h
    ·rcases List.mem_cons.1 h with rfl|h
     ·exact .inr (.inl rfl)
     exact .inl h
    ·exact h.elim
    exact .inr (.inr h)
   have hlen:(((next n E c)).length:Int)<big:=by
    have:=List.length_filter_le (fun i=>decide (oD c i∈E)) (qR n)
    have e:=vZ n
    have h8:=hE.2.1
    unfold big;unfold next;omega
   simp only [List.length_cons]at h1
   obtain⟨f',q',i1,i2,i3,i4,i5,i6⟩:=OT n E a c hE.2.2.1 ⟨hc.1,hc.2.1⟩ hcc (next n E c) [] f q hlen (fun x hx=>(xI hE.2.2.1).1 hx) (by omega) hI1
   have hI2:Inv n E a f' q' (fun _=>False):=by
    refine⟨i1.len,i1.start,i1.conn,i1.queue,fun v h0 h1 hv=>?_⟩
    rcases i1.done v h0 h1 hv with h|h|h
    ·exact .inl h
    ·refine .inr (.inr (fun w hw=>?_))
     subst h
     exact i2 w ((xI hE.2.2.1).2 hw)
    exact .inr (.inr h)
   obtain⟨f2,j1,j2⟩:=ih f' q' (by omega) (by omega) hI2
   refine⟨f2,?_,j2⟩
   have g1:((c::q).length:Int)>0:=by rw[List.length_cons];omega
   have g2:(0:Int)<((c::q).length:Int):=g1
   have g3:(1:Int)<=((c::q).length:Int):=by omega
   have g4:rd (c::q) 0=c:=rfl
   have g5:(c::q).drop ((1:Int)).toNat=q:=rfl
   refine Ev.step (fun k=>by simp only [rJ.l0,g1,g2,g3,g4,g5,if_true]<;>exact rfl) ?_
   refine Ev.bind (Bq n c E hE) ?_
   exact i6 f2 j1
theorem OP (n:Int) (E:List S59) (a:Int) (hE:ok n E) (h0:0<=a) (h1:a<n):
  ∃f,Ev (fun k=>rJ.f k n E a) f/\(f.length:Int)=n/\∀v,0<=v->v<n->(qp false f v=true↔qm E a v):=by
 have h8:=hE.2.1
 have hb:(E.length:Int)<big:=by have:=uA hE;unfold big;omega
 have hn:n.toNat<=281474976710656:=by omega
 have hl:((List.replicate n.toNat false).length:Int)=n:=by rw[List.length_replicate];omega
 have hcnt:cnt (List.replicate n.toNat false)=n.toNat:=by simp[cnt]
 have hrep:∀v:Int,qp false (List.replicate n.toNat false) v=false:=fun v=>by
  unfold qp
  rw[List.getD_eq_getElem?_getD,List.getElem?_replicate]
  split<;>rfl
 have hs:=Fe (f:=List.replicate n.toNat false) (i:=a.toNat) (hrep a) (by omega)
 have hset:∀v,0<=v->qp false ((List.replicate n.toNat false).set a.toNat true) v=if a=v then true else false:=fun v hv=>by
  rw[JF h0 (by omega) hv,hrep]
 have hI:Inv n E a ((List.replicate n.toNat false).set a.toNat true) [a] (fun _=>False):=by
  refine⟨by rw[List.length_set];exact hl,by rw[hset a h0];simp,?_,?_,?_⟩
  ·intro v v0 v1 hv
   rw[hset v v0]at hv
   by_cases e:a=v
   ·subst e;exact .refl _
   rw[if_neg e]at hv;simp at hv
  ·intro x hx
   rw[List.mem_singleton]at hx
   subst hx
   exact⟨h0,h1,by rw[hset _ h0];simp⟩
  intro v v0 v1 hv
  rw[hset v v0]at hv
  by_cases e:a=v
  ·subst e;exact .inl (by simp)
  rw[if_neg e]at hv;simp at hv
 obtain⟨f,r1,r2⟩:=OQ n E a hE 100 _ [a] (by simp only [List.length_singleton];omega) (by omega) hI
 refine⟨f,?_,r2⟩
 unfold rJ.f
 refine Ev.bind (wF n a E hb) ?_
 have c:ok n E/\0<=a/\a<n:=⟨hE,h0,h1⟩
 have l2:a<((List.replicate n.toNat false).length:Int):=by omega
 simp only [c,and_self,decide_true,if_true,hE.1,hn,Option.bind_some,h0,l2]
 exact r1
theorem xm (pre:List S59) (t:S59) (suf:List S59):nk (pre++t::suf) (pre.length:Int)=t:=by
 unfold nk;exact zA pre t suf _
theorem J6 (a b:Int) (t:Tie):(a==t.f0&&(b==t.f1))=decide ((⟨a,b⟩:Tie)=t):=by
 obtain⟨c,d⟩:=t
 simp only [Tie.mk.injEq]
 by_cases h:a=c<;>by_cases k:b=d<;>simp[h,k]
theorem M_ (a b:Int):∀ (suf p:List S59),((p++suf).length:Int)<big->
  ∃r,Ev (fun k=>tu.l0 k (p++suf) ((p++suf).length:Int) (p.length:Int) a b) r/\(r>=0↔(⟨a,b⟩:Tie)∈suf):=by
 intro suf
 induction suf with
 |nil=>
  intro p hb
  refine⟨-1,Ev.step (fun k=>by simp only [tu.l0,sP,if_false]<;>exact rfl) (Ev.val rfl),by simp⟩
 |cons t suf ih=>
  intro p hb
  have hp:(p.length:Int)<big:=sV hb
  by_cases c:(⟨a,b⟩:Tie)=t
  ·refine⟨p.length,?_,?_⟩
   ·refine Ev.step (fun k=>by simp only [tu.l0,qi,nn,if_true,xm,qU (t:=t) hp,J6,decide_eq_true_eq,if_pos c]<;>exact rfl) ?_
    exact Ev.val rfl
   simp[c]
  obtain⟨r,hr,hi⟩:=ih (p++[t]) (wG hb)
  refine⟨r,?_,?_⟩
  ·refine Ev.step (fun k=>by simp only [tu.l0,qi,nn,if_true,xm,qU (t:=t) hp,J6,decide_eq_true_eq,if_neg c]<;>exact rfl) ?_
   rw[qw p t suf]
   exact hr
  rw[hi];simp[c]
theorem Iy (E:List S59) (a b:Int) (hb:(E.length:Int)<big):Ev (fun k=>v_.f k E a b) (decide ((⟨a,b⟩:Tie)∈E)):=by
 unfold v_.f tu.f
 obtain⟨r,hr,hi⟩:=M_ a b E [] hb
 refine Ev.bind hr (Ev.val ?_)
 exact congrArg some (decide_eq_decide.2 hi)
theorem I7 (n a:Int) (E:List S59):xP.f n E a=some (decide (0<=a/\a<n)):=by
 unfold xP.f
 by_cases h:0<=a<;>simp[h]
theorem FW (a b:Int):vS.f a b=some ((oD a b).f0,(oD a b).f1):=by
 unfold vS.f oD mn mx
 rcases Int.lt_trichotomy a b with h|h|h
 ·simp[h];omega
 ·subst h;simp
 have:¬a<b:=by omega
 simp[this,h]
theorem I1 (n a b:Int) (E:List S59) (hE:(E.length:Int)<big):Ev (fun k=>vC.f k n E a b) (decide (oD a b∈E)):=by
 unfold vC.f
 simp only [FW,Option.bind_some]
 exact Ev.bind (Iy E _ _ hE) (Ev.val rfl)
def less (X gone:List Tie):List Tie:=X.filter fun s=> !decide (s∈gone)
theorem Nz (X:List Tie) (t:Tie):less X [t]=cut X t:=by
 unfold less cut
 refine List.filter_congr (fun s _=>?_)
 simp
theorem Ny (n m:Int) (gone:List S59) (hg:(gone.length:Int)<big):∀ (suf p q:List S59),((p++suf).length:Int)<=1048576->q.length<=p.length->
  Ev (fun k=>uF.l0 k gone (p++suf) ((p++suf).length:Int) (p.length:Int) m q) (m,q++less suf gone):=by
 intro suf
 induction suf with
 |nil=>
  intro p q hb hq
  refine Ev.step (fun k=>by simp only [uF.l0,sP,if_false]<;>exact rfl) ?_
  exact Ev.val (by simp[less])
 |cons t suf ih=>
  intro p q hb hq
  have hb':((p++t::suf).length:Int)<big:=by unfold big;omega
  have hp:(p.length:Int)<big:=sV hb'
  have hq8:q.length<8796093022208:=by rw[List.length_append]at hb;omega
  refine Ev.step (fun k=>by simp only [uF.l0,qi,nn,if_true,xm,qU (t:=t) hp,hq8]<;>exact rfl) ?_
  refine Ev.bind (Iy gone _ _ hg) ?_
  by_cases c:t∈gone
  ·have c':(⟨t.f0,t.f1⟩:Tie)∈gone:=c
   simp only [c',decide_true,if_true]
   rw[qw p t suf]
   refine Ev.eq (ih (p++[t]) q (by rw[←qw];exact hb) (by simp;omega)) ?_
   simp[less,c]
  have c':¬ (⟨t.f0,t.f1⟩:Tie)∈gone:=c
  simp only [c',decide_false,Bool.false_eq_true,if_false]
  rw[qw p t suf]
  refine Ev.eq (ih (p++[t]) (q++[t]) (by rw[←qw];exact hb) (by simp;omega)) ?_
  simp[less,c]
theorem Nw (n:Int) (E gone:List S59) (hE:(E.length:Int)<=1048576) (hg:(gone.length:Int)<big):Ev (fun k=>uF.f k n E gone) (n,less E gone):=by
 unfold uF.f
 exact Ny n n gone hg E [] [] hE (Nat.le_refl _)
theorem Nv (n:Int) (E:List S59) (t:Tie) (hE:(E.length:Int)<=1048576):Ev (fun k=>uF.f k n E [t]) (n,cut E t):=by
 rw[←Nz]
 exact Nw n E [t] hE (by unfold big;simp)
end Go.Proofs.Ytgeonpciodepgaa.P
namespace Go.Proofs.Ytgeonpciodepgaa.G
open Go.RowKit Go.Proofs.YtgeonpciodepgaaW.PrintWords
theorem Bw {f:List Int}{u v x:Int}(hu:0<=u) (hu2:u<(f.length:Int)) (hv:0<=v):rd (f.set u.toNat x) v=if u=v then x else rd f v:=by
 unfold rd
 rw[List.getD_eq_getElem?_getD,List.getD_eq_getElem?_getD,List.getElem?_set]
 by_cases c:u=v
 ·subst c
  rw[if_pos rfl,if_pos (by omega),if_pos rfl];rfl
 rw[if_neg (by omega),if_neg c]
def tot (f:List Int):Nat:=(f.map Int.toNat).sum
theorem F4:∀ {f:List Int}{i:Nat}{x:Int},i<f.length->0<=x->0<=f.getD i 0->(tot (f.set i x):Int)=tot f - f.getD i 0+x
 |[],i,_,h,_,_=>absurd h (Nat.not_lt_zero _)
 |b::f,0,x,h,hx,hb=>by
  have hb':0<=b:=hb
  simp[tot]
  omega
 |b::f,i+1,x,h,hx,hb=>by
  have ih:=F4 (f:=f) (i:=i) (x:=x) (by simpa using h) hx (by simpa using hb)
  rw[List.set_cons_succ]
  simp[tot]at ih⊢
  omega
structure Lab (n:Int) (E:List Tie) (f:List Int):Prop where
 len:(f.length:Int)=n
 low:∀v,0<=v->v<n->0<=rd f v/\rd f v<=v
 conn:∀v,0<=v->v<n->qm E v (rd f v)
structure Parts (n:Int) (E:List Tie) (f:List Int):Prop where
 len:(f.length:Int)=n
 low:∀v,0<=v->v<n->0<=rd f v/\rd f v<=v
 conn:∀v,0<=v->v<n->qm E v (rd f v)
 same:∀u v,0<=u->u<n->0<=v->v<n->qm E u v->rd f u=rd f v
theorem Lab.parts {n:Int}{E:List Tie}{f:List Int}(h:Lab n E f) (hE:∀t∈E,inr n t) (he:∀t∈E,rd f t.f0=rd f t.f1):Parts n E f:=by
 refine⟨h.len,h.low,h.conn,fun u v hu hu1 hv hv1 hc=>?_⟩
 refine hc.closed (fun x=>rd f u=rd f x) rfl (fun x y hx ht=>?_)
 have hr:=hE _ ht
 have e:=he _ ht
 rw[hx]
 unfold oD at e
 by_cases c:x<y
 ·rw[if_pos c]at e;exact e
 rw[if_neg c]at e;exact e.symm
end Go.Proofs.Ytgeonpciodepgaa.G
namespace Go.Proofs.Ytgeonpciodepgaa.P
open Go.RowKit Go.Proofs.YtgeonpciodepgaaW.PrintWords Go.Proofs.Ytgeonpciodepgaa.G Go.Proofs.YtgeonpciodepgaaW.PrintWords.Kd
theorem NS (a b:Int):mn a b=if b<a then b else a:=rfl
theorem Jz (n:Int) (E:List S59) (hE:ok n E):∀ (suf p:List S59) (f:List Int) (b:Bool),p++suf=E->Lab n E f->
  ∃f' b',Lab n E f'/\tot f'<=tot f/\(b'=false->b=false/\f'=f/\∀t∈suf,rd f t.f0=rd f t.f1)/\(b'=true->b=true\/tot f'<tot f)/\
   ∀r,Ev (fun k=>pX.l1 k f' b' n E) r->Ev (fun k=>pX.l2 k f b (p++suf) ((p++suf).length:Int) (p.length:Int) n E) r:=by
 intro suf
 have hEb:(E.length:Int)<big:=by have:=uA hE;unfold big;omega
 induction suf with
 |nil=>
  intro p f b he hL
  refine⟨f,b,hL,Nat.le_refl _,fun h=>⟨h,rfl,by simp⟩,fun h=> .inl h,fun r hr=>?_⟩
  refine Ev.step (fun k=>by simp only [pX.l2,sP,if_false]<;>exact rfl) hr
 |cons t suf ih=>
  intro p f b he hL
  have hp:(p.length:Int)<big:=sV (by rw[he];exact hEb)
  have ht:t∈E:=by rw[←he];simp
  have hr:=hE.2.2.1 t ht
  unfold inr at hr
  have b1:0<=t.f0:=hr.1
  have b2:t.f0<(f.length:Int):=by rw[hL.len];omega
  have b3:0<=t.f1:=by omega
  have b4:t.f1<(f.length:Int):=by rw[hL.len];omega
  by_cases c:rd f t.f0=rd f t.f1
  ·obtain⟨f',b',h1,h2,h3,h4,h5⟩:=ih (p++[t]) f b (by rw[←he];simp) hL
   refine⟨f',b',h1,h2,fun e=>?_,h4,fun r hr=>?_⟩
   ·obtain⟨x,y,z⟩:=h3 e
    refine⟨x,y,fun s hs=>?_⟩
    rcases List.mem_cons.1 hs with rfl|hs
    ·exact c
    exact z s hs
   refine Ev.step (fun k=>by simp only [pX.l2,qi,nn,if_true,xm,qU (t:=t) hp,b1,b2,b3,b4,if_pos c]<;>exact rfl) ?_
   rw[qw p t suf]
   exact h5 r hr
  have lo0:=hL.low t.f0 b1 (by omega)
  have lo1:=hL.low t.f1 b3 (by omega)
  have hm:0<=mn (rd f t.f0) (rd f t.f1)/\mn (rd f t.f0) (rd f t.f1)<=rd f t.f0/\mn (rd f t.f0) (rd f t.f1)<=rd f t.f1/\(mn (rd f t.f0) (rd f t.f1)=rd f t.f0\/mn (rd f t.f0) (rd f t.f1)=rd f t.f1):=by
   rw[NS];split<;>omega
  generalize hg:mn (rd f t.f0) (rd f t.f1)=m at hm
  have hs:∀v,0<=v->rd ((f.set t.f0.toNat m).set t.f1.toNat m) v=if t.f1=v then m else if t.f0=v then m else rd f v:=fun v hv=>by
   rw[Bw b3 (by rw[List.length_set];exact b4) hv,Bw b1 b2 hv]
  have hconn01:qm E t.f0 t.f1:=qm.tie ht hr.2.1
  have hc0:=hL.conn t.f0 b1 (by omega)
  have hc1:=hL.conn t.f1 b3 (by omega)
  have hcm:qm E t.f0 m/\qm E t.f1 m:=by
   rcases hm.2.2.2 with e|e
   ·rw[e];exact⟨hc0,hconn01.symm.trans hc0⟩
   rw[e];exact⟨hconn01.trans hc1,hc1⟩
  have hL':Lab n E ((f.set t.f0.toNat m).set t.f1.toNat m):=by
   refine⟨by rw[List.length_set,List.length_set];exact hL.len,fun v h0 h1=>?_,fun v h0 h1=>?_⟩
   ·rw[hs v h0]
    have:=hL.low v h0 h1
    split
    ·subst_vars;omega
    split
    ·subst_vars;omega
    exact this
   rw[hs v h0]
   split
   ·subst_vars;exact hcm.2
   split
   ·subst_vars;exact hcm.1
   exact hL.conn v h0 h1
  have t0:(tot (f.set t.f0.toNat m):Int)=tot f - rd f t.f0+m:=F4 (by omega) hm.1 lo0.1
  have e1:(f.set t.f0.toNat m).getD t.f1.toNat 0=rd f t.f1:=by
   have:=Bw (f:=f) (u:=t.f0) (v:=t.f1) (x:=m) b1 b2 b3
   rw[if_neg (by omega)]at this
   exact this
  have t1:(tot ((f.set t.f0.toNat m).set t.f1.toNat m):Int)=tot (f.set t.f0.toNat m) - rd f t.f1+m:=by
   have:=F4 (f:=f.set t.f0.toNat m) (i:=t.f1.toNat) (x:=m) (by rw[List.length_set];omega) hm.1 (by rw[e1];exact lo1.1)
   rw[e1]at this
   exact this
  have hlt:tot ((f.set t.f0.toNat m).set t.f1.toNat m)<tot f:=by omega
  obtain⟨f',b',h1,h2,h3,h4,h5⟩:=ih (p++[t]) ((f.set t.f0.toNat m).set t.f1.toNat m) true (by rw[←he];simp) hL'
  refine⟨f',b',h1,by omega,fun e=>?_,fun _=> .inr (by omega),fun r hr=>?_⟩
  ·have:=(h3 e).1
   simp at this
  refine Ev.step (fun k=>by simp only [pX.l2,qi,nn,if_true,xm,qU (t:=t) hp,b1,b2,b3,b4,if_neg c,hg]<;>exact rfl) ?_
  rw[qw p t suf]
  exact h5 r hr
theorem Ow (n:Int) (E:List S59) (hE:ok n E):∀ (m:Nat) (f:List Int),tot f<=m->Lab n E f->∃f',Ev (fun k=>pX.l1 k f true n E) f'/\Parts n E f':=by
 intro m
 induction m with
 |zero=>
  intro f hm hL
  obtain⟨f',b',h1,h2,h3,h4,h5⟩:=Jz n E hE E [] f false rfl hL
  cases b' with
  |true=>
   rcases h4 rfl with h|h
   ·simp at h
   omega
  |false=>
   obtain⟨_,rfl,h⟩:=h3 rfl
   refine⟨f',?_,h1.parts hE.2.2.1 h⟩
   refine Ev.step (fun k=>by simp only [pX.l1,if_true]<;>exact rfl) ?_
   refine h5 f' ?_
   refine Ev.step (fun k=>by simp only [pX.l1,Bool.false_eq_true,if_false]<;>exact rfl) ?_
   exact Ev.val rfl
 |succ m ih=>
  intro f hm hL
  obtain⟨f',b',h1,h2,h3,h4,h5⟩:=Jz n E hE E [] f false rfl hL
  cases b' with
  |true=>
   rcases h4 rfl with h|h
   ·simp at h
   obtain⟨f2,e2,p2⟩:=ih f' (by omega) h1
   refine⟨f2,?_,p2⟩
   refine Ev.step (fun k=>by simp only [pX.l1,if_true]<;>exact rfl) ?_
   exact h5 f2 e2
  |false=>
   obtain⟨_,rfl,h⟩:=h3 rfl
   refine⟨f',?_,h1.parts hE.2.2.1 h⟩
   refine Ev.step (fun k=>by simp only [pX.l1,if_true]<;>exact rfl) ?_
   refine h5 f' ?_
   refine Ev.step (fun k=>by simp only [pX.l1,Bool.false_eq_true,if_false]<;>exact rfl) ?_
   exact Ev.val rfl
theorem JG {n v:Int}(h0:0<=v) (h1:v<n):rd (qR n) v=v:=by
 unfold rd qR
 rw[List.getD_eq_getElem?_getD,List.getElem?_map,List.getElem?_range (by omega)]
 simp[Int.toNat_of_nonneg h0]
theorem Ov (n:Int) (E:List S59) (h8:n<=8):∀ (d:Nat) (i:Int),0<=i->i+d=n->∀r,Ev (fun k=>pX.l1 k (qR n) true n E) r->
  Ev (fun k=>pX.l0 k (qR i) n i n E) r:=by
 intro d
 induction d with
 |zero=>
  intro i h0 hi r hr
  have hi':i=n:=by omega
  subst hi'
  have c:¬i<i:=by omega
  exact Ev.step (fun k=>by simp only [pX.l0,c,if_false]<;>exact rfl) hr
 |succ d ih=>
  intro i h0 hi r hr
  have c:i<n:=by omega
  have w:wrap64 (i+1)=i+1:=w64 (by omega) (by omega)
  have hl:(qR i).length<17592186044416:=by rw[vZ];omega
  refine Ev.step (fun k=>by simp only [pX.l0,c,if_true,w,hl,←Fp h0]<;>exact rfl) ?_
  exact ih (i+1) (by omega) (by omega) r hr
theorem Ou (n:Int) (E:List S59) (hE:ok n E):∃f,Ev (fun k=>pX.f k n E) f/\Parts n E f:=by
 have hL:Lab n E (qR n):=by
  have h0:=hE.1
  refine⟨by rw[vZ];omega,fun v h0 h1=>?_,fun v h0 h1=>?_⟩
  ·rw[JG h0 h1];exact⟨h0,Int.le_refl _⟩
  rw[JG h0 h1];exact .refl _
 obtain⟨f,h1,h2⟩:=Ow n E hE _ (qR n) (Nat.le_refl _) hL
 refine⟨f,?_,h2⟩
 unfold pX.f
 have h0:=hE.1
 exact Ov n E hE.2.1 n.toNat 0 (Int.le_refl 0) (by omega) f h1
def PL (n:Int) (E:List Tie) (a:List Int):Prop:=∀v,0<=v->v<(a.length:Int)->0<=rd a v/\rd a v<=v/\qm E v (rd a v)/\∀u,0<=u->u<n->qm E v u->rd a v<=u
theorem OO {a:List Int}{x v:Int}(h0:0<=v) (h1:v<(a.length:Int)):rd (a++[x]) v=rd a v:=by
 unfold rd
 rw[List.getD_eq_getElem?_getD,List.getD_eq_getElem?_getD,List.getElem?_append_left (by omega)]
theorem OM (a:List Int) (x:Int):rd (a++[x]) (a.length:Int)=x:=rY a x []
theorem PL.parts {n:Int}{E:List Tie}{a:List Int}(h:PL n E a) (hl:(a.length:Int)=n):Parts n E a where
 len:=hl
 low:=fun v h0 h1=>⟨(h v h0 (by omega)).1,(h v h0 (by omega)).2.1⟩
 conn:=fun v h0 h1=>(h v h0 (by omega)).2.2.1
 same:=fun u v u0 u1 v0 v1 c=>by
  obtain⟨a1,a2,a3,a4⟩:=h u u0 (by omega)
  obtain⟨b1,b2,b3,b4⟩:=h v v0 (by omega)
  have:=a4 _ b1 (by omega) (c.trans b3)
  have:=b4 _ a1 (by omega) (c.symm.trans a3)
  omega
theorem P7 (n i:Int) (E:List S59) (f:List Bool) (hf:(f.length:Int)=n) (h8:n<=8) (hfc:∀v,0<=v->v<n->(qp false f v=true↔qm E i v)) (i0:0<=i) (i1:i<n) (a:List Int) (hal:(a.length:Int)=i):
  ∀ (d:Nat) (v:Int),0<=v->v+d=i->(∀u,0<=u->u<v->¬qm E i u)->∃x,0<=x/\x<=i/\qm E i x/\(∀u,0<=u->u<x->¬qm E i u)/\
   ∀r,Ev (fun k=>sF.l0 k (a++[x]) (i+1) n E) r->Ev (fun k=>sF.l1 k a i f v n E) r:=by
 intro d
 have wi:wrap64 (i+1)=i+1:=w64 (by omega) (by omega)
 have al:a.length<17592186044416:=by omega
 induction d with
 |zero=>
  intro v h0 hd hu
  obtain rfl:v=i:=by omega
  have c:qp false f v=true:=(hfc v h0 i1).2 (.refl _)
  refine⟨v,h0,Int.le_refl _,.refl _,hu,fun r hr=>?_⟩
  have f1:v<(f.length:Int):=by omega
  refine Ev.step (fun k=>by simp only [sF.l1,if_pos h0,if_pos f1,if_pos c,if_pos al,wi]<;>exact rfl) hr
 |succ d ih=>
  intro v h0 hd hu
  have f1:v<(f.length:Int):=by omega
  have wv:wrap64 (v+1)=v+1:=w64 (by omega) (by omega)
  by_cases c:qp false f v=true
  ·refine⟨v,h0,by omega,(hfc v h0 (by omega)).1 c,hu,fun r hr=>?_⟩
   refine Ev.step (fun k=>by simp only [sF.l1,if_pos h0,if_pos f1,if_pos c,if_pos al,wi]<;>exact rfl) hr
  have nc:¬qm E i v:=fun q=>c ((hfc v h0 (by omega)).2 q)
  obtain⟨x,x0,x1,x2,x3,x4⟩:=ih (v+1) (by omega) (by omega) (fun u u0 u1=>by
   by_cases e:u=v
   ·subst e;exact nc
   exact hu u u0 (by omega))
  refine⟨x,x0,x1,x2,x3,fun r hr=>?_⟩
  refine Ev.step (fun k=>by simp only [sF.l1,if_pos h0,if_pos f1,if_neg c,wv]<;>exact rfl) (x4 r hr)
theorem P6 (n:Int) (E:List S59) (hE:ok n E):∀ (d:Nat) (i:Int) (a:List Int),0<=i->i+d=n->(a.length:Int)=i->PL n E a->
  ∃f,Ev (fun k=>sF.l0 k a i n E) f/\Parts n E f:=by
 intro d
 induction d with
 |zero=>
  intro i a h0 h hl hp
  obtain rfl:i=n:=by omega
  exact⟨a,Ev.step (fun k=>by simp only [sF.l0,if_neg (Int.lt_irrefl _)]<;>exact rfl) (Ev.val rfl),hp.parts hl⟩
 |succ d ih=>
  intro i a h0 h hl hp
  have c:i<n:=by omega
  obtain⟨fl,e1,e2,e3⟩:=OP n E i hE h0 c
  obtain⟨x,x0,x1,x2,x3,x4⟩:=P7 n i E fl e2 hE.2.1 e3 h0 c a hl i.toNat 0 (Int.le_refl _) (by omega) (fun u u0 u1=>by omega)
  obtain⟨f,f1,f2⟩:=ih (i+1) (a++[x]) (by omega) (by omega) (by simp;omega) (fun v v0 v1=>by
   by_cases e:v=i
   ·subst e
    have:rd (a++[x]) v=x:=by rw[←hl];exact OM a x
    rw[this]
    refine⟨x0,x1,x2,fun u u0 u1 cu=>?_⟩
    apply Classical.byContradiction
    intro q
    exact x3 u u0 (by omega) cu
   have v2:v<(a.length:Int):=by simp at v1;omega
   rw[OO v0 v2]
   exact hp v v0 v2)
  exact⟨f,Ev.step (fun k=>by simp only [sF.l0,if_pos c]<;>exact rfl) (Ev.bind e1 (x4 f f1)),f2⟩
theorem P5 (n:Int) (E:List S59) (hE:ok n E):∃f,Ev (fun k=>sF.f k n E) f/\Parts n E f:=by
 have h0:=hE.1
 obtain⟨f,a,b⟩:=P6 n E hE n.toNat 0 [] (Int.le_refl _) (by omega) rfl (fun v v0 v1=>by simp at v1;omega)
 refine⟨f,?_,b⟩
 unfold sF.f
 simp only [Option.bind_some]
 refine Ev.bind (yT n E (by have:=uA hE;unfold big;omega)) ?_
 simp only [decide_eq_true hE,if_true]
 exact a
theorem PD (s t:Tie):(!(s.f0==t.f0)||(!(s.f1==t.f1)))= !decide (s=t):=by
 obtain⟨a,b⟩:=s
 obtain⟨c,d⟩:=t
 simp only [Tie.mk.injEq]
 by_cases h:a=c<;>by_cases k:b=d<;>simp[h,k]
theorem Pi (n a b m:Int):∀ (suf p q:List S59),((p++suf).length:Int)<=1048576->q.length<=p.length->
  Ev (fun k=>qW.l0 k a b (p.length:Int) n (p++suf) m q) (m,q++cut suf (oD a b),true):=by
 intro suf
 induction suf with
 |nil=>
  intro p q hb hq
  refine Ev.step (fun k=>by simp only [qW.l0,sP,if_false]<;>exact rfl) ?_
  exact Ev.val (by simp[cut])
 |cons t suf ih=>
  intro p q hb hq
  have hb':((p++t::suf).length:Int)<big:=by unfold big;omega
  have hp:(p.length:Int)<big:=sV hb'
  have hq8:q.length<8796093022208:=by rw[List.length_append]at hb;omega
  refine Ev.step (fun k=>by simp only [qW.l0,qi,nn,if_true,Ak,qU (t:=t) hp,zD,Option.bind_some,PD,hq8]<;>exact rfl) ?_
  by_cases c:t=oD a b
  ·have c':(!decide (t=oD a b))=false:=by rw[decide_eq_true c];rfl
   simp only [c',Bool.false_eq_true,if_false]
   rw[qw p t suf]
   refine Ev.eq (ih (p++[t]) q (by rw[←qw];exact hb) (by simp;omega)) ?_
   simp[cut,c]
  have c':(!decide (t=oD a b))=true:=by rw[decide_eq_false c];rfl
  simp only [c',if_true]
  rw[qw p t suf]
  refine Ev.eq (ih (p++[t]) (q++[t]) (by rw[←qw];exact hb) (by simp;omega)) ?_
  simp[cut,c]
theorem BD (n a b:Int) (E:List S59) (hE:(E.length:Int)<=1048576):
  Ev (fun k=>qW.f k n E a b) (if ok n E/\oD a b∈E then(n,cut E (oD a b),true) else(0,[],false)):=by
 unfold qW.f
 refine Ev.bind (Dz n a b E (by unfold big;omega)) ?_
 by_cases c:ok n E/\oD a b∈E
 ·simp only [if_pos c]
  simp only [c,and_self,decide_true,if_true]
  exact Pi n a b n E [] [] hE (Nat.le_refl _)
 simp only [if_neg c]
 simp only [c,decide_false,Bool.false_eq_true,if_false]
 exact Ev.val rfl
theorem PR (f:List Int) (hf:(f.length:Int)<=8):∀ (d:Nat) (i c:Int),0<=i->i+d=f.length->∃r,Ev (fun k=>ug.l0 k f c i) r:=by
 intro d
 induction d with
 |zero=>
  intro i c h0 h
  have e:¬i<(f.length:Int):=by omega
  exact⟨c,Ev.step (fun k=>by simp only [ug.l0,if_neg e]<;>exact rfl) (Ev.val rfl)⟩
 |succ d ih=>
  intro i c h0 h
  have e:i<(f.length:Int):=by omega
  have w:wrap64 (i+1)=i+1:=w64 (by omega) (by omega)
  by_cases q:rd f i=i
  ·obtain⟨r,hr⟩:=ih (i+1) (wrap64 (c+1)) (by omega) (by omega)
   exact⟨r,Ev.step (fun k=>by simp only [ug.l0,if_pos e,if_pos h0,if_pos q,w]<;>exact rfl) hr⟩
  obtain⟨r,hr⟩:=ih (i+1) c (by omega) (by omega)
  exact⟨r,Ev.step (fun k=>by simp only [ug.l0,if_pos e,if_pos h0,if_neg q,w]<;>exact rfl) hr⟩
theorem F5 (n:Int) (E:List S59) (hE:ok n E):∃r,Ev (fun k=>ug.f k n E) r:=by
 obtain⟨f,f1,f2⟩:=P5 n E hE
 have hl:=f2.len
 have h8:=hE.2.1
 obtain⟨r,hr⟩:=PR f (by omega) f.length 0 0 (Int.le_refl _) (by omega)
 refine⟨r,?_⟩
 unfold ug.f
 refine Ev.bind (yT n E (by have:=uA hE;unfold big;omega)) ?_
 simp only [decide_eq_true hE,if_true]
 exact Ev.bind f1 hr
theorem LM (n a b:Int) (E:List S59) (hE:ok n E):∃r,Ev (fun k=>vk.f k n E a b) r:=by
 have hl:=uA hE
 unfold vk.f
 by_cases c:ok n E/\oD a b∈E
 ·obtain⟨x,hx⟩:=F5 n (cut E (oD a b)) (Ai _ hE)
  obtain⟨y,hy⟩:=F5 n E hE
  refine⟨decide (x>y),Ev.bind (BD n a b E (by omega)) ?_⟩
  simp only [if_pos c,if_true]
  exact Ev.bind hx (Ev.bind hy (Ev.val rfl))
 refine⟨false,Ev.bind (BD n a b E (by omega)) ?_⟩
 simp only [if_neg c,Bool.false_eq_true,if_false]
 exact Ev.val rfl
theorem LP (n:Int) (E:List S59) (hE:ok n E):∀ (suf p:List S59) (q:List S59),p++suf=E->q.length<=p.length->∃r,Ev (fun k=>sw.l0 k q (p.length:Int) n E) r:=by
 have hl:=uA hE
 intro suf
 induction suf with
 |nil=>
  intro p q e hq
  rw[List.append_nil]at e
  subst e
  have c:¬ (p.length:Int)<(p.length:Int):=by omega
  exact⟨q,Ev.step (fun k=>by simp only [sw.l0,if_neg c]<;>exact rfl) (Ev.val rfl)⟩
 |cons t suf ih=>
  intro p q e hq
  have c:(p.length:Int)<(E.length:Int):=by rw[←e];exact qi p t suf
  have w:wrap64 ((p.length:Int)+1)=((p++[t]).length:Int):=qU (by unfold big;omega)
  have q8:q.length<8796093022208:=by omega
  obtain⟨b,hb⟩:=LM n ((nk E (p.length:Int)).f0) ((nk E (p.length:Int)).f1) E hE
  cases b with
  |true=>
   obtain⟨r,hr⟩:=ih (p++[t]) (q++[⟨(nk E (p.length:Int)).f0,(nk E (p.length:Int)).f1⟩]) (by rw[←e];simp) (by simp;omega)
   refine⟨r,Ev.step (fun k=>by simp only [sw.l0,if_pos c,nn,if_true,w]<;>exact rfl) (Ev.bind hb ?_)⟩
   simp only [if_true,if_pos q8]
   exact hr
  |false=>
   obtain⟨r,hr⟩:=ih (p++[t]) q (by rw[←e];simp) (by simp;omega)
   refine⟨r,Ev.step (fun k=>by simp only [sw.l0,if_pos c,nn,if_true,w]<;>exact rfl) (Ev.bind hb ?_)⟩
   simp only [Bool.false_eq_true,if_false]
   exact hr
theorem LQ (n:Int) (E:List S59) (hE:ok n E):∃r,Ev (fun k=>sw.f k n E) r:=by
 obtain⟨r,hr⟩:=LP n E hE E [] [] rfl (Nat.le_refl _)
 refine⟨r,?_⟩
 unfold sw.f
 simp only [Option.bind_some]
 refine Ev.bind (yT n E (by have:=uA hE;unfold big;omega)) ?_
 simp only [decide_eq_true hE,if_true]
 exact hr
theorem PS (n a m:Int) (E:List S59) (hE:(E.length:Int)<=64):∀ (suf p:List S59) (q:List S59),p++suf=E->q.Sublist p->∃F,Ev (fun k=>sQ.l0 k a (p.length:Int) n E m q) (m,F)/\F.Sublist E:=by
 intro suf
 induction suf with
 |nil=>
  intro p q e hq
  rw[List.append_nil]at e
  subst e
  have c:¬ (p.length:Int)<(p.length:Int):=by omega
  exact⟨q,Ev.step (fun k=>by simp only [sQ.l0,if_neg c]<;>exact rfl) (Ev.val rfl),hq⟩
 |cons t suf ih=>
  intro p q e hq
  have c:(p.length:Int)<(E.length:Int):=by rw[←e];exact qi p t suf
  have w:wrap64 ((p.length:Int)+1)=((p++[t]).length:Int):=qU (by unfold big;omega)
  have q8:q.length<8796093022208:=by have:=hq.length_le;omega
  have rt:nk E (p.length:Int)=t:=by unfold nk;rw[←e];exact zA p t suf _
  have no:q.Sublist (p++[t]):=hq.trans (List.sublist_append_left _ _)
  by_cases c1:t.f0=a
  ·obtain⟨r,hr,hs⟩:=ih (p++[t]) q (by rw[←e];simp) no
   exact⟨r,Ev.step (fun k=>by simp only [sQ.l0,if_pos c,nn,if_true,w,rt,if_pos c1]<;>exact rfl) hr,hs⟩
  by_cases c2:t.f1=a
  ·obtain⟨r,hr,hs⟩:=ih (p++[t]) q (by rw[←e];simp) no
   exact⟨r,Ev.step (fun k=>by simp only [sQ.l0,if_pos c,nn,if_true,w,rt,if_neg c1,if_pos c2]<;>exact rfl) hr,hs⟩
  obtain⟨r,hr,hs⟩:=ih (p++[t]) (q++[⟨t.f0,t.f1⟩]) (by rw[←e];simp) (hq.append (List.Sublist.refl _))
  exact⟨r,Ev.step (fun k=>by simp only [sQ.l0,if_pos c,nn,if_true,w,rt,if_neg c1,if_neg c2,if_pos q8]<;>exact rfl) hr,hs⟩
theorem PT (n a:Int) (E:List S59) (hE:ok n E):∃m F,Ev (fun k=>sQ.f k n E a) (m,F)/\ok m F:=by
 have hl:=uA hE
 unfold sQ.f
 by_cases c:ok n E/\0<=a/\a<n
 ·obtain⟨F,f1,f2⟩:=PS n a n E hl E [] [] rfl (List.Sublist.refl _)
  refine⟨n,F,Ev.bind (wF n a E (by unfold big;omega)) ?_,Ju hE f2⟩
  simp only [decide_eq_true c,if_true]
  exact f1
 refine⟨0,[],Ev.bind (wF n a E (by unfold big;omega)) ?_,⟨Int.le_refl _,by decide,by simp,by simp[asc]⟩⟩
 simp only [decide_eq_false c,Bool.false_eq_true,if_false]
 exact Ev.val rfl
theorem Lm (n v:Int) (E:List S59) (hE:ok n E):Ev (fun k=>yU.f k n E v) (((next n E v).length:Int)==0):=by
 unfold yU.f
 exact Ev.bind (Bq n v E hE) (Ev.val rfl)
end Go.Proofs.Ytgeonpciodepgaa.P
namespace Go.Proofs.Ytgeonpciodepgaa.G
end Go.Proofs.Ytgeonpciodepgaa.G
namespace Go.Proofs.Ytgeonpciodepgaa.G
open Go.RowKit Go.Proofs.YtgeonpciodepgaaW.PrintWords
def Aq (E:List Tie) (b:Int):Nat->Int->Prop
 |0,v=>v=b
 |k+1,v=>∃w,oD v w∈E/\Aq E b k w
theorem Fq {P:Nat->Prop}(h:∃k,P k):∃k,P k/\∀j,P j->k<=j:=by
 obtain⟨k,hk⟩:=h
 induction k using Nat.strongRecOn with
 |_ k ih=>
  by_cases c:∃j,j<k/\P j
  ·obtain⟨j,hj,hp⟩:=c
   exact ih j hj hp
  refine⟨k,hk,fun j hj=>?_⟩
  rcases Nat.lt_or_ge j k with h|h
  ·exact absurd ⟨j,h,hj⟩ c
  exact h
open Classical in
noncomputable def xe (E:List Tie) (b v:Int):Int:=if h:∃k,Aq E b k v then((Classical.choose (Fq h):Nat):Int) else -1
theorem C8 {E:List Tie}{b v:Int}{k:Nat}(h:Aq E b k v):0<=xe E b v/\xe E b v<=k:=by
 classical
 unfold xe
 rw[dif_pos ⟨k,h⟩]
 have:=(Classical.choose_spec (Fq (⟨k,h⟩:∃k,Aq E b k v))).2 k h
 omega
theorem CZ {E:List Tie}{b v:Int}(h:0<=xe E b v):Aq E b (xe E b v).toNat v:=by
 classical
 unfold xe at*
 by_cases c:∃k,Aq E b k v
 ·rw[dif_pos c]at*
  exact(Classical.choose_spec (Fq c)).1
 rw[dif_neg c]at h;omega
theorem MI (n:Int) (E:List Tie) (b:Int):Far n E b (xe E b) where
 zero:=by have:=C8 (E:=E) (b:=b) (v:=b) (k:=0) rfl;omega
 only:=fun v _ _ h=>by
  have:=CZ (E:=E) (b:=b) (v:=v) (by omega)
  rw[h]at this;exact this
 down:=fun v _ _ h=>by
  have h1:=CZ (E:=E) (b:=b) (v:=v) (by omega)
  obtain⟨k,e⟩:∃k:Nat,(xe E b v).toNat=k+1:=⟨(xe E b v).toNat - 1,by omega⟩
  rw[e]at h1
  obtain⟨w,ht,hw⟩:=h1
  have h2:=C8 hw
  have h3:=CZ h2.1
  have h4:=C8 (k:=(xe E b w).toNat+1) (v:=v) ⟨w,ht,h3⟩
  exact⟨w,ht,by omega⟩
 near:=fun v w ht h=>by
  have h1:=CZ h
  have h2:=C8 (k:=(xe E b v).toNat+1) (v:=w) ⟨v,by rw[yt];exact ht,h1⟩
  omega
 lo:=fun v _ _=>by
  unfold xe
  split<;>omega
def found (n:Int) (E:List Tie) (a b:Int):List Int×Bool:=match xD n E a b with
 |[]=>([],false)
 |p::_=>(p,true)
theorem MP {n a b:Int}{E:List Tie}(h8:n<=8) (hE:∀t∈E,inr n t) (ha:0<=a/\a<n) (h:qm E a b):∃p r,xD n E a b=p::r/\found n E a b=(p,true)/\uG E a b p:=by
 have F:=MI n E b
 have c:=(F.conn hE ha).2 h
 obtain⟨r,e⟩:=MG F h8 hE ha c
 refine⟨_,r,e,?_,(F.first hE ha c).1⟩
 unfold found
 rw[e]
end Go.Proofs.Ytgeonpciodepgaa.G
namespace Go.Proofs.Ytgeonpciodepgaa.P
open Go.RowKit Go.Proofs.YtgeonpciodepgaaW.PrintWords Go.Proofs.Ytgeonpciodepgaa.G Go.Proofs.YtgeonpciodepgaaW.PrintWords.Kd
def vB (f:List Int):Nat:=(f.filter fun x=>decide (x<0)).length
theorem Fb:∀ {f:List Int}{i:Nat}{x:Int},i<f.length->f.getD i 0<0->0<=x->vB (f.set i x)+1=vB f
 |[],i,_,h,_,_=>absurd h (Nat.not_lt_zero _)
 |b::f,0,x,_,h,hx=>by
  have h:b<0:=h
  have hx:¬x<0:=by omega
  simp[vB,h,hx]
 |b::f,i+1,x,hl,h,hx=>by
  have ih:=Fb (f:=f) (i:=i) (x:=x) (by simpa using hl) (by simpa using h) hx
  unfold vB at*
  rw[List.set_cons_succ,List.filter_cons,List.filter_cons]
  by_cases c:b<0
  ·simp only [c,decide_true,if_true,List.length_cons];omega
  simp only [c,decide_false,Bool.false_eq_true,if_false];exact ih
structure FI (n:Int) (E:List Tie) (b:Int) (f q:List Int) (d:Int) (busy:Int->Prop):Prop where
 base:0<=b
 len:(f.length:Int)=n
 zero:rd f b=0
 only:∀v,0<=v->v<n->rd f v=0->v=b
 lo:∀v,0<=v->v<n-> -1<=rd f v
 hi:∀v,0<=v->v<n->rd f v<=d+1
 bd:∀v,0<=v->v<n->rd f v+vB f+1<=n
 down:∀v,0<=v->v<n->0<rd f v->∃w,oD v w∈E/\rd f w=rd f v - 1
 pos:0<=d
 queue:∀x∈q,0<=x/\x<n/\d<=rd f x
 sorted:q.Pairwise fun x y=>rd f x<=rd f y
 done:∀v,0<=v->v<n->0<=rd f v->v∈q\/busy v\/∀w,oD v w∈E->0<=rd f w/\rd f w<=rd f v+1
theorem FI.see {n:Int}{E:List Tie}{b:Int}{f q:List Int}{d c t:Int}(hE:∀t∈E,inr n t) (h:FI n E b f q d (fun v=>v=c)) (hc:0<=c/\c<n) (hcd:rd f c=d) (ht:oD c t∈E) (hn:rd f t<0):
  FI n E b (f.set t.toNat (d+1)) (q++[t]) d (fun v=>v=c)/\vB (f.set t.toNat (d+1))+1=vB f/\(∀x,0<=x->0<=rd f x->rd (f.set t.toNat (d+1)) x=rd f x)/\rd (f.set t.toNat (d+1)) t=d+1:=by
 have hr:=(vH (hE _ ht)).2.1
 have hl:=h.len
 have rs:∀x,0<=x->rd (f.set t.toNat (d+1)) x=if t=x then d+1 else rd f x:=fun x hx=>Bw hr.1 (by omega) hx
 have cs:vB (f.set t.toNat (d+1))+1=vB f:=Fb (by omega) (by unfold rd at hn;exact hn) (by have:=h.pos;omega)
 have keep:∀x,0<=x->0<=rd f x->rd (f.set t.toNat (d+1)) x=rd f x:=fun x hx h0=>by
  rw[rs x hx,if_neg (fun e=>by subst e;omega)]
 have b0:0<=b:=h.base
 have bt:b≠t:=fun e=>by have:=h.zero;rw[e]at this;omega
 refine⟨⟨h.base,by simp;exact hl,?_,?_,?_,?_,?_,?_,h.pos,?_,?_,?_⟩,cs,keep,by rw[rs t hr.1,if_pos rfl]⟩
 ·rw[rs b b0,if_neg (fun e=>bt e.symm)];exact h.zero
 ·intro v v0 v1 e
  rw[rs v v0]at e
  split at e
  ·have:=h.pos;omega
  exact h.only v v0 v1 e
 ·intro v v0 v1
  rw[rs v v0]
  split
  ·have:=h.pos;omega
  exact h.lo v v0 v1
 ·intro v v0 v1
  rw[rs v v0]
  split
  ·omega
  exact h.hi v v0 v1
 ·intro v v0 v1
  rw[rs v v0]
  split
  ·have:=h.bd c hc.1 hc.2;omega
  have:=h.bd v v0 v1;omega
 ·intro v v0 v1 e
  rw[rs v v0]at e⊢
  split at e
  ·rename_i q
   subst q
   refine⟨c,by rw[yt];exact ht,?_⟩
   rw[if_pos rfl,keep c hc.1 (by have:=h.pos;omega),hcd];omega
  rename_i q
  rw[if_neg q]
  obtain⟨w,w1,w2⟩:=h.down v v0 v1 e
  exact⟨w,w1,by rw[keep w (vH (hE _ w1)).2.1.1 (by omega),w2]⟩
 ·intro x hx
  rcases List.mem_append.1 hx with hx|hx
  ·obtain⟨a1,a2,a3⟩:=h.queue x hx
   exact⟨a1,a2,by rw[keep x a1 (by have:=h.pos;omega)];exact a3⟩
  rw[List.mem_singleton]at hx
  subst hx
  exact⟨hr.1,hr.2,by rw[rs x hr.1,if_pos rfl];omega⟩
 ·rw[List.pairwise_append]
  refine⟨?_,by simp,?_⟩
  ·refine List.Pairwise.imp_of_mem ?_ h.sorted
   intro x y hx hy e
   obtain⟨a1,a2,a3⟩:=h.queue x hx
   obtain⟨b1,b2,b3⟩:=h.queue y hy
   have:=h.pos
   rw[keep x a1 (by omega),keep y b1 (by omega)];exact e
  intro x hx y hy
  rw[List.mem_singleton]at hy
  subst hy
  obtain⟨a1,a2,a3⟩:=h.queue x hx
  have:=h.pos
  have:=h.hi x a1 a2
  rw[keep x a1 (by omega),rs y hr.1,if_pos rfl];omega
 intro v v0 v1 e
 by_cases q:t=v
 ·subst q;exact .inl (by simp)
 rw[rs v v0,if_neg q]at e⊢
 rcases h.done v v0 v1 e with k|k|k
 ·exact .inl (by simp[k])
 ·exact .inr (.inl k)
 refine .inr (.inr fun w hw=>?_)
 have:=k w hw
 rw[keep w (vH (hE _ hw)).2.1.1 this.1];exact this
theorem MK (n:Int) (E:List S59) (b c d:Int) (hE:∀t∈E,inr n t) (h8:n<=8) (hc:0<=c/\c<n):∀ (suf p f q:List Int),((p++suf).length:Int)<big->(∀x∈suf,oD c x∈E)->q.length+vB f<=1000->rd f c=d->FI n E b f q d (fun v=>v=c)->
  ∃f' q',FI n E b f' q' d (fun v=>v=c)/\rd f' c=d/\(∀x∈suf,0<=rd f' x)/\(∀x,0<=x->0<=rd f x->0<=rd f' x)/\q'.length+vB f'=q.length+vB f/\vB f'<=vB f/\
   ∀r,Ev (fun k=>qB.l1 k f' q' n E) r->Ev (fun k=>qB.l2 k f q c (p++suf) (p.length:Int) n E) r:=by
 intro suf
 induction suf with
 |nil=>
  intro p f q hb hs hm hcd hI
  exact⟨f,q,hI,hcd,by simp,fun x _ h=>h,rfl,Nat.le_refl _,fun r hr=>Ev.step (fun k=>by simp only [qB.l2,sP,if_false]<;>exact rfl) hr⟩
 |cons t suf ih=>
  intro p f q hb hs hm hcd hI
  have hp:(p.length:Int)<big:=sV hb
  have htE:=hs t (by simp)
  have hr:=(vH (hE _ htE)).2.1
  have hl:=hI.len
  have g0:0<=t:=hr.1
  have g1:t<(f.length:Int):=by omega
  have k0:0<=c:=hc.1
  have k1:c<(f.length:Int):=by omega
  have ql:q.length<17592186044416:=by omega
  have hs':∀x∈suf,oD c x∈E:=fun x hx=>hs x (List.mem_cons_of_mem _ hx)
  have hb':(((p++[t])++suf).length:Int)<big:=by rw[←qw];exact hb
  by_cases u:rd f t<0
  ·obtain⟨s1,s2,s3,s4⟩:=hI.see hE hc hcd htE u
   have bdc:=hI.bd c hc.1 hc.2
   have dp:=hI.pos
   have wd:wrap64 (rd f c+1)=d+1:=by rw[hcd];exact w64 (by omega) (by omega)
   obtain⟨f',q',i1,i2,i3,i4,i5,i6,i7⟩:=ih (p++[t]) _ (q++[t]) hb' hs' (by simp;omega) (by rw[s3 c hc.1 (by omega)];exact hcd) s1
   refine⟨f',q',i1,i2,fun x hx=>?_,fun x x0 hx=>i4 x x0 (by rw[s3 x x0 hx];exact hx),by simp at i5;omega,by omega,fun r hr2=>?_⟩
   ·rcases List.mem_cons.1 hx with rfl|hx
    ·exact i4 x g0 (by rw[s4];omega)
    exact i3 x hx
   have:=i7 r hr2
   rw[←qw]at this
   exact Ev.step (fun k=>by simp only [qB.l2,qi,nn,if_true,rY,if_pos g0,if_pos g1,if_pos u,if_pos k0,if_pos k1,if_pos ql,wd,qU (t:=t) hp]<;>exact rfl) this
  obtain⟨f',q',i1,i2,i3,i4,i5,i6,i7⟩:=ih (p++[t]) f q hb' hs' hm hcd hI
  refine⟨f',q',i1,i2,fun x hx=>?_,i4,i5,i6,fun r hr2=>?_⟩
  ·rcases List.mem_cons.1 hx with rfl|hx
   ·exact i4 x g0 (by omega)
   exact i3 x hx
  have:=i7 r hr2
  rw[←qw]at this
  exact Ev.step (fun k=>by simp only [qB.l2,qi,nn,if_true,rY,if_pos g0,if_pos g1,if_neg u,qU (t:=t) hp]<;>exact rfl) this
theorem MJ (n:Int) (E:List S59) (b:Int) (hE:ok n E):∀ (m:Nat) (f q:List Int) (d:Int),2*vB f+q.length<=m->m<=900->FI n E b f q d (fun _=>False)->
  ∃f',Ev (fun k=>qB.l1 k f q n E) f'/\(f'.length:Int)=n/\(∀v,0<=v->v<n->rd f' v<=n)/\Far n E b (rd f'):=by
 intro m
 induction m with
 |zero=>
  intro f q d hm h9 hI
  have e:q=[]:=List.eq_nil_of_length_eq_zero (by omega)
  subst e
  have c:¬ (([]:List Int).length:Int)>0:=by simp
  refine⟨f,Ev.step (fun k=>by simp only [qB.l1,if_neg c]<;>exact rfl) (Ev.val rfl),hI.len,fun v v0 v1=>by have:=hI.bd v v0 v1;omega,?_⟩
  exact⟨hI.zero,hI.only,hI.down,fun v w ht h0=>by
   have:=(vH (hE.2.2.1 _ ht)).1
   rcases hI.done v this.1 this.2 h0 with k|k|k
   ·simp at k
   ·exact k.elim
   exact k w ht,hI.lo⟩
 |succ m ih=>
  intro f q d hm h9 hI
  cases q with
  |nil=>
   have c:¬ (([]:List Int).length:Int)>0:=by simp
   refine⟨f,Ev.step (fun k=>by simp only [qB.l1,if_neg c]<;>exact rfl) (Ev.val rfl),hI.len,fun v v0 v1=>by have:=hI.bd v v0 v1;omega,?_⟩
   exact⟨hI.zero,hI.only,hI.down,fun v w ht h0=>by
    have:=(vH (hE.2.2.1 _ ht)).1
    rcases hI.done v this.1 this.2 h0 with k|k|k
    ·simp at k
    ·exact k.elim
    exact k w ht,hI.lo⟩
  |cons x q=>
   obtain⟨x0,x1,x2⟩:=hI.queue x (by simp)
   have hs:=List.pairwise_cons.1 hI.sorted
   have dp:=hI.pos
   have I2:FI n E b f q (rd f x) (fun v=>v=x):=⟨hI.base,hI.len,hI.zero,hI.only,hI.lo,fun v v0 v1=>by have:=hI.hi v v0 v1;omega,hI.bd,hI.down,by omega,fun y hy=>⟨(hI.queue y (by simp[hy])).1,(hI.queue y (by simp[hy])).2.1,hs.1 y hy⟩,hs.2,fun v v0 v1 h0=>by
    rcases hI.done v v0 v1 h0 with k|k|k
    ·rcases List.mem_cons.1 k with k|k
     ·exact .inr (.inl k)
     exact .inl k
    ·exact k.elim
    exact .inr (.inr k)⟩
   have nl:((next n E x).length:Int)<big:=by
    have:=List.length_filter_le (fun i=>decide (oD x i∈E)) (qR n)
    rw[vZ]at this
    have:=hE.2.1
    unfold next big
    omega
   obtain⟨f',q',i1,i2,i3,i4,i5,i6,i7⟩:=MK n E b x (rd f x) hE.2.2.1 hE.2.1 ⟨x0,x1⟩ (next n E x) [] f q (by simpa using nl) (fun y hy=>(xI hE.2.2.1).1 hy) (by simp at hm;omega) rfl I2
   have I3:FI n E b f' q' (rd f x) (fun _=>False):=⟨i1.base,i1.len,i1.zero,i1.only,i1.lo,i1.hi,i1.bd,i1.down,i1.pos,i1.queue,i1.sorted,fun v v0 v1 h0=>by
    rcases i1.done v v0 v1 h0 with k|k|k
    ·exact .inl k
    ·subst k
     refine .inr (.inr fun w hw=>?_)
     have wr:=(vH (hE.2.2.1 _ hw)).2.1
     exact⟨i3 w ((xI hE.2.2.1).2 hw),by have:=i1.hi w wr.1 wr.2;omega⟩
    exact .inr (.inr k)⟩
   obtain⟨f2,e1,e2,e3,e4⟩:=ih f' q' (rd f x) (by simp at hm;omega) (by omega) I3
   refine⟨f2,?_,e2,e3,e4⟩
   have c1:((x::q).length:Int)>0:=by rw[List.length_cons];omega
   have c2:0<((x::q).length:Int):=c1
   have c3:1<=((x::q).length:Int):=by omega
   have er:rd (x::q) 0=x:=rfl
   refine Ev.step (fun k=>by simp only [qB.l1,if_pos c1,if_pos c2,er]<;>exact rfl) ?_
   refine Ev.bind (Bq n x E hE) ?_
   simp only [if_pos c3]
   have ed:(x::q).drop (1:Int).toNat=q:=rfl
   rw[ed]
   exact i7 _ e1
theorem JH (m:Nat) (v:Int):rd (List.replicate m (-1)) v=if v.toNat<m then -1 else 0:=by
 unfold rd
 rw[List.getD_eq_getElem?_getD]
 by_cases c:v.toNat<m
 ·rw[if_pos c,List.getElem?_replicate,if_pos c];rfl
 rw[if_neg c,List.getElem?_replicate,if_neg c];rfl
theorem MH (n:Int) (E:List S59) (b:Int) (hE:ok n E) (hb:0<=b/\b<n):∃f,Ev (fun k=>qB.f k n E b) f/\(f.length:Int)=n/\(∀v,0<=v->v<n->rd f v<=n)/\Far n E b (rd f):=by
 have h8:=hE.2.1
 have hl:((List.replicate n.toNat (-1:Int)).length:Int)=n:=by simp;omega
 have rs:∀v,0<=v->v<n->rd ((List.replicate n.toNat (-1)).set b.toNat 0) v=if b=v then 0 else -1:=fun v v0 v1=>by
  rw[Bw hb.1 (by omega) v0]
  by_cases q:b=v
  ·rw[if_pos q,if_pos q]
  rw[if_neg q,if_neg q,JH,if_pos (by omega)]
 have c0:vB (List.replicate n.toNat (-1:Int))=n.toNat:=by
  unfold vB
  rw[List.filter_eq_self.2]
  ·simp
  intro x hx;rw[List.eq_of_mem_replicate hx];rfl
 have cs:vB ((List.replicate n.toNat (-1:Int)).set b.toNat 0)+1=n.toNat:=by
  rw[Fb (by simp;omega) (by have:=JH n.toNat b;unfold rd at this;rw[this,if_pos (by omega)];omega) (by omega),c0]
 have I:FI n E b ((List.replicate n.toNat (-1)).set b.toNat 0) [b] 0 (fun _=>False):=by
  refine⟨hb.1,by simp;omega,by rw[rs b hb.1 hb.2,if_pos rfl],fun v v0 v1 e=>?_,fun v v0 v1=>?_,fun v v0 v1=>?_,fun v v0 v1=>?_,fun v v0 v1 e=>?_,Int.le_refl _,fun x hx=>?_,by simp,fun v v0 v1 e=>?_⟩
  ·rw[rs v v0 v1]at e
   split at e
   ·rename_i q;exact q.symm
   omega
  ·rw[rs v v0 v1];split<;>omega
  ·rw[rs v v0 v1];split<;>omega
  ·rw[rs v v0 v1];split<;>omega
  ·rw[rs v v0 v1]at e
   split at e<;>omega
  ·rw[List.mem_singleton]at hx
   subst hx
   exact⟨hb.1,hb.2,by rw[rs x hb.1 hb.2,if_pos rfl];omega⟩
  rw[rs v v0 v1]at e
  split at e
  ·rename_i q;exact .inl (by simp[q])
  omega
 obtain⟨f',e1,e2,e3,e4⟩:=MJ n E b hE 100 _ [b] 0 (by simp;omega) (by omega) I
 refine⟨f',?_,e2,e3,e4⟩
 unfold qB.f
 have go:∀ (d:Nat) (i:Int),0<=i->i+d=n->Ev (fun k=>qB.l0 k b (List.replicate i.toNat (-1)) i n E) f':=by
  intro d
  induction d with
  |zero=>
   intro i i0 hi
   have e:i=n:=by omega
   subst e
   have c:¬i<i:=by omega
   have b1:b<((List.replicate i.toNat (-1:Int)).length:Int):=by omega
   have b0:0<=b:=hb.1
   exact Ev.step (fun k=>by simp only [qB.l0,if_neg c,if_pos b0,if_pos b1]<;>exact rfl) e1
  |succ d ih=>
   intro i i0 hi
   have c:i<n:=by omega
   have l:(List.replicate i.toNat (-1:Int)).length<17592186044416:=by simp;omega
   have w:wrap64 (i+1)=i+1:=w64 (by omega) (by omega)
   have:=ih (i+1) (by omega) (by omega)
   have e:List.replicate (i+1).toNat (-1:Int)=List.replicate i.toNat (-1)++[-1]:=by
    rw[show(i+1).toNat=i.toNat+1 by omega,List.replicate_succ']
   rw[e]at this
   exact Ev.step (fun k=>by simp only [qB.l0,if_pos c,if_pos l,w]<;>exact rfl) this
 exact go n.toNat 0 (by omega) (by have:=hE.1;omega)
theorem MN (n b v x:Int) (E:List S59) (f out:List Int) (d:Nat) (hf:(f.length:Int)=n) (h8:n<=8) (hv:0<=v/\v<n) (hd:rd f v=(d+1:Nat)) (hd8:d<=100) (ho:out.length<=1000):∀ (suf p:List Int),((p++suf).length:Int)<big->(∀y∈suf,0<=y/\y<n)->suf.find? (fun w=>decide (rd f w=d))=some x->
  ∀r,Ev (fun k=>qX.l0 k b (out++[x]) f x n E) r->Ev (fun k=>qX.l1 k b out f v (p++suf) (p.length:Int) n E) r:=by
 intro suf
 induction suf with
 |nil=>intro p _ _ h;simp at h
 |cons t suf ih=>
  intro p hb hs h r hr
  have hp:(p.length:Int)<big:=sV hb
  obtain⟨t0,t1⟩:=hs t (by simp)
  have t2:t<(f.length:Int):=by omega
  have v0:0<=v:=hv.1
  have v1:v<(f.length:Int):=by omega
  have w:wrap64 (rd f v - 1)=d:=by rw[hd];rw[w64 (by omega) (by omega)];omega
  have lo:out.length<17592186044416:=by omega
  rw[List.find?_cons]at h
  by_cases c:rd f t=d
  ·simp only [c,decide_true]at h
   injection h with h
   subst h
   exact Ev.step (fun k=>by simp only [qX.l1,qi,nn,if_true,rY,if_pos t0,if_pos t2,if_pos v0,if_pos v1,w,if_pos c,if_pos lo]<;>exact rfl) hr
  simp only [c,decide_false]at h
  have:=ih (p++[t]) (by rw[←qw];exact hb) (fun y hy=>hs y (by simp[hy])) h r hr
  rw[←qw]at this
  exact Ev.step (fun k=>by simp only [qX.l1,qi,nn,if_true,rY,if_pos t0,if_pos t2,if_pos v0,if_pos v1,w,if_neg c,qU (t:=t) hp]<;>exact rfl) this
theorem MM (n b:Int) (E:List S59) (hE:ok n E) (f:List Int) (hf:(f.length:Int)=n) (F:Far n E b (rd f)):∀ (d:Nat) (v:Int) (out:List Int),d<=100->out.length+d<=1000->0<=v/\v<n->rd f v=(d:Int)->
  Ev (fun k=>qX.l0 k b out f v n E) (out++(down n E (rd f) d v).tail,true):=by
 intro d
 induction d with
 |zero=>
  intro v out _ _ hv hd
  have e:v=b:=F.only v hv.1 hv.2 hd
  exact Ev.step (fun k=>by simp only [qX.l0,if_pos e]<;>exact rfl) (Ev.val (by simp[down]))
 |succ d ih=>
  intro v out hd8 ho hv hd
  have c:v≠b:=fun e=>by rw[e,F.zero]at hd;omega
  obtain⟨x,ex,ht,hx,hr,_⟩:=F.step hE.2.2.1 hv hd
  refine Ev.step (fun k=>by simp only [qX.l0,if_neg c]<;>exact rfl) ?_
  refine Ev.bind (Bq n v E hE) ?_
  have nl:((next n E v).length:Int)<big:=by
   have:=List.length_filter_le (fun i=>decide (oD v i∈E)) (qR n)
   rw[vZ]at this
   have:=hE.2.1
   unfold next big
   omega
  refine MN n b v x E f out d hf hE.2.1 hv hd (by omega) (by omega) (next n E v) [] (by simpa using nl) (fun y hy=>(vH (hE.2.2.1 _ ((xI hE.2.2.1).1 hy))).2.1) ex _ ?_
  have:=ih x (out++[x]) (by omega) (by simp;omega) hr hx
  obtain⟨r,e1,_⟩:=Bn F hE.2.2.1 d x hr hx
  have e2:(down n E (rd f) (d+1) v).tail=x::r:=by
   rw[down,ex]
   exact e1
  rw[e1]at this
  rw[e2]
  simpa using this
end Go.Proofs.Ytgeonpciodepgaa.P
namespace Go.Proofs.Ytgeonpciodepgaa.G
theorem DK:∀ (xs:List Int) (y a:Int),ties (xs++[y,a])=ties (xs++[y])++[oD y a]
 |[],y,a=>rfl
 |[x],y,a=>rfl
 |x::z::r,y,a=>by
  have:=DK (z::r) y a
  show oD x z::ties (z::r++[y,a])=oD x z::ties (z::r++[y])++[oD y a]
  rw[this];rfl
theorem DJ:∀r:List Int,ties r.reverse=(ties r).reverse
 |[]=>rfl
 |[_]=>rfl
 |a::b::r=>by
  have h:=DJ (b::r)
  have e:(a::b::r).reverse=r.reverse++[b,a]:=by simp
  have e2:(b::r).reverse=r.reverse++[b]:=by simp
  rw[e,DK,←e2,h,yt b a]
  show _=(oD a b::ties (b::r)).reverse
  rw[List.reverse_cons]
def xB (ks:List Int) (v:Int):List Int:=if v∈ks then ks else ks++[v]
def rV (ks:List Int) (row:List Int):List Int:=row.foldl xB ks
theorem Dp (ks:List Int) (v x:Int):x∈xB ks v↔x∈ks\/x=v:=by
 unfold xB;split
 ·rename_i h;exact⟨Or.inl,fun k=>k.elim id (fun e=>e▸h)⟩
 simp
theorem N8 {ks:List Int}(v:Int) (h:ks.Nodup):(xB ks v).Nodup:=by
 unfold xB;split
 ·exact h
 rename_i k
 rw[List.nodup_append]
 exact⟨h,by simp,fun x hx y hy e=>by rw[List.mem_singleton]at hy;subst hy;subst e;exact k hx⟩
theorem Dn:∀ (row ks:List Int) (x:Int),x∈rV ks row↔x∈ks\/x∈row
 |[],ks,x=>by simp[rV]
 |v::r,ks,x=>by
  show x∈rV (xB ks v) r↔_
  rw[Dn r,Dp];simp[or_assoc]
theorem FB:∀ (row:List Int) {ks:List Int},ks.Nodup->(rV ks row).Nodup
 |[],_,h=>h
 |v::r,_,h=>FB r (N8 v h)
theorem GD (ks p q:List Int):rV ks (p++q)=rV (rV ks p) q:=by unfold rV;rw[List.foldl_append]
theorem En:∀ (row ks:List Int),(rV ks row).length<=ks.length+row.length
 |[],ks=>by simp[rV]
 |v::r,ks=>by
  have h:=En r (xB ks v)
  have:(xB ks v).length<=ks.length+1:=by unfold xB;split<;>simp
  show(rV (xB ks v) r).length<=_
  simp only [List.length_cons];omega
def xQ (row:List Int):List Int:=(row.drop 1).dropLast
def tV (row:List Int):Int:=row.getD 0 0
def tN (row:List Int):Int:=row.getLastD 0
structure Bo (n:Int) (E taken:List Tie) (ks:List Int) (first:Bool) (row:List Int):Prop where
 len:2<=row.length
 qR:∀v∈row,0<=v/\v<n
 tied:∀t∈ties row,t∈E
 ring:first=true->tV row=tN row
 ends:first=false->tV row∈ks/\tN row∈ks
 long:tV row=tN row->4<=row.length
 mid:(xQ row).Nodup
 apart:∀v∈xQ row,v∉ks/\v≠tV row
 new:∀t∈ties row,t∉taken
def uR (n:Int) (E:List Tie):Bool->List Tie->List Int->List (List Int)->Prop
 |_,taken,ks,[]=>taken.length=E.length/\(ks.length:Int)=n
 |first,taken,ks,row::rest=>Bo n E taken ks first row/\uR n E false (taken++ties row) (rV ks row) rest
theorem IJ {n:Int}{E:List Tie}:∀ (rest:List (List Int)) (first:Bool) (taken:List Tie) (ks:List Int),uR n E first taken ks rest->taken.length+rest.length<=E.length
 |[],_,_,_,h=>by have:=h.1;simp;omega
 |row::rest,first,taken,ks,h=>by
  have h1:=IJ rest false _ _ h.2
  have h2:=h.1.len
  rw[List.length_append,zP]at h1
  simp only [List.length_cons]
  omega
theorem Bz {row:List Int}(h:2<=row.length):∃a m z,row=a::(m++[z]):=by
 cases row with
 |nil=>simp at h
 |cons a r=>
  have hr:r≠[]:=fun e=>by rw[e]at h;simp at h
  exact⟨a,r.dropLast,r.getLast hr,by rw[List.dropLast_concat_getLast]⟩
theorem Da (a:Int) (m:List Int) (z:Int):tV (a::(m++[z]))=a:=rfl
theorem Dh (a:Int) (m:List Int) (z:Int):tN (a::(m++[z]))=z:=by
 unfold tN
 rw[show a::(m++[z])=(a::m)++[z] from rfl,List.getLastD_concat]
theorem Dq (a:Int) (m:List Int) (z:Int):xQ (a::(m++[z]))=m:=by
 unfold xQ
 simp
theorem Au {t:Tie}:∀ (r:List Int),t∈ties r->t.f0∈r/\t.f1∈r
 |[],h=>by simp[ties]at h
 |[a],h=>by simp[ties]at h
 |a::b::r,h=>by
  simp only [ties,List.mem_cons]at h
  rcases h with rfl|h
  ·unfold oD;split<;>simp
  have:=Au (b::r) h
  exact⟨List.mem_cons_of_mem _ this.1,List.mem_cons_of_mem _ this.2⟩
theorem J7:∀ (p:List Int) (v w:Int) (s:List Int),ties (p++v::w::s)=ties (p++[v])++oD v w::ties (w::s)
 |[],v,w,s=>by simp[ties]
 |[a],v,w,s=>by simp[ties]
 |a::b::r,v,w,s=>by
  have:=J7 (b::r) v w s
  simp only [List.cons_append,ties]at this⊢
  rw[this]
theorem Pw {a b c d:Int}(h:oD a b=oD c d):a=c/\b=d\/a=d/\b=c:=by
 unfold oD at h
 split at h<;>split at h<;>simp only [Tie.mk.injEq]at h<;>omega
theorem FX:∀ (r:List Int),r.Nodup->(ties r).Nodup
 |[],_=>by simp[ties]
 |[a],_=>by simp[ties]
 |a::b::r,h=>by
  rw[List.nodup_cons]at h
  simp only [ties,List.nodup_cons]
  refine⟨fun k=>?_,FX (b::r) h.2⟩
  have:=Au (b::r) k
  unfold oD at this
  split at this
  ·exact h.1 this.1
  exact h.1 this.2
theorem PG (a:Int) (m:List Int) (h:(a::m).Nodup) (hl:2<=m.length):(ties (a::m++[a])).Nodup:=by
 obtain⟨p,y,rfl⟩:∃p y,m=p++[y]:=⟨m.dropLast,m.getLast (fun e=>by rw[e]at hl;simp at hl),(List.dropLast_concat_getLast _).symm⟩
 have e:a::(p++[y])++[a]=(a::p)++[y,a]:=by simp
 rw[e,DK,List.nodup_append]
 have hn:=FX _ h
 refine⟨by simpa using hn,by simp,fun x hx z hz e2=>?_⟩
 rw[List.mem_singleton]at hz
 subst hz;subst e2
 cases p with
 |nil=>simp at hl
 |cons b q=>
  simp only [List.cons_append,ties,List.mem_cons]at hx
  simp only [List.cons_append,List.nodup_cons,List.mem_cons,List.mem_append,not_or]at h
  rcases hx with hx|hx
  ·rcases Pw hx with⟨h1,h2⟩|⟨h1,h2⟩
   ·exact h.1.1 h2
   exact h.2.1.2.1 h1.symm
  have hm:=Au (b::(q++[y])) (by simpa using hx)
  have ha:a∉b::(q++[y]):=by simp;exact⟨h.1.1,h.1.2.1,h.1.2.2.1⟩
  unfold oD at hm
  split at hm
  ·exact ha hm.2
  exact ha hm.1
theorem II {n:Int}{E taken:List Tie}{ks:List Int}{first:Bool}{row:List Int}(hl:2<=row.length) (hlong:tV row=tN row->4<=row.length) (hm:(xQ row).Nodup) (ha:tV row∉xQ row) (hz:tN row∉xQ row):(ties row).Nodup:=by
 obtain⟨a,m,z,rfl⟩:=Bz hl
 rw[Da]at hlong ha
 rw[Dh]at hlong hz
 rw[Dq]at hm ha hz
 by_cases c:a=z
 ·subst c
  have:=hlong rfl
  simp at this
  exact PG a m (List.nodup_cons.2 ⟨ha,hm⟩) (by omega)
 refine FX _ (List.nodup_cons.2 ⟨?_,?_⟩)
 ·simp;exact⟨ha,c⟩
 rw[List.nodup_append]
 exact⟨hm,by simp,fun x hx y hy e=>by rw[List.mem_singleton]at hy;subst hy;subst e;exact hz hx⟩
end Go.Proofs.Ytgeonpciodepgaa.G
namespace Go.Proofs.Ytgeonpciodepgaa.P
open Go.RowKit Go.Proofs.YtgeonpciodepgaaW.PrintWords Go.Proofs.Ytgeonpciodepgaa.G Go.Proofs.YtgeonpciodepgaaW.PrintWords.Kd
theorem Nq (a:Int):∀ (suf p:List Int),((p++suf).length:Int)<big->a∉p->Ev (fun k=>qE.l0 k (p++suf) a (p.length:Int)) (decide (a∈p++suf)):=by
 intro suf
 induction suf with
 |nil=>
  intro p hb hp
  refine Ev.step (fun k=>by simp only [qE.l0,sP,if_false]<;>exact rfl) (Ev.val ?_)
  rw[decide_eq_false (by simpa using hp)]
 |cons t suf ih=>
  intro p hb hp
  have hl:(p.length:Int)<big:=sV hb
  by_cases c:t=a
  ·refine Ev.step (fun k=>by simp only [qE.l0,qi,nn,if_true,rY,if_pos c]<;>exact rfl) (Ev.val ?_)
   rw[decide_eq_true (by simp[c])]
  refine Ev.step (fun k=>by simp only [qE.l0,qi,nn,if_true,rY,if_neg c,qU (t:=t) hl]<;>exact rfl) ?_
  rw[qw p t suf]
  exact ih (p++[t]) (by rw[←qw];exact hb) (fun q=>by
   rcases List.mem_append.1 q with q|q
   ·exact hp q
   exact c (List.mem_singleton.1 q).symm)
theorem vT (S:List Int) (a:Int) (hb:(S.length:Int)<big):Ev (fun k=>qE.f k S a) (decide (a∈S)):=by
 unfold qE.f
 exact Nq a S [] hb (by simp)
def scan (n:Int) (E taken:List Tie) (ks:List Int):List Int->List Int->Prop
 |_,[]=>True
 |pre,v::suf=>(0<=v/\v<n)/\(pre≠[]->suf≠[]->v∉ks/\v∉pre)/\(∀p u,pre=p++[u]->oD u v∈E/\oD u v∉taken)/\scan n E taken ks (pre++[v]) suf
theorem MV (n:Int) (E taken:List S59) (ks p:List Int) (u v:Int) (suf:List Int) (b':Bool) (hb:(((p++[u])++v::suf).length:Int)<big)
  (h:Ev (fun k=>oP.l0 k taken ks ((p++[u])++v::suf) (((p++[u])++[v]).length:Int) n E) b'):∀ (rest q:List S59),taken=q++rest->(taken.length:Int)<big->
  Ev (fun k=>oP.l1 k taken ks ((p++[u])++v::suf) ((p++[u]).length:Int) (q.length:Int) n E) (!decide (oD u v∈rest)&&b'):=by
 have hl:((p++[u]).length:Int)<big:=sV hb
 intro rest
 induction rest with
 |nil=>
  intro q e ht
  subst e
  refine Ev.step (fun k=>by simp only [oP.l1,sP,if_false,qU (t:=v) hl]<;>exact rfl) (Ev.eq h (by simp))
 |cons t rest ih=>
  intro q e ht
  subst e
  have hq:(q.length:Int)<big:=sV ht
  have c1:0<=wrap64 (((p++[u]).length:Int) - 1):=by rw[vE p u hl];exact nn _
  have c2:wrap64 (((p++[u]).length:Int) - 1)<(((p++[u])++v::suf).length:Int):=by rw[vE p u hl];exact Dj p u (v::suf)
  have r1:rd ((p++[u])++v::suf) (wrap64 (((p++[u]).length:Int) - 1))=u:=by rw[vE p u hl,zF];exact rY p u (v::suf)
  refine Ev.step (fun k=>by simp only [oP.l1,qi,nn,if_true,if_pos c1,if_pos c2,r1,rY,zD,Option.bind_some,Ak,J5,decide_eq_true_eq,qU (t:=t) hq]<;>exact rfl) ?_
  by_cases c:t=oD u v
  ·simp only [if_pos c]
   exact Ev.val (by simp[c])
  simp only [if_neg c]
  have:=ih (q++[t]) (by simp) (by simpa using ht)
  refine Ev.eq (by simpa using this) ?_
  have c':¬oD u v=t:=fun e=>c e.symm
  simp[c']
theorem MU (n:Int) (E taken:List S59) (ks:List Int) (hok:ok n E) (ht:(taken.length:Int)<big) (hk:(ks.length:Int)<big):∀ (suf p:List Int),((p++suf).length:Int)<big->
  ∃b,Ev (fun k=>oP.l0 k taken ks (p++suf) (p.length:Int) n E) b/\(b=true↔scan n E taken ks p suf):=by
 have hE:(E.length:Int)<big:=by have:=uA hok;unfold big;omega
 intro suf
 induction suf with
 |nil=>
  intro p hb
  exact⟨true,Ev.step (fun k=>by simp only [oP.l0,sP,if_false]<;>exact rfl) (Ev.val rfl),by simp[scan]⟩
 |cons v suf ih=>
  intro p hb
  have hl:(p.length:Int)<big:=sV hb
  have hs:wrap64 ((p.length:Int)+1)=((p++[v]).length:Int):=qU hl
  obtain⟨b1,e1,h1⟩:=ih (p++[v]) (wG hb)
  rw[←qw]at e1
  -- behind the test of what is between the ends
  have J3:∃b,Ev (fun k=>oP.j3 k taken ks (p++v::suf) (p.length:Int) false n E) b/\(b=true↔(∀q u,p=q++[u]->oD u v∈E/\oD u v∉taken)/\scan n E taken ks (p++[v]) suf):=by
   rcases List.eq_nil_or_concat p with rfl|⟨q,u,rfl⟩
   ·refine⟨b1,Ev.step (fun k=>by simp only [oP.j3,Bool.false_eq_true,if_false,List.length_nil,Int.natCast_zero,if_true]<;>exact rfl) ?_,?_⟩
    ·have:=hs
     simp only [List.length_nil,Int.natCast_zero]at this
     rw[this];exact e1
    rw[h1]
    exact⟨fun x=>⟨fun q u e=>by simp at e,x⟩,fun x=>x.2⟩
   rw[List.concat_eq_append]at*
   have c0:¬ ((q++[u]).length:Int)=0:=by simp;omega
   have c1:0<=wrap64 (((q++[u]).length:Int) - 1):=by rw[vE q u hl];exact nn _
   have c2:wrap64 (((q++[u]).length:Int) - 1)<(((q++[u])++v::suf).length:Int):=by rw[vE q u hl];exact Dj q u (v::suf)
   have r1:rd ((q++[u])++v::suf) (wrap64 (((q++[u]).length:Int) - 1))=u:=by rw[vE q u hl,zF];exact rY q u (v::suf)
   have L1:=MV n E taken ks q u v suf b1 hb e1 taken [] rfl ht
   have base:∀k,oP.j3 (k+1) taken ks ((q++[u])++v::suf) ((q++[u]).length:Int) false n E=(wh.f k n E u v).bind fun t=>if t=true then oP.l1 k taken ks ((q++[u])++v::suf) ((q++[u]).length:Int) 0 n E else some false:=fun k=>by
    simp only [oP.j3,Bool.false_eq_true,if_false,if_neg c0,if_pos c1,if_pos c2,nn,qi,if_true,r1,rY]
   by_cases c:oD u v∈E
   ·refine⟨!decide (oD u v∈taken)&&b1,Ev.step base (Ev.bind (Dz n u v E hE) ?_),?_⟩
    ·rw[decide_eq_true (⟨hok,c⟩:ok n E/\oD u v∈E)]
     exact L1
    simp only [Bool.and_eq_true,Bool.not_eq_true',decide_eq_false_iff_not,h1]
    constructor
    ·rintro⟨x,y⟩
     refine⟨fun q' u' e=>?_,y⟩
     obtain⟨rfl,e2⟩:=List.append_inj' e rfl
     injection e2 with e2
     subst e2
     exact⟨c,x⟩
    rintro⟨x,y⟩
    exact⟨(x q u rfl).2,y⟩
   refine⟨false,Ev.step base (Ev.bind (Dz n u v E hE) ?_),?_⟩
   ·rw[decide_eq_false (fun h=>c h.2)]
    exact Ev.val rfl
   simp only [Bool.false_eq_true,false_iff]
   exact fun h=>c (h.1 q u rfl).1
  have J3t:Ev (fun k=>oP.j3 k taken ks (p++v::suf) (p.length:Int) true n E) false:=Ev.step (fun k=>by simp only [oP.j3,if_true]<;>exact rfl) (Ev.val rfl)
  obtain⟨b3,e3,h3⟩:=J3
  -- whether it is between the ends
  have J2:∀d:Bool,(d=true↔p≠[]/\suf≠[])->∃b,Ev (fun k=>oP.j2 k taken ks (p++v::suf) (p.length:Int) d n E) b/\(b=true↔scan n E taken ks p (v::suf)):=by
   intro d hd
   have base:∀k,oP.j2 (k+1) taken ks (p++v::suf) (p.length:Int) d n E=(rD.f k n E v).bind fun t=>(if t=true then(if d=true then((qE.f k ks v).bind fun t2=>(if t2=true then(oP.j3 k taken ks (p++v::suf) (p.length:Int) true n E) else(if(p.length:Int)<=((p++v::suf).length:Int) then((qE.f k ((p++v::suf).take ((p.length:Int)).toNat) v).bind fun t3=>(oP.j3 k taken ks (p++v::suf) (p.length:Int) t3 n E)) else(none)))) else(oP.j3 k taken ks (p++v::suf) (p.length:Int) false n E)) else(oP.j3 k taken ks (p++v::suf) (p.length:Int) true n E)):=fun k=>by
    simp only [oP.j2,nn,qi,if_true,rY]
   have cl:(p.length:Int)<=((p++v::suf).length:Int):=Int.le_of_lt (qi p v suf)
   have et:(p++v::suf).take ((p.length:Int)).toNat=p:=by simp
   by_cases k1:0<=v/\v<n;rotate_left
   ·refine⟨false,Ev.step base (Ev.bind (Ev.eq (wF n v E hE) (decide_eq_false (fun x=>k1 x.2))) (by simp only [Bool.false_eq_true,if_false];exact J3t)),?_⟩
    simp only [scan,Bool.false_eq_true,false_iff]
    exact fun x=>k1 x.1
   have K:=Ev.eq (wF n v E hE) (decide_eq_true (⟨hok,k1⟩:ok n E/\0<=v/\v<n))
   cases d with
   |false=>
    have hd':¬ (p≠[]/\suf≠[]):=fun x=>Bool.noConfusion (hd.2 x)
    refine⟨b3,Ev.step base (Ev.bind K (by simp only [if_true,Bool.false_eq_true,if_false];exact e3)),?_⟩
    rw[h3]
    simp only [scan]
    exact⟨fun x=>⟨k1,fun a b=>absurd ⟨a,b⟩ hd',x.1,x.2⟩,fun x=>⟨x.2.2.1,x.2.2.2⟩⟩
   |true=>
    have hd':=hd.1 rfl
    by_cases k2:v∈ks
    ·refine⟨false,Ev.step base (Ev.bind K ?_),?_⟩
     ·simp only [if_true]
      exact Ev.bind (Ev.eq (vT ks v hk) (decide_eq_true k2)) (by simp only [if_true];exact J3t)
     simp only [scan,Bool.false_eq_true,false_iff]
     exact fun x=>(x.2.1 hd'.1 hd'.2).1 k2
    by_cases k3:v∈p
    ·refine⟨false,Ev.step base (Ev.bind K ?_),?_⟩
     ·simp only [if_true]
      refine Ev.bind (Ev.eq (vT ks v hk) (decide_eq_false k2)) ?_
      simp only [Bool.false_eq_true,if_false,if_pos cl,et]
      exact Ev.bind (Ev.eq (vT p v hl) (decide_eq_true k3)) J3t
     simp only [scan,Bool.false_eq_true,false_iff]
     exact fun x=>(x.2.1 hd'.1 hd'.2).2 k3
    refine⟨b3,Ev.step base (Ev.bind K ?_),?_⟩
    ·simp only [if_true]
     refine Ev.bind (Ev.eq (vT ks v hk) (decide_eq_false k2)) ?_
     simp only [Bool.false_eq_true,if_false,if_pos cl,et]
     exact Ev.bind (Ev.eq (vT p v hl) (decide_eq_false k3)) e3
    rw[h3]
    simp only [scan]
    exact⟨fun x=>⟨k1,fun _ _=>⟨k2,k3⟩,x.1,x.2⟩,fun x=>⟨x.2.2.1,x.2.2.2⟩⟩
  by_cases cp:(p.length:Int)>0
  ·have cp':p≠[]:=fun e=>by rw[e]at cp;simp at cp
   obtain⟨b,e2,h2⟩:=J2 (decide (wrap64 ((p.length:Int)+1)<((p++v::suf).length:Int))) (by
    rw[hs,decide_eq_true_eq]
    constructor
    ·intro x;refine⟨cp',fun e=>?_⟩;subst e;simp at x
    rintro⟨_,x⟩
    have:0<suf.length:=List.length_pos_iff.2 x
    simp;omega)
   exact⟨b,Ev.step (fun k=>by simp only [oP.l0,qi,if_true,if_pos cp]<;>exact rfl) e2,h2⟩
  have cp':p=[]:=List.eq_nil_of_length_eq_zero (by omega)
  obtain⟨b,e2,h2⟩:=J2 false (by simp[cp'])
  exact⟨b,Ev.step (fun k=>by simp only [oP.l0,qi,if_true,if_neg cp]<;>exact rfl) e2,h2⟩
theorem JQ (n:Int) (E taken:List Tie) (ks:List Int) (z:Int):∀ (mid p:List Int) (u:Int),scan n E taken ks (p++[u]) (mid++[z])↔
  (∀v∈mid++[z],0<=v/\v<n)/\(∀t∈ties (u::(mid++[z])),t∈E/\t∉taken)/\(∀v∈mid,v∉ks/\v∉p++[u])/\mid.Nodup
 |[],p,u=>by
  simp only [List.nil_append,scan,List.mem_singleton,ties,forall_eq,List.not_mem_nil,false_implies,implies_true,List.nodup_nil,and_true,ne_eq,not_true_eq_false]
  constructor
  ·rintro⟨h1,_,h2⟩
   exact⟨h1,by simpa using h2 p u rfl⟩
  rintro⟨h1,h2⟩
  refine⟨h1,trivial,fun q u' e=>?_⟩
  obtain⟨rfl,e2⟩:=List.append_inj' e rfl
  injection e2 with e2
  subst e2
  simpa using h2
 |v::mid,p,u=>by
  have ih:=JQ n E taken ks z mid (p++[u]) v
  simp only [List.cons_append,scan,ih]
  constructor
  ·rintro⟨h1,h2,h3,h4,h5,h6,h7⟩
   have h2':=h2 (by simp) (by simp)
   refine⟨?_,?_,?_,?_⟩
   ·intro w hw
    rcases List.mem_cons.1 hw with rfl|hw
    ·exact h1
    exact h4 w hw
   ·intro t ht
    simp only [ties,List.mem_cons]at ht
    rcases ht with rfl|ht
    ·exact h3 p u rfl
    exact h5 t ht
   ·intro w hw
    rcases List.mem_cons.1 hw with rfl|hw
    ·exact h2'
    exact⟨(h6 w hw).1,fun k=>(h6 w hw).2 (List.mem_append_left _ k)⟩
   refine List.nodup_cons.2 ⟨fun k=>(h6 v k).2 (by simp),h7⟩
  rintro⟨h1,h2,h3,h4⟩
  rw[List.nodup_cons]at h4
  refine⟨h1 v (by simp),fun _ _=>h3 v (by simp),fun q u' e=>?_,fun w hw=>h1 w (List.mem_cons_of_mem _ hw),fun t ht=>h2 t (by simp only [ties,List.mem_cons];exact Or.inr ht),fun w hw=>⟨(h3 w (by simp[hw])).1,fun k=>?_⟩,h4.2⟩
  ·obtain⟨rfl,e2⟩:=List.append_inj' e rfl
   injection e2 with e2
   subst e2
   exact h2 _ (by simp[ties])
  rcases List.mem_append.1 k with k|k
  ·exact(h3 w (by simp[hw])).2 k
  rw[List.mem_singleton]at k
  subst k
  exact h4.1 hw
theorem Pb (n:Int) (E taken:List Tie) (ks:List Int) (a:Int) (m:List Int) (z:Int):scan n E taken ks [] (a::(m++[z]))↔
  (∀v∈a::(m++[z]),0<=v/\v<n)/\(∀t∈ties (a::(m++[z])),t∈E/\t∉taken)/\(∀v∈m,v∉ks/\v≠a)/\m.Nodup:=by
 have h:=JQ n E taken ks z m [] a
 simp only [List.nil_append]at h
 simp only [scan,List.nil_append,h]
 constructor
 ·rintro⟨h1,_,_,h2,h3,h4,h5⟩
  exact⟨fun v hv=>(List.mem_cons.1 hv).elim (fun e=>e▸h1) (h2 v),h3,fun v hv=>⟨(h4 v hv).1,fun e=>(h4 v hv).2 (by simp[e])⟩,h5⟩
 rintro⟨h1,h2,h3,h4⟩
 exact⟨h1 a (by simp),fun h=>absurd rfl h,fun p u e=>by simp at e,fun v hv=>h1 v (List.mem_cons_of_mem _ hv),h2,fun v hv=>⟨(h3 v hv).1,fun k=>(h3 v hv).2 (List.mem_singleton.1 k)⟩,h4⟩
theorem OL (row:List Int):rd row 0=tV row:=rfl
theorem FL {row:List Int}(h:0<row.length) (hb:(row.length:Int)<big):rd row (wrap64 ((row.length:Int) - 1))=tN row/\0<=wrap64 ((row.length:Int) - 1)/\wrap64 ((row.length:Int) - 1)<(row.length:Int):=by
 rcases List.eq_nil_or_concat row with rfl|⟨q,u,rfl⟩
 ·simp at h
 rw[List.concat_eq_append]at*
 have hl:((q++[u]).length:Int)<big:=hb
 rw[vE q u hl]
 refine⟨?_,nn _,by simp;omega⟩
 have:=rY q u []
 unfold tN
 rw[List.getLastD_concat]
 exact this
theorem IG (row:List Int) (h:0<row.length) (hb:(row.length:Int)<big):uJ.f row=some (tV row !=tN row):=by
 obtain⟨h1,h2,h3⟩:=FL h hb
 have c:(row.length:Int)>0:=by omega
 have c':0<(row.length:Int):=by omega
 unfold uJ.f
 rw[if_pos c,if_pos c',if_pos h2,if_pos h3,h1]
 rfl
theorem MR (n:Int) (E taken:List S59) (ks row:List Int) (first:Bool) (hok:ok n E) (ht:(taken.length:Int)<big) (hk:(ks.length:Int)<big) (hb:(row.length:Int)<big):
  ∃b,Ev (fun k=>oP.f k n E taken ks row first) b/\(b=true↔Bo n E taken ks first row):=by
 have F:Ev (fun k=>oP.j0 k taken ks row true n E) false:=Ev.step (fun k=>by simp only [oP.j0,if_true]<;>exact rfl) (Ev.val rfl)
 unfold oP.f
 by_cases c:(row.length:Int)<2
 ·simp only [if_pos c]
  exact⟨false,F,by simp only [Bool.false_eq_true,false_iff];intro h;have:=h.len;omega⟩
 have hl:2<=row.length:=by omega
 have h0:0<row.length:=by omega
 obtain⟨b0,e0,hs⟩:=MU n E taken ks hok ht hk row [] (by simpa using hb)
 simp only [List.nil_append,List.length_nil,Int.natCast_zero]at e0
 have G:Ev (fun k=>oP.j0 k taken ks row false n E) b0:=Ev.step (fun k=>by simp only [oP.j0,Bool.false_eq_true,if_false]<;>exact rfl) e0
 obtain⟨r1,r2,r3⟩:=FL h0 hb
 have hp:0<(row.length:Int):=by omega
 have op:=IG row h0 hb
 have main:b0=true↔(∀v∈row,0<=v/\v<n)/\(∀t∈ties row,t∈E/\t∉taken)/\(∀v∈xQ row,v∉ks/\v≠tV row)/\(xQ row).Nodup:=by
  rw[hs]
  obtain⟨a,m,z,rfl⟩:=Bz hl
  rw[Dq,Da]
  exact Pb n E taken ks a m z
 simp only [if_neg c]
 -- the test of the ends
 have ends:∀good:Prop,∀ (x:Bool),(x=false↔good)->(∀b:Bool,(b=true↔good/\b0=true)->Ev (fun k=>oP.j0 k taken ks row x n E) b):=by
  intro good x hx b hb'
  cases x with
  |true=>
   have:¬good:=fun g=>Bool.noConfusion (hx.2 g)
   have e:b=false:=Bool.eq_false_iff.2 (fun e=>this (hb'.1 e).1)
   rw[e];exact F
  |false=>
   have g:=hx.1 rfl
   have e:b=b0:=by
    cases b0
    ·exact Bool.eq_false_iff.2 (fun e=>Bool.noConfusion (hb'.1 e).2)
    exact hb'.2 ⟨g,rfl⟩
   rw[e];exact G
 cases first with
 |true=>
  simp only [if_true]
  by_cases o:tV row=tN row
  ·have ob:(tV row !=tN row)=false:=by simp[o]
   refine⟨decide (4<=row.length)&&b0,?_,?_⟩
   ·refine Ev.const op ?_
    simp only [ob,Bool.false_eq_true,if_false]
    by_cases l4:(row.length:Int)<4
    ·simp only [if_pos l4]
     refine Ev.eq F ?_
     rw[decide_eq_false (by omega)];rfl
    simp only [if_neg l4]
    refine Ev.const op ?_
    simp only [ob,Bool.false_eq_true,if_false]
    refine ends True _ (by simp[l4]) _ ?_
    simp;omega
   rw[Bool.and_eq_true,main,decide_eq_true_eq]
   constructor
   ·rintro⟨l4,h1,h2,h3,h4⟩
    exact⟨hl,h1,fun t h=>(h2 t h).1,fun _=>o,fun h=>Bool.noConfusion h,fun _=>l4,h4,h3,fun t h=>(h2 t h).2⟩
   intro h
   exact⟨h.long o,h.qR,fun t k=>⟨h.tied t k,h.new t k⟩,h.apart,h.mid⟩
  have ob:(tV row !=tN row)=true:=by simp[o]
  refine⟨false,?_,?_⟩
  ·refine Ev.const op ?_
   simp only [ob,if_true]
   exact F
  simp only [Bool.false_eq_true,false_iff]
  exact fun h=>o (h.ring rfl)
 |false=>
  simp only [Bool.false_eq_true,if_false,if_pos hp,if_pos r2,if_pos r3,r1,OL]
  by_cases k1:tV row∈ks;rotate_left
  ·refine⟨false,?_,?_⟩
   ·refine Ev.bind (Ev.eq (vT ks _ hk) (decide_eq_false k1)) ?_
    simp only [Bool.false_eq_true,if_false]
    exact F
   simp only [Bool.false_eq_true,false_iff]
   exact fun h=>k1 (h.ends rfl).1
  by_cases k2:tN row∈ks
  ·refine⟨decide (tV row=tN row->4<=row.length)&&b0,?_,?_⟩
   ·refine Ev.bind (Ev.eq (vT ks _ hk) (decide_eq_true k1)) ?_
    simp only [if_true]
    refine Ev.bind (Ev.eq (vT ks _ hk) (decide_eq_true k2)) ?_
    simp only [if_true]
    refine Ev.const op ?_
    by_cases o:tV row=tN row
    ·have ob:(tV row !=tN row)=false:=by simp[o]
     simp only [ob,Bool.false_eq_true,if_false]
     exact ends (4<=row.length) _ (by rw[decide_eq_false_iff_not];omega) _ (by rw[Bool.and_eq_true,decide_eq_true_eq];exact⟨fun h=>⟨h.1 o,h.2⟩,fun h=>⟨fun _=>h.1,h.2⟩⟩)
    have ob:(tV row !=tN row)=true:=by simp[o]
    simp only [ob,if_true]
    exact ends True _ (by simp) _ (by rw[Bool.and_eq_true,decide_eq_true_eq];exact⟨fun h=>⟨trivial,h.2⟩,fun h=>⟨fun e=>absurd e o,h.2⟩⟩)
   rw[Bool.and_eq_true,main,decide_eq_true_eq]
   constructor
   ·rintro⟨l4,h1,h2,h3,h4⟩
    exact⟨hl,h1,fun t h=>(h2 t h).1,fun h=>Bool.noConfusion h,fun _=>⟨k1,k2⟩,l4,h4,h3,fun t h=>(h2 t h).2⟩
   intro h
   exact⟨h.long,h.qR,fun t k=>⟨h.tied t k,h.new t k⟩,h.apart,h.mid⟩
  refine⟨false,?_,?_⟩
  ·refine Ev.bind (Ev.eq (vT ks _ hk) (decide_eq_true k1)) ?_
   simp only [if_true]
   refine Ev.bind (Ev.eq (vT ks _ hk) (decide_eq_false k2)) ?_
   simp only [Bool.false_eq_true,if_false]
   exact F
  simp only [Bool.false_eq_true,false_iff]
  exact fun h=>k2 (h.ends rfl).2
theorem xn (pre:List (List Int)) (t:List Int) (suf:List (List Int)):nL (pre++t::suf) (pre.length:Int)=t:=by
 unfold nL
 exact zA pre t suf _
def tot:List (List Int)->Nat
 |[]=>0
 |r::rs=>r.length+tot rs
theorem Ca (ks p:List Int) (v:Int):rV ks (p++[v])=if v∈rV ks p then rV ks p else rV ks p++[v]:=by rw[GD];rfl
theorem FY (q:List Int) (u v:Int):ties (q++[u])++[oD u v]=ties ((q++[u])++[v]):=by
 rw[show(q++[u])++[v]=q++[u,v] by simp,DK]
theorem MC (n:Int) (E T:List S59) (pe se:List (List Int)) (row ks:List Int) (b:Bool) (hpe:((pe++row::se).length:Int)<big) (hT:T.length+row.length<4000000) (hk:ks.length+row.length<4000000)
  (h:Ev (fun k=>pV.l0 k (pe++row::se) (T++ties row) (rV ks row) ((pe++[row]).length:Int) n E) b):∀ (suf p:List Int),row=p++suf->
  Ev (fun k=>pV.l1 k (pe++row::se) (T++ties p) (rV ks p) (pe.length:Int) (p.length:Int) n E) b:=by
 have hpl:(pe.length:Int)<big:=sV hpe
 intro suf
 induction suf with
 |nil=>
  intro p e
  rw[List.append_nil]at e
  subst e
  have c:¬ (row.length:Int)<(row.length:Int):=by omega
  exact Ev.step (fun k=>by simp only [pV.l1,nn,qi,if_true,xn,if_neg c,qU (t:=row) hpl]<;>exact rfl) h
 |cons v suf ih=>
  intro p e
  have c1:(p.length:Int)<(row.length:Int):=by rw[e];exact qi p v suf
  have rv:rd row (p.length:Int)=v:=by rw[e];exact rY p v suf
  have hpb:(p.length:Int)<big:=by unfold big;omega
  have hs:wrap64 ((p.length:Int)+1)=((p++[v]).length:Int):=qU hpb
  have nxt:=ih (p++[v]) (by rw[e];simp)
  have hl:=En p ks
  have hkb:((rV ks p).length:Int)<big:=by unfold big;omega
  have hk8:(rV ks p).length<17592186044416:=by omega
  rcases List.eq_nil_or_concat p with rfl|⟨q,u,rfl⟩
  ·have c0:¬ (([]:List Int).length:Int)>0:=by simp
   have et:T++ties []=T++ties ([]++[v]):=by simp[ties]
   refine Ev.step (fun k=>by simp only [pV.l1,nn,qi,if_true,xn,if_pos c1,if_neg c0,rv,hs]<;>exact rfl) (Ev.bind (vT _ v hkb) ?_)
   by_cases m:v∈rV ks []
   ·rw[decide_eq_true m]
    simp only [if_true]
    rw[Ca,if_pos m]at nxt
    rw[et]
    exact nxt
   rw[decide_eq_false m]
   simp only [Bool.false_eq_true,if_false,if_pos hk8]
   rw[Ca,if_neg m]at nxt
   rw[et]
   exact nxt
  rw[List.concat_eq_append]at*
  have c0:((q++[u]).length:Int)>0:=by simp
  have c2:0<=wrap64 (((q++[u]).length:Int) - 1):=by rw[vE q u hpb];exact nn _
  have c3:wrap64 (((q++[u]).length:Int) - 1)<(row.length:Int):=by rw[vE q u hpb];simp at c1;omega
  have ru:rd row (wrap64 (((q++[u]).length:Int) - 1))=u:=by rw[vE q u hpb,e,zF];exact rY q u (v::suf)
  have h5:(T++ties (q++[u])).length<8796093022208:=by rw[List.length_append,zP];omega
  have et:(T++ties (q++[u]))++[(⟨(oD u v).f0,(oD u v).f1⟩:S59)]=T++ties ((q++[u])++[v]):=by rw[List.append_assoc,←FY]
  refine Ev.step (fun k=>by simp only [pV.l1,nn,qi,if_true,xn,if_pos c1,if_pos c0,if_pos c2,if_pos c3,ru,rv,hs,zD,Option.bind_some,if_pos h5,et]<;>exact rfl) (Ev.bind (vT _ v hkb) ?_)
  by_cases m:v∈rV ks (q++[u])
  ·rw[decide_eq_true m]
   simp only [if_true]
   rw[Ca,if_pos m]at nxt
   exact nxt
  rw[decide_eq_false m]
  simp only [Bool.false_eq_true,if_false,if_pos hk8]
  rw[Ca,if_neg m]at nxt
  exact nxt
theorem MB (n:Int) (E:List S59) (hok:ok n E):∀ (se pe:List (List Int)) (T:List S59) (ks:List Int),((pe++se).length:Int)<big->T.length+tot se<4000000->ks.length+tot se<4000000->
  ∃b,Ev (fun k=>pV.l0 k (pe++se) T ks (pe.length:Int) n E) b/\(b=true↔uR n E ((pe.length:Int)==0) T ks se):=by
 intro se
 induction se with
 |nil=>
  intro pe T ks hb hT hk
  by_cases c:(T.length:Int)=(E.length:Int)
  ·refine⟨(ks.length:Int)==n,Ev.step (fun k=>by simp only [pV.l0,sP,if_false,if_pos c]<;>exact rfl) (Ev.val rfl),?_⟩
   simp only [uR,beq_iff_eq]
   exact⟨fun h=>⟨by omega,h⟩,fun h=>h.2⟩
  refine⟨false,Ev.step (fun k=>by simp only [pV.l0,sP,if_false,if_neg c]<;>exact rfl) (Ev.val rfl),?_⟩
  simp only [uR,Bool.false_eq_true,false_iff]
  exact fun h=>c (by omega)
 |cons row se ih=>
  intro pe T ks hb hT hk
  simp only [tot]at hT hk
  obtain⟨b1,e1,h1⟩:=MR n E T ks row ((pe.length:Int)==0) hok (by unfold big;omega) (by unfold big;omega) (by unfold big;omega)
  have base:∀k,pV.l0 (k+1) (pe++row::se) T ks (pe.length:Int) n E=(oP.f k n E T ks row ((pe.length:Int)==0)).bind fun t=>if t=true then pV.l1 k (pe++row::se) T ks (pe.length:Int) 0 n E else some false:=fun k=>by
   simp only [pV.l0,qi,nn,if_true,xn]
  cases b1 with
  |false=>
   refine⟨false,Ev.step base (Ev.bind e1 (by simp only [Bool.false_eq_true,if_false];exact Ev.val rfl)),?_⟩
   simp only [uR,Bool.false_eq_true,false_iff]
   exact fun h=>Bool.noConfusion (h1.2 h.1)
  |true=>
   have hl:=En row ks
   obtain⟨b2,e2,h2⟩:=ih (pe++[row]) (T++ties row) (rV ks row) (by simpa using hb) (by rw[List.length_append,zP];omega) (by omega)
   rw[show(pe++[row])++se=pe++row::se by simp]at e2
   have f:((((pe++[row]).length:Nat):Int)==0)=false:=by rw[beq_eq_false_iff_ne];simp;omega
   rw[f]at h2
   have L:=MC n E T pe se row ks b2 hb (by omega) (by omega) e2 row [] rfl
   refine⟨b2,Ev.step base (Ev.bind e1 ?_),?_⟩
   ·simp only [if_true]
    simpa [ties,rV] using L
   simp only [uR,h2]
   exact⟨fun h=>⟨h1.1 rfl,h⟩,fun h=>h.2⟩
def IE (n:Int) (E:List Tie) (ears:List (List Int)):Prop:=ok n E/\ears≠[]/\uR n E true [] [] ears
theorem Pj (n:Int) (E:List S59) (ears:List (List Int)) (hE:(E.length:Int)<big) (hb:(ears.length:Int)<big) (hT:tot ears<4000000):
  ∃b,Ev (fun k=>pV.f k n E ears) b/\(b=true↔IE n E ears):=by
 have F:Ev (fun k=>pV.j0 k ears true n E) false:=Ev.step (fun k=>by simp only [pV.j0,if_true]<;>exact rfl) (Ev.val rfl)
 unfold pV.f
 by_cases c:ok n E;rotate_left
 ·refine⟨false,Ev.bind (Ev.eq (yT n E hE) (decide_eq_false c)) (by simp only [Bool.false_eq_true,if_false];exact F),?_⟩
  simp only [Bool.false_eq_true,false_iff]
  exact fun x=>c x.1
 have K:=Ev.eq (yT n E hE) (decide_eq_true c)
 by_cases c1:(ears.length:Int)<1
 ·refine⟨false,Ev.bind K (by simp only [if_true,if_pos c1];exact F),?_⟩
  simp only [Bool.false_eq_true,false_iff]
  exact fun h=>h.2.1 (List.eq_nil_of_length_eq_zero (by omega))
 obtain⟨b,e,h⟩:=MB n E c ears [] [] [] (by simpa using hb) (by simpa using hT) (by simpa using hT)
 simp only [List.nil_append,List.length_nil,Int.natCast_zero,beq_self_eq_true]at e h
 have ne:ears≠[]:=fun x=>c1 (by rw[x];simp)
 by_cases c2:(ears.length:Int)> (E.length:Int)
 ·refine⟨false,Ev.bind K (by simp only [if_true,if_neg c1,decide_eq_true c2];exact F),?_⟩
  simp only [Bool.false_eq_true,false_iff]
  intro x
  have:=IJ _ _ _ _ x.2.2
  simp at this
  omega
 refine⟨b,Ev.bind K ?_,?_⟩
 ·simp only [if_true,if_neg c1,decide_eq_false c2]
  exact Ev.step (fun k=>by simp only [pV.j0,Bool.false_eq_true,if_false]<;>exact rfl) e
 rw[h]
 exact⟨fun x=>⟨c,ne,x⟩,fun x=>x.2.2⟩
def begins (x:Int) (b:List Int):Prop:=b.length<=9/\(b≠[]->∃r,b=x::r)
def zy (E:List Tie) (a:Int) (r:List Int×Bool):Prop:=r.1.length<=10/\(r.2=true->∃x s,r.1=a::x::s/\oD a x∈E)
theorem MO (n a b:Int) (E:List S59) (hl:(E.length:Int)<big):∃w,Ev (fun k=>qX.f k n E a b) w/\(w.2=true->begins a w.1):=by
 have no:Ev (fun k=>qX.j0 k a b [] true n E) ([],false):=Ev.step (fun k=>by simp only [qX.j0,if_true]<;>exact rfl) (Ev.val rfl)
 unfold qX.f
 simp only [Option.bind_some]
 have ka:=wF n a E hl
 have kb:=wF n b E hl
 by_cases ca:ok n E/\0<=a/\a<n;rotate_left
 ·rw[decide_eq_false ca]at ka
  refine⟨([],false),Ev.bind ka ?_,by simp⟩
  simp only [Bool.false_eq_true,if_false]
  exact no
 rw[decide_eq_true ca]at ka
 by_cases cc:ok n E/\0<=b/\b<n;rotate_left
 ·rw[decide_eq_false cc]at kb
  refine⟨([],false),Ev.bind ka ?_,by simp⟩
  simp only [if_true]
  exact Ev.bind kb no
 rw[decide_eq_true cc]at kb
 obtain⟨f,f1,f2,f3,F⟩:=MH n E b ca.1 cc.2
 have a0:0<=a:=ca.2.1
 have a1:a<(f.length:Int):=by omega
 have fa:=f3 a ca.2.1 ca.2.2
 have h8:=ca.1.2.1
 by_cases c:rd f a<0
 ·refine⟨([],false),Ev.bind ka ?_,by simp⟩
  simp only [if_true]
  refine Ev.bind kb (Ev.step (fun k=>by simp only [qX.j0,Bool.not_true,Bool.false_eq_true,if_false]<;>exact rfl) (Ev.bind f1 ?_))
  simp only [if_pos a0,if_pos a1,if_pos c]
  exact Ev.val rfl
 have hw:=MM n b E ca.1 f f2 F (rd f a).toNat a [a] (by omega) (by simp;omega) ca.2 (by omega)
 obtain⟨r,e1,e2,_⟩:=Bn F ca.1.2.2.1 (rd f a).toNat a ca.2 (by omega)
 rw[e1]at hw
 refine⟨([a]++(a::r).tail,true),Ev.bind ka ?_,?_⟩
 ·simp only [if_true]
  refine Ev.bind kb (Ev.step (fun k=>by simp only [qX.j0,Bool.not_true,Bool.false_eq_true,if_false]<;>exact rfl) (Ev.bind f1 ?_))
  simp only [if_pos a0,if_pos a1,if_neg c,List.nil_append,List.length_nil,Nat.reduceLT,if_true]
  exact hw
 intro _
 exact⟨by simp;omega,fun _=>⟨r,by simp⟩⟩
theorem MX (n a x:Int) (E C:List S59) (ks:List Int) (i:Int) (best:List Int) (hk:ks.length<=1000) (hb:begins x best)
  (next:∀b,begins x b->∃r,Ev (fun k=>rC.l0 k ks a x b (wrap64 (i+1)) n E n C) r/\zy E a r):∀ (suf p:List Int) (m:Int) (F:List S59),p++suf=ks->ok m F->
  ∃r,Ev (fun k=>rC.l1 k ks a x best i (p.length:Int) n E n C m F) r/\zy E a r:=by
 intro suf
 induction suf with
 |nil=>
  intro p m F e hF
  rw[List.append_nil]at e
  subst e
  have c:¬ (p.length:Int)<(p.length:Int):=by omega
  have hl:=uA hF
  obtain⟨w,wf,wb⟩:=MO m x i F (by unfold big;omega)
  obtain⟨r0,g1,g2⟩:=next best hb
  by_cases t:w.2=true
  ·have hbw:=wb t
   obtain⟨r1,h1,h2⟩:=next w.1 hbw
   by_cases z:(best.length:Int)=0
   ·refine⟨r1,Ev.step (fun k=>by simp only [rC.l1,if_neg c]<;>exact rfl) (Ev.bind wf ?_),h2⟩
    simp only [if_pos t,if_pos z];exact h1
   by_cases y:(w.1.length:Int)<(best.length:Int)
   ·refine⟨r1,Ev.step (fun k=>by simp only [rC.l1,if_neg c]<;>exact rfl) (Ev.bind wf ?_),h2⟩
    simp only [if_pos t,if_neg z,if_pos y];exact h1
   refine⟨r0,Ev.step (fun k=>by simp only [rC.l1,if_neg c]<;>exact rfl) (Ev.bind wf ?_),g2⟩
   simp only [if_pos t,if_neg z,if_neg y];exact g1
  refine⟨r0,Ev.step (fun k=>by simp only [rC.l1,if_neg c]<;>exact rfl) (Ev.bind wf ?_),g2⟩
  simp only [if_neg t];exact g1
 |cons v suf ih=>
  intro p m F e hF
  have c:(p.length:Int)<(ks.length:Int):=by rw[←e];exact qi p v suf
  have w:wrap64 ((p.length:Int)+1)=((p++[v]).length:Int):=qU (by unfold big;omega)
  by_cases q:rd ks (p.length:Int)=i
  ·obtain⟨r,h1,h2⟩:=ih (p++[v]) m F (by rw[←e];simp) hF
   exact⟨r,Ev.step (fun k=>by simp only [rC.l1,if_pos c,nn,if_true,if_pos q,w]<;>exact rfl) h1,h2⟩
  obtain⟨m',F',f1,f2⟩:=PT m (rd ks (p.length:Int)) F hF
  obtain⟨r,h1,h2⟩:=ih (p++[v]) m' F' (by rw[←e];simp) f2
  exact⟨r,Ev.step (fun k=>by simp only [rC.l1,if_pos c,nn,if_true,if_neg q,w]<;>exact rfl) (Ev.bind f1 h1),h2⟩
theorem MW (n a x:Int) (E C:List S59) (hE:ok n E) (ks:List Int) (hk:ks.length<=1000) (hC:ok n C) (ht:oD a x∈E):∀ (d:Nat) (i:Int) (best:List Int),0<=i->i+d=n->begins x best->
  ∃r,Ev (fun k=>rC.l0 k ks a x best i n E n C) r/\zy E a r:=by
 intro d
 induction d with
 |zero=>
  intro i best h0 h hb
  have c:¬i<n:=by omega
  by_cases z:(best.length:Int)=0
  ·exact⟨([],false),Ev.step (fun k=>by simp only [rC.l0,if_neg c,if_pos z]<;>exact rfl) (Ev.val rfl),by simp[zy]⟩
  obtain⟨s,hs⟩:=hb.2 (fun e=>z (by rw[e];rfl))
  have hl:=hb.1
  have g:([a]:List Int).length+best.length<17592186044416:=by simp;omega
  refine⟨(a::best,true),Ev.step (fun k=>by simp only [rC.l0,if_neg c,if_neg z,Option.bind_some,if_pos g]<;>exact rfl) (Ev.val rfl),?_,fun _=>⟨x,s,by rw[hs],ht⟩⟩
  simp;omega
 |succ d ih=>
  intro i best h0 h hb
  have c:i<n:=by omega
  have h8:=hE.2.1
  have w:wrap64 (i+1)=i+1:=w64 (by omega) (by omega)
  have hh:=vT ks i (by unfold big;omega)
  have nxt:∀b,begins x b->∃r,Ev (fun k=>rC.l0 k ks a x b (wrap64 (i+1)) n E n C) r/\zy E a r:=fun b hb=>by rw[w];exact ih (i+1) b (by omega) (by omega) hb
  by_cases q:i∈ks
  ·rw[decide_eq_true q]at hh
   obtain⟨r,h1,h2⟩:=MX n a x E C ks i best hk hb nxt ks [] n C rfl hC
   exact⟨r,Ev.step (fun k=>by simp only [rC.l0,if_pos c]<;>exact rfl) (Ev.bind hh (by simp only [if_true];exact h1)),h2⟩
  rw[decide_eq_false q]at hh
  obtain⟨r,h1,h2⟩:=nxt best hb
  exact⟨r,Ev.step (fun k=>by simp only [rC.l0,if_pos c]<;>exact rfl) (Ev.bind hh (by simp only [Bool.false_eq_true,if_false];exact h1)),h2⟩
theorem MZ (n a:Int) (E:List S59) (hE:ok n E) (ks:List Int) (hk:ks.length<=1000):∃r,Ev (fun k=>rC.f k n E ks a) r/\zy E a r:=by
 have hl:=uA hE
 unfold rC.f
 have hn:=Bq n a E hE
 cases e:next n E a with
 |nil=>
  rw[e]at hn
  exact⟨([],false),Ev.bind hn (by simp only [List.length_nil,Int.natCast_zero,if_true];exact Ev.val rfl),by simp[zy]⟩
 |cons x s=>
  rw[e]at hn
  have ht:oD a x∈E:=(xI hE.2.2.1).1 (by rw[e];simp)
  have c0:¬ ((x::s).length:Int)=0:=by simp only [List.length_cons];omega
  have c1:0<((x::s).length:Int):=by simp only [List.length_cons];omega
  have r0:rd (x::s) 0=x:=rfl
  have hh:=vT ks x (by unfold big;omega)
  by_cases q:x∈ks
  ·rw[decide_eq_true q]at hh
   refine⟨([a,x],true),Ev.bind hn ?_,by simp,fun _=>⟨x,[],rfl,ht⟩⟩
   simp only [if_neg c0,if_pos c1,r0]
   exact Ev.bind hh (by simp only [if_true];exact Ev.val rfl)
  rw[decide_eq_false q]at hh
  obtain⟨r,h1,h2⟩:=MW n a x E (cut E (oD a x)) hE ks hk (Ai _ hE) ht n.toNat 0 [] (Int.le_refl _) (by have:=hE.1;omega) ⟨by simp,by simp⟩
  refine⟨r,Ev.bind hn ?_,h2⟩
  simp only [if_neg c0,if_pos c1,r0]
  refine Ev.bind hh ?_
  simp only [Bool.false_eq_true,if_false]
  have hc:=BD n a x E (by omega)
  rw[if_pos ⟨hE,ht⟩]at hc
  exact Ev.bind hc h1
theorem Nt (n:Int) (T:List S59) (hT:(T.length:Int)<=1000):∀ (suf p:List S59) (X:List S59),p++suf=T->ok n X->∃F,Ev (fun k=>sG.l0 k T (p.length:Int) n X) (n,F)/\F.Sublist X:=by
 intro suf
 induction suf with
 |nil=>
  intro p X e hX
  rw[List.append_nil]at e
  subst e
  have c:¬ (p.length:Int)<(p.length:Int):=by omega
  exact⟨X,Ev.step (fun k=>by simp only [sG.l0,if_neg c]<;>exact rfl) (Ev.val rfl),List.Sublist.refl _⟩
 |cons t suf ih=>
  intro p X e hX
  have hl:=uA hX
  have c:(p.length:Int)<(T.length:Int):=by rw[←e];exact qi p t suf
  have w:wrap64 ((p.length:Int)+1)=((p++[t]).length:Int):=qU (by unfold big;omega)
  obtain⟨a,ha⟩:∃a,a=(nk T (p.length:Int)).f0:=⟨_,rfl⟩
  obtain⟨b,hb⟩:∃b,b=(nk T (p.length:Int)).f1:=⟨_,rfl⟩
  have hc:=BD n a b X (by omega)
  by_cases q:ok n X/\oD a b∈X
  ·rw[if_pos q]at hc
   obtain⟨F,h1,h2⟩:=ih (p++[t]) (cut X (oD a b)) (by rw[←e];simp) (Ai _ hX)
   refine⟨F,Ev.step (fun k=>by simp only [sG.l0,if_pos c,nn,if_true,w,←ha,←hb]<;>exact rfl) (Ev.bind hc (by simp only [if_true];exact h1)),h2.trans List.filter_sublist⟩
  rw[if_neg q]at hc
  obtain⟨F,h1,h2⟩:=ih (p++[t]) X (by rw[←e];simp) hX
  exact⟨F,Ev.step (fun k=>by simp only [sG.l0,if_pos c,nn,if_true,w,←ha,←hb]<;>exact rfl) (Ev.bind hc (by simp only [Bool.false_eq_true,if_false];exact h1)),h2⟩
theorem Pz {n:Int}{t:Tie}(h:inr n t):oD t.f0 t.f1=t:=by
 have:=h.2.1
 unfold oD
 split
 ·rfl
 exact absurd this (by omega)
theorem Nu (n:Int) (E:List S59) (hE:ok n E) (t:Tie) (ht:t∈E) (T:List S59) (hT:(T.length:Int)<=900):∃F,Ev (fun k=>sG.f k n E (t::T)) (n,F)/\ok n F/\F.length<E.length:=by
 have hl:=uA hE
 have ts:=Pz (hE.2.2.1 t ht)
 have hc:=BD n t.f0 t.f1 E (by omega)
 rw[ts,if_pos ⟨hE,ht⟩]at hc
 obtain⟨F,h1,h2⟩:=Nt n (t::T) (by simp;omega) T [t] (cut E t) rfl (Ai _ hE)
 have cl:=Ma (Lu hE.2.2.2) t
 rw[if_pos ht]at cl
 have hle:=h2.length_le
 refine⟨F,?_,Ju (Ai t hE) h2,by omega⟩
 unfold sG.f
 rw[Fg n E (by omega)]
 simp only [Option.bind_some]
 have c:(0:Int)<((t::T).length:Int):=by simp only [List.length_cons];omega
 have r0:nk (t::T) 0=t:=rfl
 have w:wrap64 ((0:Int)+1)=(([t]:List S59).length:Int):=by rw[w64 (by omega) (by omega)];rfl
 exact Ev.step (fun k=>by simp only [sG.l0,if_pos c,Int.le_refl,if_true,r0,w]<;>exact rfl) (Ev.bind hc (by simp only [if_true];exact h1))
def few (r:List (List Int)×Bool):Prop:=r.1.length<=64/\∀x∈r.1,2<=x.length/\x.length<=10
theorem Ms (n:Int) (E X:List S59) (out:List (List Int)) (ear:List Int) (he:ear.length<=10) (m:Nat) (hm:m<=900)
  (next:∀ks:List Int,ks.length<=m->∃r,Ev (fun k=>(sG.f k n X (ties ear)).bind fun bt=>if out.length<5864062014805 then pz.l0 k (out++[ear]) ks n E bt.1 bt.2 else none) r/\few r):
  ∀ (suf p:List Int) (ks:List Int),p++suf=ear->ks.length+suf.length<=m->∃r,Ev (fun k=>pz.l2 k out ks ear (ties p) (p.length:Int) n E n X) r/\few r:=by
 intro suf
 induction suf with
 |nil=>
  intro p ks e hk
  rw[List.append_nil]at e
  subst e
  have c:¬ (p.length:Int)<(p.length:Int):=by omega
  obtain⟨r,h1,h2⟩:=next ks (by simpa using hk)
  exact⟨r,Ev.step (fun k=>by simp only [pz.l2,if_neg c]<;>exact rfl) h1,h2⟩
 |cons v suf ih=>
  intro p ks e hk
  simp only [List.length_cons]at hk
  have c1:(p.length:Int)<(ear.length:Int):=by rw[←e];exact qi p v suf
  have rv:rd ear (p.length:Int)=v:=by rw[←e];exact rY p v suf
  have hpb:(p.length:Int)<big:=by unfold big;omega
  have hs:wrap64 ((p.length:Int)+1)=((p++[v]).length:Int):=qU hpb
  have hh:=vT ks v (by unfold big;omega)
  have hk8:ks.length<17592186044416:=by omega
  have e':(p++[v])++suf=ear:=by rw[←e];simp
  rcases List.eq_nil_or_concat p with rfl|⟨q,u,rfl⟩
  ·have c0:¬ (([]:List Int).length:Int)>0:=by simp
   have et:ties ([]:List Int)=ties ([]++[v]):=by simp[ties]
   by_cases m:v∈ks
   ·rw[decide_eq_true m]at hh
    obtain⟨r,h1,h2⟩:=ih ([]++[v]) ks e' (by omega)
    refine⟨r,Ev.step (fun k=>by simp only [pz.l2,if_pos c1,if_neg c0,nn,if_true,rv,hs]<;>exact rfl) (Ev.bind hh ?_),h2⟩
    simp only [if_true];rw[et];exact h1
   rw[decide_eq_false m]at hh
   obtain⟨r,h1,h2⟩:=ih ([]++[v]) (ks++[v]) e' (by simp;omega)
   refine⟨r,Ev.step (fun k=>by simp only [pz.l2,if_pos c1,if_neg c0,nn,if_true,rv,hs]<;>exact rfl) (Ev.bind hh ?_),h2⟩
   simp only [Bool.false_eq_true,if_false,if_pos hk8];rw[et];exact h1
  rw[List.concat_eq_append]at*
  have c0:((q++[u]).length:Int)>0:=by simp
  have c2:0<=wrap64 (((q++[u]).length:Int) - 1):=by rw[vE q u hpb];exact nn _
  have c3:wrap64 (((q++[u]).length:Int) - 1)<(ear.length:Int):=by rw[vE q u hpb];simp at c1;omega
  have ru:rd ear (wrap64 (((q++[u]).length:Int) - 1))=u:=by rw[vE q u hpb,←e,zF];exact rY q u (v::suf)
  have h5:(ties (q++[u])).length<8796093022208:=by rw[zP];omega
  have et:ties (q++[u])++[(⟨(oD u v).f0,(oD u v).f1⟩:S59)]=ties ((q++[u])++[v]):=by rw[←FY]
  by_cases m:v∈ks
  ·rw[decide_eq_true m]at hh
   obtain⟨r,h1,h2⟩:=ih ((q++[u])++[v]) ks e' (by omega)
   refine⟨r,Ev.step (fun k=>by simp only [pz.l2,if_pos c1,if_pos c0,if_pos c2,if_pos c3,nn,if_true,ru,rv,hs,zD,Option.bind_some,if_pos h5,et]<;>exact rfl) (Ev.bind hh ?_),h2⟩
   simp only [if_true];exact h1
  rw[decide_eq_false m]at hh
  obtain⟨r,h1,h2⟩:=ih ((q++[u])++[v]) (ks++[v]) e' (by simp;omega)
  refine⟨r,Ev.step (fun k=>by simp only [pz.l2,if_pos c1,if_pos c0,if_pos c2,if_pos c3,nn,if_true,ru,rv,hs,zD,Option.bind_some,if_pos h5,et]<;>exact rfl) (Ev.bind hh ?_),h2⟩
  simp only [Bool.false_eq_true,if_false,if_pos hk8];exact h1
theorem Mr (n:Int) (E X:List S59) (hX:ok n X) (out:List (List Int)) (ks:List Int) (hk:ks.length<=900) (next:∀at_:Int,∃r,Ev (fun k=>pz.j3 k out ks at_ n E n X) r/\few r):∀ (d:Nat) (i:Int),0<=i->i+d=n->
  ∃r,Ev (fun k=>pz.l1 k out ks i n E n X) r/\few r:=by
 have h8:=hX.2.1
 intro d
 induction d with
 |zero=>
  intro i h0 h
  have c:¬i<n:=by omega
  obtain⟨r,h1,h2⟩:=next i
  exact⟨r,Ev.step (fun k=>by simp only [pz.l1,if_neg c]<;>exact rfl) h1,h2⟩
 |succ d ih=>
  intro i h0 h
  have c:i<n:=by omega
  have w:wrap64 (i+1)=i+1:=w64 (by omega) (by omega)
  have hh:=vT ks i (by unfold big;omega)
  obtain⟨r,h1,h2⟩:=ih (i+1) (by omega) (by omega)
  by_cases q:i∈ks
  ·rw[decide_eq_true q]at hh
   have ha:=Lm n i X hX
   obtain⟨b,hb⟩:∃b,b=(((G.next n X i).length:Int)==0):=⟨_,rfl⟩
   rw[←hb]at ha
   cases b with
   |true=>exact⟨r,Ev.step (fun k=>by simp only [pz.l1,if_pos c]<;>exact rfl) (Ev.bind hh (by simp only [if_true];exact Ev.bind ha (by simp only [if_true,w];exact h1))),h2⟩
   |false=>
    obtain⟨r',g1,g2⟩:=next i
    exact⟨r',Ev.step (fun k=>by simp only [pz.l1,if_pos c]<;>exact rfl) (Ev.bind hh (by simp only [if_true];exact Ev.bind ha (by simp only [Bool.false_eq_true,if_false];exact g1))),g2⟩
  rw[decide_eq_false q]at hh
  exact⟨r,Ev.step (fun k=>by simp only [pz.l1,if_pos c]<;>exact rfl) (Ev.bind hh (by simp only [Bool.false_eq_true,if_false,w];exact h1)),h2⟩
theorem Mq (n:Int) (E:List S59):∀ (m:Nat) (X:List S59) (ks:List Int) (out:List (List Int)),X.length<=m->ok n X->ks.length+10*m<=800->out.length+m<=64->(∀x∈out,2<=x.length/\x.length<=10)->
  ∃r,Ev (fun k=>pz.l0 k out ks n E n X) r/\few r:=by
 intro m
 induction m with
 |zero=>
  intro X ks out hm hX hk ho hr
  have c:¬ (X.length:Int)>0:=by omega
  exact⟨(out,true),Ev.step (fun k=>by simp only [pz.l0,if_neg c]<;>exact rfl) (Ev.val rfl),by simpa using ho,hr⟩
 |succ m ih=>
  intro X ks out hm hX hk ho hr
  by_cases c:(X.length:Int)>0;rotate_left
  ·exact⟨(out,true),Ev.step (fun k=>by simp only [pz.l0,if_neg c]<;>exact rfl) (Ev.val rfl),by simp only;omega,hr⟩
  have nxt:∀at_:Int,∃r,Ev (fun k=>pz.j3 k out ks at_ n E n X) r/\few r:=by
   intro at_
   obtain⟨⟨ear,t⟩,f1,f2,f3⟩:=MZ n at_ X hX ks (by omega)
   cases t with
   |false=>exact⟨([],false),Ev.step (fun k=>by simp only [pz.j3]<;>exact rfl) (Ev.bind f1 (by simp only [Bool.false_eq_true,if_false];exact Ev.val rfl)),by simp[few]⟩
   |true=>
    obtain⟨x,s,e,ht⟩:=f3 rfl
    simp only at e f2
    obtain⟨F,g1,g2,g3⟩:=Nu n X hX (oD at_ x) ht (ties (x::s)) (by rw[zP];rw[e]at f2;simp only [List.length_cons]at*;omega)
    have te:ties ear=oD at_ x::ties (x::s):=by rw[e];rfl
    rw[←te]at g1
    have o5:out.length<5864062014805:=by omega
    obtain⟨r,h1,h2⟩:=Ms n E X out ear f2 (ks.length+10) (by omega) (fun ks' hk'=>by
     obtain⟨r,h1,h2⟩:=ih F ks' (out++[ear]) (by omega) g2 (by omega) (by simp;omega) (fun y hy=>by
      rcases List.mem_append.1 hy with hy|hy
      ·exact hr y hy
      rw[List.mem_singleton]at hy;rw[hy];exact⟨by rw[e];simp,f2⟩)
     exact⟨r,Ev.bind g1 (by simp only [if_pos o5];exact h1),h2⟩) ear [] ks rfl (by omega)
    exact⟨r,Ev.step (fun k=>by simp only [pz.j3]<;>exact rfl) (Ev.bind f1 (by simp only [if_true];exact h1)),h2⟩
  obtain⟨r,h1,h2⟩:=Mr n E X hX out ks (by omega) nxt n.toNat 0 (Int.le_refl _) (by have:=hX.1;omega)
  exact⟨r,Ev.step (fun k=>by simp only [pz.l0,if_pos c]<;>exact rfl) h1,h2⟩
theorem Mt (n:Int) (E:List S59) (hb:(E.length:Int)<big):∃r,Ev (fun k=>pz.f k n E) r/\few r:=by
 have no:Ev (fun k=>pz.j0 k [] true n E) ([],false):=Ev.step (fun k=>by simp only [pz.j0,if_true]<;>exact rfl) (Ev.val rfl)
 have fw:few ([],false):=by simp[few]
 unfold pz.f
 simp only [Option.bind_some]
 have hk:=yT n E hb
 by_cases c:ok n E
 ·rw[decide_eq_true c]at hk
  have hl:=uA c
  by_cases d:n<3
  ·exact⟨_,Ev.bind hk (by simp only [if_true,if_pos d];exact no),fw⟩
  obtain⟨w,hw⟩:=F5 n E c
  by_cases e:w=1
  ·obtain⟨L,hL⟩:=LQ n E c
   obtain⟨b,hb'⟩:∃b,b=decide ((L.length:Int)>0):=⟨_,rfl⟩
   cases b with
   |true=>exact⟨_,Ev.bind hk (by simp only [if_true,if_neg d];exact Ev.bind hw (by simp only [if_pos e];exact Ev.bind hL (by rw[←hb'];exact no))),fw⟩
   |false=>
    obtain⟨r,h1,h2⟩:=Mq n E E.length E [0] [] (Nat.le_refl _) c (by simp;omega) (by simp;omega) (by simp)
    refine⟨r,Ev.bind hk (by simp only [if_true,if_neg d];exact Ev.bind hw (by simp only [if_pos e];exact Ev.bind hL (by rw[←hb'];exact Ev.step (fun k=>by simp only [pz.j0,Bool.false_eq_true,if_false,Fg n E (by omega),Option.bind_some]<;>exact rfl) h1))),h2⟩
  exact⟨_,Ev.bind hk (by simp only [if_true,if_neg d];exact Ev.bind hw (by simp only [if_neg e];exact no)),fw⟩
 rw[decide_eq_false c]at hk
 exact⟨_,Ev.bind hk (by simp only [Bool.false_eq_true,if_false];exact no),fw⟩
theorem O5 (s:List Int) (hs:vL s) (hl:s.length<=2000):∀ (d:Nat) (p n:Int) (E:List S59),d<=20->0<=p->p<=50000 - 2*d->0<=n->n<=8->E.length+d<=55->
  ∃r,Ev (fun k=>p_.l2 k (d:Int) s p n E) r/\qO (-1) 9 60 (100+2*d) p r:=by
 intro d
 induction d with
 |zero=>
  intro p n E hd h0 h1 n0 n1 hE
  have c:¬ (0:Int)>0:=by omega
  obtain⟨v,v1,v2,v3⟩:=uf s hs hl p 8 h0 (by omega)
  by_cases z:v=0
  ·obtain⟨⟨m,F,q⟩,r1,r2⟩:=Lp s hs hl (p+1) (by omega) (by omega)
   refine⟨(m,F,q),Ev.step (fun k=>by simp only [p_.l2,Int.natCast_zero,if_neg c]<;>exact rfl) (Ev.bind v1 ?_),by unfold qO at*;omega⟩
   simp only [if_pos z]
   exact Ev.bind r1 (Ev.val rfl)
  refine⟨(n,E,p+1),Ev.step (fun k=>by simp only [p_.l2,Int.natCast_zero,if_neg c]<;>exact rfl) (Ev.bind v1 ?_),by simp[qO];omega⟩
  simp only [if_neg z]
  exact Ev.val rfl
 |succ d ih=>
  intro p n E hd h0 h1 n0 n1 hE
  have c:((d+1:Nat):Int)>0:=by omega
  have w:wrap64 (((d+1:Nat):Int) - 1)=(d:Int):=by rw[w64 (by omega) (by omega)];omega
  obtain⟨v,v1,_⟩:=uf s hs hl p n h0 (by omega)
  obtain⟨u,u1,_⟩:=uf s hs hl (p+1) n (by omega) (by omega)
  obtain⟨m',F,t,a1,a2,a3⟩:=zh n v u E (by omega)
  cases t with
  |true=>
   obtain⟨r,r1,r2⟩:=ih (p+1+1) m' F (by omega) (by omega) (by omega) (by omega) (by omega) (by omega)
   refine⟨r,Ev.step (fun k=>by simp only [p_.l2,if_pos c,w]<;>exact rfl) (Ev.bind v1 (Ev.bind u1 (Ev.bind a1 ?_))),by unfold qO at*;omega⟩
   simp only [if_true];exact r1
  |false=>
   obtain⟨r,r1,r2⟩:=ih (p+1+1) n E (by omega) (by omega) (by omega) (by omega) (by omega) (by omega)
   refine⟨r,Ev.step (fun k=>by simp only [p_.l2,if_pos c,w]<;>exact rfl) (Ev.bind v1 (Ev.bind u1 (Ev.bind a1 ?_))),by unfold qO at*;omega⟩
   simp only [Bool.false_eq_true,if_false];exact r1
theorem O4 (s:List Int) (hs:vL s) (hl:s.length<=2000):∀ (d:Nat) (i p n:Int) (E:List S59),i+d=9->1<=i->0<=p->p<=40000 - 2*d->0<=n->n<=8->(E.length:Int)<=2*i->
  ∃r,Ev (fun k=>p_.l1 k i s p n E) r/\qO (-1) 9 60 (120+2*d) p r:=by
 have done:∀ (i p n:Int) (E:List S59),¬i<n->i<=9->0<=p->p<=40000->0<=n->n<=8->(E.length:Int)<=2*i->∃r,Ev (fun k=>p_.l1 k i s p n E) r/\qO (-1) 9 60 120 p r:=by
  intro i p n E c i9 h0 h1 n0 n1 hE
  obtain⟨v,v1,v2,v3⟩:=uf s hs hl p 5 h0 (by omega)
  obtain⟨r,r1,r2⟩:=O5 s hs hl v.toNat (p+1) n E (by omega) (by omega) (by omega) n0 n1 (by omega)
  rw[Int.toNat_of_nonneg v2]at r1
  exact⟨r,Ev.step (fun k=>by simp only [p_.l1,if_neg c]<;>exact rfl) (Ev.bind v1 r1),by unfold qO at*;omega⟩
 intro d
 induction d with
 |zero=>
  intro i p n E hi i1 h0 h1 n0 n1 hE
  obtain⟨r,r1,r2⟩:=done i p n E (by omega) (by omega) h0 (by omega) n0 n1 hE
  exact⟨r,r1,by unfold qO at*;omega⟩
 |succ d ih=>
  intro i p n E hi i1 h0 h1 n0 n1 hE
  by_cases c:i<n
  ·obtain⟨v,v1,v2,v3⟩:=uf s hs hl p i h0 (by omega)
   obtain⟨m',F,t,a1,a2,a3⟩:=zh n i v E (by omega)
   obtain⟨u,u1,u2,u3⟩:=uf s hs hl (p+1) (wrap64 (i - 1)) (by omega) (by omega)
   have i0:¬i=0:=by omega
   obtain⟨m2,F2,t2,b1,b2,b3⟩:=zh m' i (Int.tmod (wrap64 ((wrap64 (v+1))+u)) i) F (by omega)
   have w:wrap64 (i+1)=i+1:=w64 (by omega) (by omega)
   obtain⟨r,r1,r2⟩:=ih (i+1) (p+1+1) m2 F2 (by omega) (by omega) (by omega) (by omega) (by omega) (by omega) (by omega)
   refine⟨r,Ev.step (fun k=>by simp only [p_.l1,if_pos c]<;>exact rfl) (Ev.bind v1 (Ev.bind a1 (Ev.bind u1 ?_))),by unfold qO at*;omega⟩
   simp only [if_neg i0,w]
   exact Ev.bind b1 r1
  obtain⟨r,r1,r2⟩:=done i p n E c (by omega) h0 (by omega) n0 n1 hE
  exact⟨r,r1,by unfold qO at*;omega⟩
theorem O3 (s:List Int) (hs:vL s) (hl:s.length<=2000) (m:Int) (m1:1<=m) (m8:m<=8) (p:Int) (h0:0<=p) (h1:p<=30000):∀ (d:Nat) (i n:Int) (E:List S59),i+d=m->0<=i->0<=n->n<=8->(E.length:Int)<=i->
  ∃r,Ev (fun k=>p_.l0 k m i s p n E) r/\qO (-1) 9 60 150 p r:=by
 intro d
 induction d with
 |zero=>
  intro i n E hi i0 n0 n1 hE
  have c:¬i<m:=by omega
  obtain⟨r,r1,r2⟩:=O4 s hs hl (9 - m).toNat m p n E (by omega) m1 h0 (by omega) n0 n1 (by omega)
  exact⟨r,Ev.step (fun k=>by simp only [p_.l0,if_neg c]<;>exact rfl) r1,by unfold qO at*;omega⟩
 |succ d ih=>
  intro i n E hi i0 n0 n1 hE
  have c:i<m:=by omega
  have mz:¬m=0:=by omega
  have w:wrap64 (i+1)=i+1:=w64 (by omega) (by omega)
  obtain⟨m',F,t,a1,a2,a3⟩:=zh n i (Int.tmod (i+1) m) E (by omega)
  obtain⟨r,r1,r2⟩:=ih (i+1) m' F (by omega) (by omega) (by omega) (by omega) (by omega)
  exact⟨r,Ev.step (fun k=>by simp only [p_.l0,if_pos c,if_neg mz,w]<;>exact rfl) (Ev.bind a1 r1),r2⟩
theorem O1 (s:List Int) (hs:vL s) (hl:s.length<=2000) (p:Int) (h0:0<=p) (h1:p<=20000):∃r,Ev (fun k=>p_.f k s p) r/\qO (-1) 9 60 160 p r:=by
 obtain⟨v,v1,v2,v3⟩:=uf s hs hl p 6 h0 (by omega)
 have w1:wrap64 (3+v)=3+v:=w64 (by omega) (by omega)
 have w2:wrap64 ((3+v) - 2)=3+v - 2:=w64 (by omega) (by omega)
 obtain⟨u,u1,u2,u3⟩:=uf s hs hl (p+1) (3+v - 2) (by omega) (by omega)
 have w3:wrap64 (3+u)=3+u:=w64 (by omega) (by omega)
 obtain⟨r,r1,r2⟩:=O3 s hs hl (3+u) (by omega) (by omega) (p+1+1) (by omega) (by omega) (3+u).toNat 0 (3+v) [] (by omega) (Int.le_refl _) (by omega) (by omega) (by simp)
 refine⟨r,?_,by unfold qO at*;omega⟩
 unfold p_.f
 refine Ev.bind v1 ?_
 simp only [w1,w2]
 refine Ev.bind u1 ?_
 simp only [w3]
 exact r1
def short (r:List (List Int)):Prop:=r.length<=70/\∀x∈r,x.length<=12
theorem Dv {r:List (List Int)}(h:short r) (i:Int):(nL r i).length<=12:=by
 unfold nL
 rw[List.getD_eq_getElem?_getD]
 cases e:r[i.toNat]? with
 |none=>simp
 |some x=>exact h.2 x (List.mem_of_getElem? e)
theorem FQ {r:List (List Int)}(h:short r) (i:Nat) {x:List Int}(hx:x.length<=12):short (r.set i x):=
 ⟨by rw[List.length_set];exact h.1,fun y hy=>(List.mem_or_eq_of_mem_set hy).elim (fun q=>h.2 y q) (fun q=>by rw[q];exact hx)⟩
theorem Mo (s:List Int) (q n:Int) (E:List S59) (r:List (List Int)) (hr:short r) (i:Int) (h0:0<=i) (h1:i<(r.length:Int)):∀ (d:Nat) (x:List Int),d<=(nL r i).length->x.length+d<=12->
  ∃z,Ev (fun k=>rQ.l0 k r i x ((d:Int) - 1) s q n E) (n,E,z,q)/\short z:=by
 intro d
 induction d with
 |zero=>
  intro x hd hx
  have c:¬ ((0:Nat):Int) - 1>=0:=by omega
  exact⟨_,Ev.step (fun k=>by simp only [rQ.l0,if_neg c,if_pos h0,if_pos h1]<;>exact rfl) (Ev.val rfl),FQ hr _ (by omega)⟩
 |succ d ih=>
  intro x hd hx
  have hl:=Dv hr i
  have c:((d+1:Nat):Int) - 1>=0:=by omega
  have c2:0<=((d+1:Nat):Int) - 1:=by omega
  have c3:((d+1:Nat):Int) - 1<((nL r i).length:Int):=by omega
  have x8:x.length<17592186044416:=by omega
  have w:wrap64 (((d+1:Nat):Int) - 1 - 1)=(d:Int) - 1:=by rw[w64 (by omega) (by omega)];omega
  obtain⟨z,h2,h3⟩:=ih (x++[rd (nL r i) (((d+1:Nat):Int) - 1)]) (by omega) (by simp;omega)
  exact⟨z,Ev.step (fun k=>by simp only [rQ.l0,if_pos c,if_pos h0,if_pos h1,if_pos c2,if_pos c3,if_pos x8,w]<;>exact rfl) h2,h3⟩
theorem ML {r:List (List Int)×Bool}(h:few r):short r.1:=⟨by have:=h.1;omega,fun x hx=>by have:=h.2 x hx;omega⟩
theorem IW {r:List (List Int)}{b:Bool}(h:few (r,b)) {i:Int}(h0:0<=i) (h1:i<(r.length:Int)):2<=(nL r i).length:=by
 unfold nL
 rw[List.getD_eq_getElem?_getD,List.getElem?_eq_getElem (by omega)]
 exact(h.2 _ (List.getElem_mem _)).1
theorem Mx (s:List Int) (hs:vL s) (hl:s.length<=2000) (p:Int) (h0:0<=p) (h1:p<=20000):∃n E r q,Ev (fun k=>rQ.f k s p) (n,E,r,q)/\E.length<=60/\short r:=by
 obtain⟨⟨n,E,q⟩,r1,r2⟩:=O1 s hs hl p h0 h1
 simp only [qO]at r2
 obtain⟨⟨r,b⟩,e1,e2⟩:=Mt n E (by unfold big;omega)
 have hr:=ML e2
 simp only at hr
 have hr70:=hr.1
 have h60:E.length<=60:=by omega
 unfold rQ.f
 by_cases c:(r.length:Int)=0
 ·exact⟨n,E,[[0,1,2,0]],q,Ev.bind r1 (Ev.bind e1 (by simp only [if_pos c];exact Ev.val rfl)),h60,by simp[short]⟩
 obtain⟨i,i1,i2,i3⟩:=uf s hs hl q (r.length:Int) (by omega) (by omega)
 obtain⟨v,v1,v2,v3⟩:=uf s hs hl (q+1) 8 (by omega) (by omega)
 have ir:i<(r.length:Int):=by omega
 have ile:i<=(r.length:Int):=by omega
 have o5:r.length<5864062014805:=by omega
 have core:∀ (g:Nat->Option (Int×List S59×List (List Int)×Int)) (z:List (List Int)) (q':Int),Ev g (n,E,z,q')->short z->∃n' E' z' q'',Ev g (n',E',z',q'')/\E'.length<=60/\short z':=fun g z q' hg hz=>⟨n,E,z,q',hg,h60,hz⟩
 by_cases v0:v=0
 ·have a1:([]:List (List Int)).length+(r.take i.toNat).length<5864062014805:=by simp;omega
  have w:wrap64 (i+1)=i+1:=w64 (by omega) (by omega)
  have a2:0<=i+1:=by omega
  have a3:i+1<=(r.length:Int):=by omega
  have a4:([]++r.take i.toNat:List (List Int)).length+(r.drop (i+1).toNat).length<5864062014805:=by simp;omega
  refine core _ ([]++r.take i.toNat++r.drop (i+1).toNat) (q+1+1) (Ev.bind r1 (Ev.bind e1 ?_)) ⟨by simp;omega,fun x hx=>?_⟩
  ·simp only [if_neg c]
   refine Ev.bind i1 (Ev.bind v1 ?_)
   simp only [if_pos v0,if_pos i2,if_pos ile,Option.bind_some,if_pos a1,w,if_pos a2,if_pos a3,if_pos a4]
   exact Ev.val rfl
  rcases List.mem_append.1 hx with hx|hx
  ·exact hr.2 x (List.mem_of_mem_take (by simpa using hx))
  exact hr.2 x (List.mem_of_mem_drop hx)
 by_cases v1':v=1
 ·by_cases g:1<=((nL r i).length:Int)
  ·refine core _ (r.set i.toNat ((nL r i).drop 1)) (q+1+1) (Ev.bind r1 (Ev.bind e1 ?_)) (FQ hr _ (by have:=Dv hr i;rw[List.length_drop];omega))
   simp only [if_neg c]
   refine Ev.bind i1 (Ev.bind v1 ?_)
   simp only [if_neg v0,if_pos v1',if_pos i2,if_pos ir,if_pos g]
   exact Ev.val rfl
  exact absurd (by have:=IW e2 i2 ir;omega) g
 by_cases v2':v=2
 ·refine core _ (r++[[0,1]]) (q+1+1) (Ev.bind r1 (Ev.bind e1 ?_)) ⟨by have:=e2.1;simp at*;omega,fun x hx=>?_⟩
  ·simp only [if_neg c]
   refine Ev.bind i1 (Ev.bind v1 ?_)
   simp only [if_neg v0,if_neg v1',if_pos v2',if_pos o5]
   exact Ev.val rfl
  rcases List.mem_append.1 hx with hx|hx
  ·exact hr.2 x hx
  rw[List.mem_singleton]at hx;subst hx;decide
 by_cases v3':v=3
 ·obtain⟨j,j1,j2,j3⟩:=uf s hs hl (q+1+1) ((nL r i).length:Int) (by omega) (by omega)
  obtain⟨u,u1,u2,u3⟩:=uf s hs hl (q+1+1+1) 9 (by omega) (by omega)
  by_cases g:j<((nL r i).length:Int)
  ·refine core _ (r.set i.toNat ((nL r i).set j.toNat u)) (q+1+1+1+1) (Ev.bind r1 (Ev.bind e1 ?_)) (FQ hr _ (by rw[List.length_set];exact Dv hr i))
   simp only [if_neg c]
   refine Ev.bind i1 (Ev.bind v1 ?_)
   simp only [if_neg v0,if_neg v1',if_neg v2',if_pos v3',if_pos i2,if_pos ir]
   refine Ev.bind j1 (Ev.bind u1 ?_)
   simp only [if_pos j2,if_pos g]
   exact Ev.val rfl
  exact absurd (by have:=IW e2 i2 ir;omega) g
 by_cases v4':v=4
 ·have hln:=Dv hr i
  have w:wrap64 (((nL r i).length:Int) - 1)=((nL r i).length:Int) - 1:=w64 (by omega) (by omega)
  obtain⟨z,z1,z2⟩:=Mo s (q+1+1) n E r hr i i2 ir (nL r i).length [] (Nat.le_refl _) (by simp;omega)
  refine core _ z (q+1+1) (Ev.bind r1 (Ev.bind e1 ?_)) z2
  simp only [if_neg c]
  refine Ev.bind i1 (Ev.bind v1 ?_)
  simp only [if_neg v0,if_neg v1',if_neg v2',if_neg v3',if_pos v4',if_pos i2,if_pos ir,w]
  exact z1
 refine core _ r (q+1+1) (Ev.bind r1 (Ev.bind e1 ?_)) hr
 simp only [if_neg c]
 refine Ev.bind i1 (Ev.bind v1 ?_)
 simp only [if_neg v0,if_neg v1',if_neg v2',if_neg v3',if_neg v4']
 exact Ev.val rfl
theorem J_:∀ {r:List (List Int)}(h:∀x∈r,x.length<=12),tot r<=12*r.length
 |[],_=>by simp[tot]
 |x::r,h=>by
  have h1:=h x List.mem_cons_self
  have h2:=J_ (r:=r) (fun y hy=>h y (List.mem_cons_of_mem _ hy))
  simp only [tot,List.length_cons]
  omega
theorem Mm (l:List Int) (h:vL l):∃n E r,Ev (fun k=>zI.f k l) (n,E,r)/\E.length<=60/\short r:=by
 obtain⟨s,o1,o2,o3⟩:=N_ l h
 obtain⟨n,E,r,q,r1,r2,r3⟩:=Mx s o2 o3 0 (by omega) (by omega)
 refine⟨n,E,r,?_,r2,r3⟩
 unfold zI.f
 simp only [o1,Option.bind_some]
 exact Ev.bind r1 (Ev.val rfl)
def BG (n:Int) (E:List Tie) (row:List Int):Prop:=(∀v∈row,0<=v/\v<n)/\∀t∈ties row,t∈E
instance(n:Int) (E:List Tie) (row:List Int):Decidable (BG n E row):=by unfold BG;infer_instance
theorem PM (n:Int) (E:List S59) (hE:(E.length:Int)<big):∀ (suf q:List Int) (a:Int),((q++a::suf).length:Int)<big->
  Ev (fun k=>qQ.l0 k (q++a::suf) (q++a::suf) ((q++a::suf).length:Int) ((q.length:Int)+1) n E) (decide ((∀v∈suf,0<=v/\v<n)/\∀t∈ties (a::suf),t∈E)):=by
 intro suf
 induction suf with
 |nil=>
  intro q a hb
  have c:¬ (q.length:Int)+1<((q++[a]).length:Int):=by simp
  refine Ev.step (fun k=>by simp only [qQ.l0,if_neg c]<;>exact rfl) (Ev.val ?_)
  simp[ties]
 |cons t suf ih=>
  intro q a hb
  have hl:(q++a::t::suf).length=q.length+(suf.length+2):=by simp
  have hb2:(q.length:Int)+(suf.length+2)<4611686018427387904:=by unfold big at hb;omega
  have c1:(q.length:Int)+1<((q++a::t::suf).length:Int):=by omega
  have c2:0<=(q.length:Int)+1:=by omega
  have c3:(q.length:Int)+1>0:=by omega
  have w1:wrap64 ((q.length:Int)+1 - 1)=(q.length:Int):=by rw[w64 (by omega) (by omega)];omega
  have c4:0<=(q.length:Int):=nn _
  have c5:(q.length:Int)<((q++a::t::suf).length:Int):=by omega
  have r1:rd (q++a::t::suf) ((q.length:Int)+1)=t:=by
   have:=rY (q++[a]) t suf
   simpa using this
  have r2:rd (q++a::t::suf) (q.length:Int)=a:=rY q a (t::suf)
  have w2:wrap64 ((q.length:Int)+1+1)=((q++[a]).length:Int)+1:=by rw[w64 (by omega) (by omega)];simp
  refine Ev.step (fun k=>by simp only [qQ.l0,if_pos c1,if_pos c2,r1,I7,Option.bind_some]<;>exact rfl) ?_
  by_cases k1:0<=t/\t<n;rotate_left
  ·rw[decide_eq_false k1]
   simp only [Bool.false_eq_true,if_false]
   exact Ev.val (congrArg some (decide_eq_false (fun h=>k1 (h.1 t (by simp)))).symm)
  rw[decide_eq_true k1]
  simp only [if_true,if_pos c3,w1,if_pos c4,if_pos c5,r2]
  refine Ev.bind (I1 n a t E hE) ?_
  by_cases k2:oD a t∈E
  ·rw[decide_eq_true k2]
   simp only [if_true,w2]
   have:=ih (q++[a]) t (by simpa using hb)
   have e:(q++[a])++t::suf=q++a::t::suf:=by simp
   rw[e]at this
   refine Ev.eq this ?_
   refine decide_eq_decide.2 ⟨fun h=>⟨fun v hv=>?_,fun s hs=>?_⟩,fun h=>⟨fun v hv=>h.1 v (by simp[hv]),fun s hs=>h.2 s (by simp[ties,hs])⟩⟩
   ·rcases List.mem_cons.1 hv with rfl|hv
    ·exact k1
    exact h.1 v hv
   simp only [ties,List.mem_cons]at hs
   rcases hs with rfl|hs
   ·exact k2
   exact h.2 s hs
  rw[decide_eq_false k2]
  simp only [Bool.false_eq_true,if_false]
  exact Ev.val (congrArg some (decide_eq_false (fun h=>k2 (h.2 _ (by simp[ties])))).symm)
theorem Ke (n:Int) (E:List S59) (row:List Int) (hE:(E.length:Int)<big) (hr:(row.length:Int)<big):Ev (fun k=>qQ.f k n E row) (decide (BG n E row)):=by
 unfold qQ.f BG
 cases row with
 |nil=>
  have c:¬ (0:Int)<(([]:List Int).length:Int):=by simp
  exact Ev.step (fun k=>by simp only [qQ.l0,if_neg c]<;>exact rfl) (Ev.val (by simp[ties]))
 |cons a suf=>
  have c1:(0:Int)<((a::suf).length:Int):=by rw[List.length_cons];omega
  have c3:¬ (0:Int)>0:=by omega
  have r1:rd (a::suf) 0=a:=rfl
  have w2:wrap64 (0+1)=1:=by rw[w64 (by omega) (by omega)];rfl
  refine Ev.step (fun k=>by simp only [qQ.l0,if_pos c1,Int.le_refl,if_true,r1,I7,Option.bind_some]<;>exact rfl) ?_
  by_cases k1:0<=a/\a<n
  ·rw[decide_eq_true k1]
   simp only [if_true,if_neg c3,w2]
   have:=PM n E hE suf [] a (by simpa using hr)
   simp only [List.nil_append,List.length_nil]at this
   refine Ev.eq this ?_
   refine decide_eq_decide.2 ⟨fun h=>⟨fun v hv=>?_,h.2⟩,fun h=>⟨fun v hv=>h.1 v (by simp[hv]),h.2⟩⟩
   rcases List.mem_cons.1 hv with rfl|hv
   ·exact k1
   exact h.1 v hv
  rw[decide_eq_false k1]
  simp only [Bool.false_eq_true,if_false]
  exact Ev.val (congrArg some (decide_eq_false (fun h=>k1 (h.1 a (by simp)))).symm)
theorem M9 (a:Int):∀ (suf p:List Int),((p++suf).length:Int)<big->
  ∃r,Ev (fun k=>tC.l0 k (p++suf) a ((p++suf).length:Int) (p.length:Int)) r/\(r>=0↔a∈suf):=by
 intro suf
 induction suf with
 |nil=>
  intro p hb
  refine⟨-1,Ev.step (fun k=>by simp only [tC.l0,sP,if_false]<;>exact rfl) (Ev.val rfl),by simp⟩
 |cons t suf ih=>
  intro p hb
  have hp:(p.length:Int)<big:=sV hb
  by_cases c:a=t
  ·refine⟨p.length,?_,?_⟩
   ·refine Ev.step (fun k=>by simp only [tC.l0,qi,nn,if_true,rY,qU (t:=t) hp,if_pos c]<;>exact rfl) ?_
    exact Ev.val rfl
   simp[c]
  obtain⟨r,hr,hi⟩:=ih (p++[t]) (wG hb)
  refine⟨r,?_,?_⟩
  ·refine Ev.step (fun k=>by simp only [tC.l0,qi,nn,if_true,rY,qU (t:=t) hp,if_neg c]<;>exact rfl) ?_
   rw[qw p t suf]
   exact hr
  rw[hi];simp[c]
theorem Iw (l:List Int) (a:Int) (hb:(l.length:Int)<big):Ev (fun k=>vG.f k l a) (decide (a∈l)):=by
 unfold vG.f tC.f
 obtain⟨r,hr,hi⟩:=M9 a l [] hb
 refine Ev.bind hr (Ev.val ?_)
 exact congrArg some (decide_eq_decide.2 hi)
def fresh:List Int->List Int->Prop
 |_,[]=>True
 |vs,x::r=>x∉vs/\fresh (vs++[x]) r
instance MQ:(vs l:List Int)->Decidable (fresh vs l)
 |_,[]=>isTrue trivial
 |vs,x::r=>by
  have:=MQ (vs++[x]) r
  unfold fresh
  infer_instance
theorem MS (l:List Int):∀vs:List Int,fresh vs l↔l.Nodup/\∀x∈l,x∉vs:=by
 induction l with
 |nil=>intro vs;simp[fresh]
 |cons x r ih=>
  intro vs
  unfold fresh
  rw[ih,List.nodup_cons]
  constructor
  ·rintro⟨h1,h2,h3⟩
   refine⟨⟨fun hx=>?_,h2⟩,fun y hy=>?_⟩
   ·exact h3 x hx (by simp)
   rcases List.mem_cons.1 hy with rfl|hy
   ·exact h1
   exact fun hv=>h3 y hy (by simp[hv])
  rintro⟨⟨h1,h2⟩,h3⟩
  refine⟨h3 x (by simp),h2,fun y hy hv=>?_⟩
  rcases List.mem_append.1 hv with hv|hv
  ·exact h3 y (by simp[hy]) hv
  rw[List.mem_singleton]at hv
  subst hv
  exact h1 hy
theorem Mh:∀ (suf p:List Int),((p++suf).length:Int)<big->
  Ev (fun k=>sD.l0 k (p++suf) (p++suf) ((p++suf).length:Int) (p.length:Int)) (decide (fresh p suf)):=by
 intro suf
 induction suf with
 |nil=>
  intro p hb
  refine Ev.step (fun k=>by simp only [sD.l0,sP,if_false]<;>exact rfl) ?_
  exact Ev.val (congrArg some (decide_eq_true (by simp[fresh])).symm)
 |cons t suf ih=>
  intro p hb
  have hp:(p.length:Int)<big:=sV hb
  have hle:(p.length:Int)<=((p++t::suf).length:Int):=Int.le_of_lt (qi _ _ _)
  have htk:(p++t::suf).take ((p.length:Int)).toNat=p:=by simp
  refine Ev.step (fun k=>by simp only [sD.l0,qi,nn,if_true,rY,qU (t:=t) hp,hle,htk]<;>exact rfl) ?_
  refine Ev.bind (Iw p t hp) ?_
  by_cases c:t∈p
  ·simp only [c,decide_true,if_true]
   exact Ev.val (congrArg some (decide_eq_false (by simp[fresh,c])).symm)
  simp only [c,decide_false,Bool.false_eq_true,if_false]
  rw[qw p t suf]
  refine Ev.eq (ih (p++[t]) (wG hb)) ?_
  rw[decide_eq_decide]
  simp[fresh,c]
theorem IA (l:List Int) (hb:(l.length:Int)<big):Ev (fun k=>sD.f k l) (decide l.Nodup):=by
 unfold sD.f
 refine Ev.eq (Mh l [] hb) ?_
 rw[decide_eq_decide,MS]
 simp
theorem Ar (a b:Int):∀l:List Tie,rM l a b=decide ((⟨a,b⟩:Tie)∈l)
  |[]=>by simp[rM]
  |t::r=>by
    rw[rM,Ar a b r]
    obtain⟨x,y⟩:=t
    by_cases h:a=x<;>by_cases k:b=y<;>simp[h,k]
def kn (n:Int) (K:List Bool) (ks:List Int):Prop:=(K.length:Int)=n/\∀v,0<=v->v<n->qp false K v=decide (v∈ks)
theorem Ng (K:List Bool) (v x:Int) (h0:0<=v) (h1:v<(K.length:Int)) (x0:0<=x):qp false (K.set v.toNat true) x=if x=v then true else qp false K x:=by
  unfold qp
  simp only [List.getD_eq_getElem?_getD,List.getElem?_set]
  by_cases c:x=v
  · subst c
    have:x.toNat<K.length:=by omega
    simp[this]
  have c':¬v.toNat=x.toNat:=fun e=>c (by omega)
  simp[c,c']
theorem Nh {n:Int}{K:List Bool}{ks:List Int}{v:Int}(h:kn n K ks) (h0:0<=v) (h1:v<n):kn n (K.set v.toNat true) (xB ks v):=by
  refine⟨by rw[List.length_set];exact h.1,fun x x0 x1=>?_⟩
  rw[Ng K v x h0 (by rw[h.1];exact h1) x0,h.2 x x0 x1]
  by_cases c:x=v
  · rw[if_pos c];exact(decide_eq_true ((Dp ks v x).2 (Or.inr c))).symm
  rw[if_neg c]
  exact decide_eq_decide.2 ⟨fun y=>(Dp ks v x).2 (Or.inl y),fun y=>((Dp ks v x).1 y).resolve_right c⟩
theorem Nf {n:Int}{K:List Bool}{ks:List Int}(h:kn n K ks) (hn:ks.Nodup) (hr:∀v∈ks,0<=v/\v<n):false∉K↔(ks.length:Int)=n:=by
  have hall:false∉K↔∀v:Int,0<=v->v<n->v∈ks:=by
    constructor
    · intro hf v h0 h1
      have e:=h.2 v h0 h1
      by_cases c:v∈ks
      · exact c
      rw[decide_eq_false c]at e
      exfalso
      apply hf
      have hl:v.toNat<K.length:=by have:=h.1;omega
      unfold qp at e
      rw[List.getD_eq_getElem?_getD,List.getElem?_eq_getElem hl]at e
      simp at e
      rw[←e]
      exact List.getElem_mem hl
    intro hv hf
    obtain⟨i,hi,e⟩:=List.getElem_of_mem hf
    have e2:=h.2 (i:Int) (nn i) (by rw[←h.1];omega)
    unfold qp at e2
    rw[List.getD_eq_getElem?_getD,Int.toNat_natCast,List.getElem?_eq_getElem hi,e]at e2
    simp at e2
    exact e2 (hv i (nn i) (by rw[←h.1];omega))
  rw[hall]
  have hn0:0<=n:=by rw[←h.1];exact nn _
  have rl:((List.range n.toNat).map (fun i:Nat=>(i:Int))).length=n.toNat:=by simp
  have rn:((List.range n.toNat).map (fun i:Nat=>(i:Int))).Nodup:=by
    rw[List.Nodup,List.pairwise_map]
    exact List.nodup_range.imp (fun hne e=>hne (by exact_mod_cast e))
  constructor
  · intro hv
    have:=N9 hn rn (fun x=>⟨fun hx=>by
      have:=hr x hx
      exact List.mem_map.2 ⟨x.toNat,List.mem_range.2 (by omega),by omega⟩,fun hx=>by
      obtain⟨i,hi,rfl⟩:=List.mem_map.1 hx
      have:=List.mem_range.1 hi
      exact hv i (nn i) (by omega)⟩)
    rw[rl]at this
    omega
  intro hlen v h0 h1
  by_cases c:v∈ks
  · exact c
  exfalso
  have:(v::ks).length<=((List.range n.toNat).map (fun i:Nat=>(i:Int))).length:=xS (List.nodup_cons.2 ⟨c,hn⟩) (fun x hx=>by
    rcases List.mem_cons.1 hx with rfl|hx
    · exact List.mem_map.2 ⟨x.toNat,List.mem_range.2 (by omega),by omega⟩
    have:=hr x hx
    exact List.mem_map.2 ⟨x.toNat,List.mem_range.2 (by omega),by omega⟩)
  rw[rl]at this
  simp at this
  omega
theorem M8 (a:Bool):∀ (suf p:List Bool),((p++suf).length:Int)<big->a∉p->
    ∃r,Ev (fun k=>tq.l0 k (p++suf) a ((p++suf).length:Int) (p.length:Int)) r/\(r>=0↔a∈p++suf):=by
  intro suf
  induction suf with
  |nil=>
    intro p hb hp
    refine⟨-1,Ev.step (fun k=>by simp only [tq.l0,sP,if_false]<;>exact rfl) (Ev.val rfl),?_⟩
    simp[hp]
  |cons t suf ih=>
    intro p hb hp
    have hl:(p.length:Int)<big:=sV hb
    by_cases c:a=t
    · refine⟨(p.length:Int),Ev.step (fun k=>by simp only [tq.l0,qi,nn,if_true,JE,if_pos (show(a==t)=true by simp[c])]<;>exact rfl) (Ev.val rfl),?_⟩
      simp[c]
    obtain⟨r,h1,h2⟩:=ih (p++[t]) (by rw[←qw];exact hb) (by simp[hp,c])
    rw[←qw]at h1 h2
    exact⟨r,Ev.step (fun k=>by simp only [tq.l0,qi,nn,if_true,JE,if_neg (show¬ (a==t)=true by simp[c]),qU (t:=t) hl]<;>exact rfl) h1,h2⟩
theorem L9 (l:List Bool) (a:Bool) (hb:(l.length:Int)<big):Ev (fun k=>wX.f k l a) (decide (a∈l)):=by
  unfold wX.f tq.f
  obtain⟨r,h1,h2⟩:=M8 a l [] hb (by simp)
  refine Ev.bind h1 (Ev.val ?_)
  rw[decide_eq_decide.2 h2];rfl
section
variable {n:Int}{E T:List S59}{D:List Int}{ears:List (List Int)}{len at_:Int}{row ks:List Int}{P:Prop}
theorem NQ (U:List S59) (hr:∀v∈row,0<=v/\v<n) (hb:(row.length:Int)<big)
    (H:∀K,kn n K (rV ks row)->∃b,Ev (fun k=>nV.l0 k D K ears len (wrap64 (at_+1)) n E U 0) b/\(b=true↔P)):∀ (suf p:List Int) (K:List Bool),row=p++suf->kn n K (rV ks p)->
    ∃b,Ev (fun k=>nV.l3 k D K ears len at_ row (row.length:Int) (p.length:Int) n E U 0) b/\(b=true↔P):=by
  intro suf
  induction suf with
  |nil=>
    intro p K e hK
    rw[List.append_nil]at e
    subst e
    obtain⟨b,e1,h1⟩:=H K hK
    have c:¬ (row.length:Int)<(row.length:Int):=by omega
    exact⟨b,Ev.step (fun k=>by simp only [nV.l3,if_neg c]<;>exact rfl) e1,h1⟩
  |cons v suf ih=>
    intro p K e hK
    have c1:(p.length:Int)<(row.length:Int):=by rw[e];exact qi p v suf
    have rv:rd row (p.length:Int)=v:=by rw[e];exact rY p v suf
    have hv:=hr v (by rw[e];simp)
    have hs:wrap64 ((p.length:Int)+1)=((p++[v]).length:Int):=qU (by omega)
    have c2:v<(K.length:Int):=by rw[hK.1];exact hv.2
    obtain⟨b,e1,h1⟩:=ih (p++[v]) (K.set v.toNat true) (by rw[e];simp) (by rw[GD];exact Nh hK hv.1 hv.2)
    exact⟨b,Ev.step (fun k=>by simp only [nV.l3,nn,if_true,if_pos c1,rv,if_pos hv.1,if_pos c2,hs]<;>exact rfl) e1,h1⟩
theorem PE (K:List Bool) (hnd:(ties row).Nodup) (hb:(row.length:Int)<big)
    (H:∃b,Ev (fun k=>nV.l3 k D K ears len at_ row (row.length:Int) 0 n E (T++ties row) 0) b/\(b=true↔P)):∀ (suf p:List Int) (u:Int),row=(p++[u])++suf->
    ∃b,Ev (fun k=>nV.l2 k D K row ((p++[u]).length:Int) ears len at_ n E (T++ties (p++[u])) 0) b/\(b=true↔(∀t∈ties (u::suf),t∉T)/\P):=by
  intro suf
  induction suf with
  |nil=>
    intro p u e
    rw[List.append_nil]at e
    subst e
    obtain⟨b,e1,h1⟩:=H
    have c:¬ ((p++[u]).length:Int)<((p++[u]).length:Int):=by omega
    exact⟨b,Ev.step (fun k=>by simp only [nV.l2,if_neg c]<;>exact rfl) e1,by simp[ties,h1]⟩
  |cons v suf ih=>
    intro p u e
    have hpb:((p++[u]).length:Int)<big:=by rw[e]at hb;exact sV hb
    have c1:((p++[u]).length:Int)<(row.length:Int):=by rw[e];exact qi (p++[u]) v suf
    have c2:0<=wrap64 (((p++[u]).length:Int) - 1):=by rw[vE p u hpb];exact nn _
    have c3:wrap64 (((p++[u]).length:Int) - 1)<(row.length:Int):=by rw[vE p u hpb];simp at c1;omega
    have rv:rd row ((p++[u]).length:Int)=v:=by rw[e];exact rY (p++[u]) v suf
    have ru:rd row (wrap64 (((p++[u]).length:Int) - 1))=u:=by rw[vE p u hpb,e,zF];exact rY p u (v::suf)
    have hs:wrap64 (((p++[u]).length:Int)+1)=(((p++[u])++[v]).length:Int):=qU hpb
    have er:ties row=ties (p++[u])++oD u v::ties (v::suf):=by
      rw[e,show(p++[u])++v::suf=p++u::v::suf by simp];exact J7 p u v suf
    have hni:oD u v∉ties (p++[u]):=fun h=>by
      rw[er,List.nodup_append]at hnd
      exact hnd.2.2 _ h _ (by simp) rfl
    have et:(T++ties (p++[u]))++[(⟨(oD u v).f0,(oD u v).f1⟩:S59)]=T++ties ((p++[u])++[v]):=by rw[List.append_assoc,←FY]
    have ed:decide ((⟨(oD u v).f0,(oD u v).f1⟩:Tie)∈T++ties (p++[u]))=decide (oD u v∈T++ties (p++[u])):=rfl
    have base:∀k,nV.l2 (k+1) D K row ((p++[u]).length:Int) ears len at_ n E (T++ties (p++[u])) 0=if decide (oD u v∈T++ties (p++[u]))=true then some false else nV.l2 k D K row (((p++[u])++[v]).length:Int) ears len at_ n E (T++ties ((p++[u])++[v])) 0:=fun k=>by
      simp only [nV.l2,nn,if_true,if_pos c1,if_pos c2,if_pos c3,ru,rv,hs,FW,Option.bind_some,Ar,et,ed]
    by_cases m:oD u v∈T
    · refine⟨false,Ev.step base (by rw[decide_eq_true (List.mem_append_left _ m)];exact Ev.val rfl),?_⟩
      simp only [Bool.false_eq_true,false_iff]
      exact fun h=>h.1 (oD u v) (by simp[ties]) m
    obtain⟨b,e1,h1⟩:=ih (p++[u]) v (by rw[e];simp)
    refine⟨b,Ev.step base (by rw[decide_eq_false (fun h=>(List.mem_append.1 h).elim m hni)];simpa using e1),?_⟩
    rw[h1]
    simp only [ties,List.mem_cons,forall_eq_or_imp]
    exact⟨fun h=>⟨⟨m,h.1⟩,h.2⟩,fun h=>⟨h.1.2,h.2⟩⟩
theorem NW (K:List Bool) (U:List S59) (inner:List Int) (hK:kn n K ks) (hi:∀v∈inner,0<=v/\v<n) (hb:(inner.length:Int)<big)
    (H:(∀v∈inner,v∉ks)->∃b,Ev (fun k=>nV.l2 k D K row 1 ears len at_ n E U 0) b/\(b=true↔P)):∀ (suf p:List Int),inner=p++suf->(∀v∈p,v∉ks)->
    ∃b,Ev (fun k=>nV.l1 k D K row ears len at_ inner (inner.length:Int) (p.length:Int) n E U 0) b/\(b=true↔(∀v∈suf,v∉ks)/\P):=by
  intro suf
  induction suf with
  |nil=>
    intro p e hp
    rw[List.append_nil]at e
    subst e
    obtain⟨b,e1,h1⟩:=H hp
    have c:¬ (inner.length:Int)<(inner.length:Int):=by omega
    exact⟨b,Ev.step (fun k=>by simp only [nV.l1,if_neg c]<;>exact rfl) e1,by simp[h1]⟩
  |cons v suf ih=>
    intro p e hp
    have c1:(p.length:Int)<(inner.length:Int):=by rw[e];exact qi p v suf
    have rv:rd inner (p.length:Int)=v:=by rw[e];exact rY p v suf
    have hv:=hi v (by rw[e];simp)
    have hs:wrap64 ((p.length:Int)+1)=((p++[v]).length:Int):=qU (by omega)
    have c2:v<(K.length:Int):=by rw[hK.1];exact hv.2
    have base:∀k,nV.l1 (k+1) D K row ears len at_ inner (inner.length:Int) (p.length:Int) n E U 0=if decide (v∈ks)=true then some false else nV.l1 k D K row ears len at_ inner (inner.length:Int) ((p++[v]).length:Int) n E U 0:=fun k=>by
      simp only [nV.l1,nn,if_true,if_pos c1,rv,if_pos hv.1,if_pos c2,hs,hK.2 v hv.1 hv.2]
    by_cases m:v∈ks
    · refine⟨false,Ev.step base (by rw[decide_eq_true m];exact Ev.val rfl),?_⟩
      simp only [Bool.false_eq_true,false_iff]
      exact fun h=>h.1 v (by simp) m
    obtain⟨b,e1,h1⟩:=ih (p++[v]) (by rw[e];simp) (fun x hx=>(List.mem_append.1 hx).elim (hp x) (fun h=>by rw[List.mem_singleton]at h;subst h;exact m))
    refine⟨b,Ev.step base (by rw[decide_eq_false m];simpa using e1),?_⟩
    rw[h1]
    simp only [List.mem_cons,forall_eq_or_imp]
    exact⟨fun h=>⟨⟨m,h.1⟩,h.2⟩,fun h=>⟨h.1.2,h.2⟩⟩
end
theorem Ox (a:Int) (m:List Int) (z:Int):(a::(m++[z])).drop 1=m++[z]/\((a::(m++[z])).take ((a::(m++[z])).length - 1)).drop 1=m:=by
  refine⟨rfl,?_⟩
  simp
theorem Mw (n:Int) (E:List S59) (hok:ok n E) (D:List Int):∀ (se pe:List (List Int)) (T:List S59) (ks:List Int) (K:List Bool),((pe++se).length:Int)<big->T.length+tot se<4000000->kn n K ks->ks.Nodup->(∀v∈ks,0<=v/\v<n)->(pe=[]->ks=[])->
    ∃b,Ev (fun k=>nV.l0 k D K (pe++se) ((pe++se).length:Int) (pe.length:Int) n E T 0) b/\(b=true↔uR n E ((pe.length:Int)==0) T ks se):=by
  have hE:(E.length:Int)<big:=by have:=uA hok;unfold big;omega
  intro se
  induction se with
  |nil=>
    intro pe T ks K hb hT hK hn hr h0
    by_cases c:(T.length:Int)=(E.length:Int)
    · refine⟨!decide (false∈K),Ev.step (fun k=>by simp only [nV.l0,sP,if_false,if_pos c]<;>exact rfl) (Ev.bind (L9 K false (by have:=hK.1;have:=hok.2.1;unfold big;omega)) (Ev.val rfl)),?_⟩
      simp only [uR,Bool.not_eq_true',decide_eq_false_iff_not]
      rw[Nf hK hn hr]
      exact⟨fun h=>⟨by omega,h⟩,fun h=>h.2⟩
    refine⟨false,Ev.step (fun k=>by simp only [nV.l0,sP,if_false,if_neg c]<;>exact rfl) (Ev.val rfl),?_⟩
    simp only [uR,Bool.false_eq_true,false_iff]
    exact fun h=>c (by omega)
  |cons row se ih=>
    intro pe T ks K hb hT hK hn hr h0
    simp only [tot]at hT
    have hrb:(row.length:Int)<big:=by unfold big;omega
    have hpl:(pe.length:Int)<big:=sV hb
    have fst:(((pe.length:Int)==0)=true)↔pe=[]:=by rw[beq_iff_eq];exact⟨fun h=>List.eq_nil_of_length_eq_zero (by omega),fun h=>by rw[h];rfl⟩
    have J2f:Ev (fun k=>nV.j2 k D K (pe.length:Int) row (pe++row::se) ((pe++row::se).length:Int) (pe.length:Int) true n E T 0) false:=Ev.step (fun k=>by simp only [nV.j2,if_true]<;>exact rfl) (Ev.val rfl)
    have bad:¬Bo n E T ks ((pe.length:Int)==0) row->(false=true↔uR n E ((pe.length:Int)==0) T ks (row::se)):=fun h=>by
      simp only [uR,Bool.false_eq_true,false_iff];exact fun x=>h x.1
    by_cases cl:(row.length:Int)<2
    · exact⟨false,Ev.step (fun k=>by simp only [nV.l0,qi,nn,if_true,xn,if_pos cl]<;>exact rfl) J2f,bad (fun h=>by have:=h.len;omega)⟩
    have hl:2<=row.length:=by omega
    have base:∀k,nV.l0 (k+1) D K (pe++row::se) ((pe++row::se).length:Int) (pe.length:Int) n E T 0=(qQ.f k n E row).bind fun t=>nV.j2 k D K (pe.length:Int) row (pe++row::se) ((pe++row::se).length:Int) (pe.length:Int) (!t) n E T 0:=fun k=>by
      simp only [nV.l0,qi,nn,if_true,xn,if_neg cl]
    by_cases hw:BG n E row;rotate_left
    · have W:=Ev.eq (Ke n E row hE hrb) (decide_eq_false hw)
      exact⟨false,Ev.step base (Ev.bind W J2f),bad (fun h=>hw ⟨h.qR,h.tied⟩)⟩
    have W:=Ev.eq (Ke n E row hE hrb) (decide_eq_true hw)
    obtain⟨a,m,z,rfl⟩:=Bz hl
    have r0:rd (a::(m++[z])) 0=a:=rfl
    obtain⟨r1,r2,r3⟩:=FL (row:=a::(m++[z])) (by simp) hrb
    rw[Dh]at r1
    have ha:=hw.1 a (by simp)
    have hz:=hw.1 z (by simp)
    have hrl:0<((a::(m++[z])).length:Int):=by simp;omega
    have hK1:∀v:Int,v<n->v<(K.length:Int):=fun v h=>by rw[hK.1];exact h
    have hwl:wrap64 (((a::(m++[z])).length:Int) - 1)=(((a::(m++[z])).length - 1:Nat):Int):=by
      unfold big at hrb
      rw[w64 (by omega) (by omega)];omega
    -- behind the tests of the ends
    have J4:∀inner:List Int,(∀v∈inner,v∈a::(m++[z]))->(inner.length:Int)<big->(inner.Nodup->(∀v∈inner,v∉ks)->(ties (a::(m++[z]))).Nodup)->
        ∃b,Ev (fun k=>nV.j4 k D K (a::(m++[z])) inner (pe++(a::(m++[z]))::se) ((pe++(a::(m++[z]))::se).length:Int) (pe.length:Int) n E T 0) b/\
          (b=true↔inner.Nodup/\(∀v∈inner,v∉ks)/\(∀t∈ties (a::(m++[z])),t∉T)/\uR n E false (T++ties (a::(m++[z]))) (rV ks (a::(m++[z]))) se):=by
      intro inner hin hib hnd
      have base4:∀k,nV.j4 (k+1) D K (a::(m++[z])) inner (pe++(a::(m++[z]))::se) ((pe++(a::(m++[z]))::se).length:Int) (pe.length:Int) n E T 0=(sD.f k inner).bind fun t=>if t=true then nV.l1 k D K (a::(m++[z])) (pe++(a::(m++[z]))::se) ((pe++(a::(m++[z]))::se).length:Int) (pe.length:Int) inner (inner.length:Int) 0 n E T 0 else some false:=fun k=>by
        simp only [nV.j4]
      by_cases d:inner.Nodup
      · have H3:∀K',kn n K' (rV ks (a::(m++[z])))->∃b,Ev (fun k=>nV.l0 k D K' (pe++(a::(m++[z]))::se) ((pe++(a::(m++[z]))::se).length:Int) (wrap64 ((pe.length:Int)+1)) n E (T++ties (a::(m++[z]))) 0) b/\(b=true↔uR n E false (T++ties (a::(m++[z]))) (rV ks (a::(m++[z]))) se):=by
          intro K' hK'
          obtain⟨b,e1,h1⟩:=ih (pe++[a::(m++[z])]) (T++ties (a::(m++[z]))) (rV ks (a::(m++[z]))) K' (by simpa using hb) (by rw[List.length_append,zP];omega) hK' (FB _ hn) (fun v hv=>((Dn _ _ _).1 hv).elim (hr v) (hw.1 v)) (fun e=>by simp at e)
          have f:((((pe++[a::(m++[z])]).length:Nat):Int)==0)=false:=by rw[beq_eq_false_iff_ne];simp;omega
          rw[f]at h1
          rw[show(pe++[a::(m++[z])])++se=pe++(a::(m++[z]))::se by simp]at e1
          rw[qU (t:=a::(m++[z])) hpl]
          exact⟨b,e1,h1⟩
        obtain⟨b,e1,h1⟩:=NW (D:=D) (E:=E) (row:=a::(m++[z])) (ears:=pe++(a::(m++[z]))::se) (len:=((pe++(a::(m++[z]))::se).length:Int)) (at_:=(pe.length:Int)) K T inner hK (fun v hv=>hw.1 v (hin v hv)) hib (P:=(∀t∈ties (a::(m++[z])),t∉T)/\uR n E false (T++ties (a::(m++[z]))) (rV ks (a::(m++[z]))) se) (fun hnew=>by
            have h3:=NQ (D:=D) (E:=E) (len:=((pe++(a::(m++[z]))::se).length:Int)) (T++ties (a::(m++[z]))) hw.1 hrb H3 (a::(m++[z])) [] K rfl hK
            have h2:=PE (T:=T) (P:=uR n E false (T++ties (a::(m++[z]))) (rV ks (a::(m++[z]))) se) K (hnd d hnew) hrb h3 (m++[z]) [] a rfl
            simpa [ties] using h2) inner [] rfl (by simp)
        refine⟨b,Ev.step base4 (Ev.bind (Ev.eq (IA inner hib) (decide_eq_true d)) (by simp only [if_true];exact e1)),?_⟩
        rw[h1]
        exact⟨fun h=>⟨d,h⟩,fun h=>h.2⟩
      refine⟨false,Ev.step base4 (Ev.bind (Ev.eq (IA inner hib) (decide_eq_false d)) (by simp only [Bool.false_eq_true,if_false];exact Ev.val rfl)),?_⟩
      simp only [Bool.false_eq_true,false_iff]
      exact fun h=>d h.1
    have c1:1<=wrap64 (((a::(m++[z])).length:Int) - 1):=by rw[hwl];simp;omega
    have c2:wrap64 (((a::(m++[z])).length:Int) - 1)<=((a::(m++[z])).length:Int):=by rw[hwl];omega
    have c3:1<=((a::(m++[z])).length:Int):=by simp;omega
    have hmb:(m.length:Int)<big/\((m++[z]).length:Int)<big:=by simp at hrb⊢;omega
    have J3t:Ev (fun k=>nV.j3 k D K (pe.length:Int) (a::(m++[z])) a z (pe++(a::(m++[z]))::se) ((pe++(a::(m++[z]))::se).length:Int) (pe.length:Int) true n E T 0) false:=Ev.step (fun k=>by simp only [nV.j3,if_true]<;>exact rfl) (Ev.val rfl)
    have base2:∀k,nV.j2 (k+1) D K (pe.length:Int) (a::(m++[z])) (pe++(a::(m++[z]))::se) ((pe++(a::(m++[z]))::se).length:Int) (pe.length:Int) false n E T 0=
        (if a=z then(if((a::(m++[z])).length:Int)<4 then nV.j3 k D K (pe.length:Int) (a::(m++[z])) a z (pe++(a::(m++[z]))::se) ((pe++(a::(m++[z]))::se).length:Int) (pe.length:Int) true n E T 0 else(if(pe.length:Int)=0 then nV.j3 k D K (pe.length:Int) (a::(m++[z])) a z (pe++(a::(m++[z]))::se) ((pe++(a::(m++[z]))::se).length:Int) (pe.length:Int) (a !=z) n E T 0 else nV.j3 k D K (pe.length:Int) (a::(m++[z])) a z (pe++(a::(m++[z]))::se) ((pe++(a::(m++[z]))::se).length:Int) (pe.length:Int) false n E T 0))
         else(if(pe.length:Int)=0 then nV.j3 k D K (pe.length:Int) (a::(m++[z])) a z (pe++(a::(m++[z]))::se) ((pe++(a::(m++[z]))::se).length:Int) (pe.length:Int) (a !=z) n E T 0 else nV.j3 k D K (pe.length:Int) (a::(m++[z])) a z (pe++(a::(m++[z]))::se) ((pe++(a::(m++[z]))::se).length:Int) (pe.length:Int) false n E T 0)):=fun k=>by
      simp only [nV.j2,Bool.false_eq_true,if_false,if_pos hrl,if_pos r2,if_pos r3,r0,r1]
    have fin:∀b,Ev (fun k=>nV.j2 k D K (pe.length:Int) (a::(m++[z])) (pe++(a::(m++[z]))::se) ((pe++(a::(m++[z]))::se).length:Int) (pe.length:Int) false n E T 0) b->Ev (fun k=>nV.l0 k D K (pe++(a::(m++[z]))::se) ((pe++(a::(m++[z]))::se).length:Int) (pe.length:Int) n E T 0) b:=fun b h=>Ev.step base (Ev.bind W h)
    have lp:=Dh a m z
    have hp:=Da a m z
    have mp:=Dq a m z
    by_cases l4:a=z/\((a::(m++[z])).length:Int)<4
    · refine⟨false,fin _ (Ev.step base2 (by simp only [if_pos l4.1,if_pos l4.2];exact J3t)),bad (fun h=>?_)⟩
      have:=h.long (by rw[hp,lp];exact l4.1)
      omega
    have hlong:tV (a::(m++[z]))=tN (a::(m++[z]))->4<=(a::(m++[z])).length:=by
      rw[hp,lp];intro e
      have:¬ ((a::(m++[z])).length:Int)<4:=fun h=>l4 ⟨e,h⟩
      omega
    by_cases cp:pe=[]
    · have cp0:(pe.length:Int)=0:=by rw[cp];rfl
      have ek:=h0 cp
      by_cases az:a=z;rotate_left
      · have ne:(a !=z)=true:=by simp[az]
        refine⟨false,fin _ (Ev.step base2 (by simp only [if_neg az,if_pos cp0,ne];exact J3t)),bad (fun h=>?_)⟩
        have:=h.ring (fst.2 cp)
        rw[hp,lp]at this
        exact az this
      have l4':¬ ((a::(m++[z])).length:Int)<4:=fun h=>l4 ⟨az,h⟩
      have ne:(a !=z)=false:=by simp[az]
      have base3:∀k,nV.j3 (k+1) D K (pe.length:Int) (a::(m++[z])) a z (pe++(a::(m++[z]))::se) ((pe++(a::(m++[z]))::se).length:Int) (pe.length:Int) false n E T 0=nV.j4 k D K (a::(m++[z])) (m++[z]) (pe++(a::(m++[z]))::se) ((pe++(a::(m++[z]))::se).length:Int) (pe.length:Int) n E T 0:=fun k=>by
        simp only [nV.j3,Bool.false_eq_true,if_false,if_pos c1,if_pos c2,if_pos c3,if_pos cp0,List.drop_succ_cons,List.drop_zero]
      obtain⟨b,e1,h1⟩:=J4 (m++[z]) (fun v hv=>List.mem_cons_of_mem _ hv) hmb.2 (fun d _=>by
        rw[List.nodup_append]at d
        have hzm:z∉m:=fun h=>d.2.2 z h z (by simp) rfl
        exact II (n:=n) (E:=E) (taken:=T) (ks:=ks) (first:=true) hl hlong (by rw[mp];exact d.1) (by rw[hp,mp,az];exact hzm) (by rw[lp,mp];exact hzm))
      refine⟨b,fin _ (Ev.step base2 (by simp only [if_pos az,if_neg l4',if_pos cp0,ne];exact Ev.step base3 e1)),?_⟩
      rw[h1,fst.2 cp]
      simp only [uR]
      constructor
      · rintro⟨d,hnew,ht,he⟩
        rw[List.nodup_append]at d
        have hzm:z∉m:=fun h=>d.2.2 z h z (by simp) rfl
        exact⟨⟨hl,hw.1,hw.2,fun _=>by rw[hp,lp];exact az,fun h=>Bool.noConfusion h,hlong,by rw[mp];exact d.1,by rw[mp,hp];exact fun v hv=>⟨hnew v (List.mem_append_left _ hv),fun e=>hzm (by rw[←az,←e];exact hv)⟩,ht⟩,he⟩
      rintro⟨h,he⟩
      refine⟨?_,fun v _=>by rw[ek];simp,h.new,he⟩
      have hm:=h.mid
      have hap:=h.apart
      rw[mp]at hm
      rw[mp,hp]at hap
      rw[List.nodup_append]
      exact⟨hm,by simp,fun x hx y hy e=>by rw[List.mem_singleton]at hy;subst hy;subst e;exact(hap x hx).2 az.symm⟩
    have cp0:¬ (pe.length:Int)=0:=fun h=>cp (List.eq_nil_of_length_eq_zero (by omega))
    have ff:((pe.length:Int)==0)=false:=Bool.eq_false_iff.2 (fun h=>cp (fst.1 h))
    have ca:a<(K.length:Int):=hK1 a ha.2
    have cz:z<(K.length:Int):=hK1 z hz.2
    have tk:((a::(m++[z])).take (wrap64 (((a::(m++[z])).length:Int) - 1)).toNat).drop 1=m:=by rw[hwl,Int.toNat_natCast];exact(Ox a m z).2
    have base3:∀k,nV.j3 (k+1) D K (pe.length:Int) (a::(m++[z])) a z (pe++(a::(m++[z]))::se) ((pe++(a::(m++[z]))::se).length:Int) (pe.length:Int) false n E T 0=if decide (a∈ks)=true then(if decide (z∈ks)=true then nV.j4 k D K (a::(m++[z])) m (pe++(a::(m++[z]))::se) ((pe++(a::(m++[z]))::se).length:Int) (pe.length:Int) n E T 0 else some false) else some false:=fun k=>by
      simp only [nV.j3,Bool.false_eq_true,if_false,if_pos c1,if_pos c2,if_neg cp0,if_pos ha.1,if_pos hz.1,if_pos ca,if_pos cz,tk,hK.2 a ha.1 ha.2,hK.2 z hz.1 hz.2]
    have base2':∀b,Ev (fun k=>nV.j3 k D K (pe.length:Int) (a::(m++[z])) a z (pe++(a::(m++[z]))::se) ((pe++(a::(m++[z]))::se).length:Int) (pe.length:Int) false n E T 0) b->Ev (fun k=>nV.j2 k D K (pe.length:Int) (a::(m++[z])) (pe++(a::(m++[z]))::se) ((pe++(a::(m++[z]))::se).length:Int) (pe.length:Int) false n E T 0) b:=fun b h=>by
      refine Ev.step base2 ?_
      by_cases az:a=z
      · simp only [if_pos az,if_neg (fun h=>l4 ⟨az,h⟩),if_neg cp0];exact h
      simp only [if_neg az,if_neg cp0];exact h
    by_cases ka:a∈ks
    · by_cases kz:z∈ks
      · obtain⟨b,e1,h1⟩:=J4 m (fun v hv=>List.mem_cons_of_mem _ (List.mem_append_left _ hv)) hmb.1 (fun d hnew=>II (n:=n) (E:=E) (taken:=T) (ks:=ks) (first:=false) hl hlong (by rw[mp];exact d) (by rw[hp,mp];exact fun h=>hnew a h ka) (by rw[lp,mp];exact fun h=>hnew z h kz))
        refine⟨b,fin _ (base2' _ (Ev.step base3 (by simp only [decide_eq_true ka,decide_eq_true kz,if_true];exact e1))),?_⟩
        rw[h1,ff]
        simp only [uR]
        constructor
        · rintro⟨d,hnew,ht,he⟩
          exact⟨⟨hl,hw.1,hw.2,fun h=>Bool.noConfusion h,fun _=>by rw[hp,lp];exact⟨ka,kz⟩,hlong,by rw[mp];exact d,by rw[mp,hp];exact fun v hv=>⟨hnew v hv,fun e=>hnew v hv (e▸ka)⟩,ht⟩,he⟩
        rintro⟨h,he⟩
        have hm:=h.mid
        have hap:=h.apart
        rw[mp]at hm hap
        exact⟨hm,fun v hv=>(hap v hv).1,h.new,he⟩
      refine⟨false,fin _ (base2' _ (Ev.step base3 (by simp only [decide_eq_true ka,decide_eq_false kz,if_true,Bool.false_eq_true,if_false];exact Ev.val rfl))),bad (fun h=>?_)⟩
      have:=(h.ends ff).2
      rw[lp]at this
      exact kz this
    refine⟨false,fin _ (base2' _ (Ev.step base3 (by simp only [decide_eq_false ka,Bool.false_eq_true,if_false];exact Ev.val rfl))),bad (fun h=>?_)⟩
    have:=(h.ends ff).1
    rw[hp]at this
    exact ka this
theorem M6 (n:Int) (E:List S59) (ears:List (List Int)) (hE:(E.length:Int)<big) (hb:(ears.length:Int)<big) (hT:tot ears<4000000):
    ∃b,Ev (fun k=>Ae.f k n E ears) b/\(b=true↔IE n E ears):=by
  have F:Ev (fun k=>nV.j0 k ears [] true n E) false:=Ev.step (fun k=>by simp only [nV.j0,if_true]<;>exact rfl) (Ev.val rfl)
  unfold Ae.f nV.f
  by_cases c:ok n E;rotate_left
  · refine⟨false,Ev.bind (Ev.eq (Db n E hE) (decide_eq_false c)) (by simp only [Bool.false_eq_true,if_false];exact F),?_⟩
    simp only [Bool.false_eq_true,false_iff]
    exact fun x=>c x.1
  have K:=Ev.eq (Db n E hE) (decide_eq_true c)
  by_cases c1:ears=[]
  · refine⟨false,Ev.bind K ?_,?_⟩
    · simp only [if_true,c1,List.length_nil,Int.natCast_zero,beq_self_eq_true]
      rw[c1]at F
      exact F
    simp only [Bool.false_eq_true,false_iff]
    exact fun h=>h.2.1 c1
  have n0:=c.1
  have n8:=c.2.1
  have hc:n.toNat<=281474976710656:=by omega
  have cb:((ears.length:Int)==0)=false:=by
    rw[beq_eq_false_iff_ne]
    exact fun h=>c1 (List.eq_nil_of_length_eq_zero (by omega))
  have hK:kn n (List.replicate n.toNat false) []:=by
    refine⟨by rw[List.length_replicate];omega,fun v h0 h1=>?_⟩
    unfold qp
    rw[List.getD_eq_getElem?_getD,List.getElem?_replicate]
    split<;>simp
  obtain⟨b,e,h⟩:=Mw n E c [] ears [] [] [] (List.replicate n.toNat false) (by simpa using hb) (by simpa using hT) hK (by simp) (by simp) (fun _=>rfl)
  simp only [List.nil_append,List.length_nil,Int.natCast_zero,beq_self_eq_true]at e h
  refine⟨b,Ev.bind K ?_,?_⟩
  · simp only [if_true,cb]
    exact Ev.step (fun k=>by simp only [nV.j0,Bool.false_eq_true,if_false,if_pos n0,if_pos hc]<;>exact rfl) e
  rw[h]
  exact⟨fun x=>⟨c,c1,x⟩,fun x=>x.2.2⟩
end Go.Proofs.Ytgeonpciodepgaa.P
namespace Go.Proofs.Ytgeonpciodepgaa.G
def opn (r:List Int):Bool:=decide (r≠[])&&decide (tV r≠tN r)
def opens:Bool->List (List Int)->Bool
 |_,[]=>true
 |first,r::rest=>(first||opn r)&&opens false rest
end Go.Proofs.Ytgeonpciodepgaa.G
namespace Go.Proofs.Ytgeonpciodepgaa.P
open Go.RowKit Go.Proofs.YtgeonpciodepgaaW.PrintWords Go.Proofs.Ytgeonpciodepgaa.G Go.Proofs.YtgeonpciodepgaaW.PrintWords.Kd
theorem Oa (D:List (List Int)):∀ (suf p:List (List Int)),((p++suf).length:Int)<big->(∀r∈suf,(r.length:Int)<big)->
  Ev (fun k=>uE.l0 k D (p++suf) ((p++suf).length:Int) (p.length:Int)) (opens ((p.length:Int)==0) suf&&decide ((D.length:Int)>0)):=by
 intro suf
 induction suf with
 |nil=>
  intro p hb hr
  refine Ev.step (fun k=>by simp only [uE.l0,sP,if_false]<;>exact rfl) (Ev.val (by simp[opens]))
 |cons r suf ih=>
  intro p hb hr
  have hp:(p.length:Int)<big:=sV hb
  have w:wrap64 ((p.length:Int)+1)=((p++[r]).length:Int):=qU hp
  have nx:=ih (p++[r]) (wG hb) (fun x hx=>hr x (List.mem_cons_of_mem _ hx))
  have z:(((p++[r]).length:Int)==0)=false:=beq_eq_false_iff_ne.2 (by rw[List.length_append];simp only [List.length_cons,List.length_nil];omega)
  rw[z,←qw]at nx
  have hrb:=hr r List.mem_cons_self
  by_cases c:(p.length:Int)>0;rotate_left
  ·have c0:((p.length:Int)==0)=true:=beq_iff_eq.2 (by omega)
   rw[c0]
   show Ev _ (((true||opn r)&&opens false suf)&&_)
   rw[Bool.true_or,Bool.true_and]
   exact Ev.step (fun k=>by simp only [uE.l0,qi,nn,if_true,if_neg c,w]<;>exact rfl) nx
  have c0:((p.length:Int)==0)=false:=beq_eq_false_iff_ne.2 (by omega)
  rw[c0]
  show Ev _ (((false||opn r)&&opens false suf)&&_)
  rw[Bool.false_or]
  rcases List.eq_nil_or_concat r with rfl|⟨q,u,rfl⟩
  ·have e0:(([]:List Int).length:Int)=0:=rfl
   refine Ev.step (fun k=>by simp only [uE.l0,qi,nn,if_true,if_pos c,xn,if_pos e0]<;>exact rfl) (Ev.val (by simp[opn]))
  rw[List.concat_eq_append]at*
  have hql:(q++[u]).length=q.length+1:=by simp
  have e0:¬ ((q++[u]).length:Int)=0:=by omega
  have e1:0<((q++[u]).length:Int):=by omega
  have e2:wrap64 (((q++[u]).length:Int) - 1)=(q.length:Int):=by rw[w64 (by omega) (by unfold big at hrb;omega)];simp
  have e3:(q.length:Int)<((q++[u]).length:Int):=by omega
  have e4:rd (q++[u]) (q.length:Int)=u:=rY q u []
  have e5:tN (q++[u])=u:=by unfold tN;rw[List.getLastD_concat]
  have e6:rd (q++[u]) 0=tV (q++[u]):=rfl
  by_cases d:tV (q++[u])=u
  ·refine Ev.step (fun k=>by simp only [uE.l0,qi,nn,if_true,if_pos c,xn,if_neg e0,if_pos e1,e2,if_pos e3,e4,e6,if_pos d]<;>exact rfl) (Ev.val ?_)
   have:opn (q++[u])=false:=by unfold opn;rw[e5,d];simp
   rw[this];rfl
  refine Ev.step (fun k=>by simp only [uE.l0,qi,nn,if_true,if_pos c,xn,if_neg e0,if_pos e1,e2,if_pos e3,e4,e6,if_neg d,w]<;>exact rfl) ?_
  have:opn (q++[u])=true:=by unfold opn;rw[e5];simp[d]
  rw[this,Bool.true_and]
  exact nx
theorem Mv (r:List (List Int)) (hb:(r.length:Int)<big) (hr:∀x∈r,(x.length:Int)<big):Ev (fun k=>uE.f k r) (opens true r&&decide ((r.length:Int)>0)):=by
 unfold uE.f
 exact Oa r r [] hb hr
theorem I5 (r:List Int) (hb:(r.length:Int)<big):uJ.f r=some (opn r):=by
 by_cases c:r=[]
 ·subst c;rfl
 rw[IG r (List.length_pos_iff.2 c) hb]
 congr 1
 unfold opn
 rw[decide_eq_true c,Bool.true_and]
 by_cases d:tV r=tN r
 ·rw[d];simp
 rw[decide_eq_true d];simpa using d
theorem Pn:∀ (suf p:List (List Int)),((p++suf).length:Int)<big->(∀r∈suf,(r.length:Int)<big)->
  Ev (fun k=>uC.l0 k (p++suf) (p.length:Int)) (opens false suf&&decide (((p++suf).length:Int)>0)):=by
 intro suf
 induction suf with
 |nil=>
  intro p hb hr
  exact Ev.step (fun k=>by simp only [uC.l0,sP,if_false]<;>exact rfl) (Ev.val (by simp[opens]))
 |cons r suf ih=>
  intro p hb hr
  have hp:(p.length:Int)<big:=sV hb
  have nx:=ih (p++[r]) (wG hb) (fun x hx=>hr x (List.mem_cons_of_mem _ hx))
  rw[←qw]at nx
  show Ev _ (((false||opn r)&&opens false suf)&&_)
  rw[Bool.false_or]
  by_cases c:opn r=true
  ·refine Ev.step (fun k=>by simp only [uC.l0,qi,nn,if_true,xn,I5 r (hr r List.mem_cons_self),Option.bind_some,if_pos c,qU (t:=r) hp]<;>exact rfl) ?_
   rw[c,Bool.true_and]
   exact nx
  refine Ev.step (fun k=>by simp only [uC.l0,qi,nn,if_true,xn,I5 r (hr r List.mem_cons_self),Option.bind_some,if_neg c]<;>exact rfl) (Ev.val ?_)
  rw[Bool.eq_false_iff.2 c];simp
theorem Pm (r:List (List Int)) (hb:(r.length:Int)<big) (hr:∀x∈r,(x.length:Int)<big):Ev (fun k=>uC.f k r) (opens true r&&decide ((r.length:Int)>0)):=by
 unfold uC.f
 cases r with
 |nil=>
  have c:¬ (1:Int)<(([]:List (List Int)).length:Int):=by simp
  exact Ev.step (fun k=>by simp only [uC.l0,if_neg c]<;>exact rfl) (Ev.val (by simp))
 |cons x r=>exact Pn r [x] hb (fun y hy=>hr y (List.mem_cons_of_mem _ hy))
end Go.Proofs.Ytgeonpciodepgaa.P
namespace Go.Proofs.Ytgeonpciodepgaa.G
theorem NF {n:Int}{E T:List Tie}{ks row:List Int}{first:Bool}(h:Bo n E T ks first row):∀v∈xQ row,v≠tN row:=by
 intro v hv e
 cases first with
 |true=>exact(h.apart v hv).2 (e.trans (h.ring rfl).symm)
 |false=>exact(h.apart v hv).1 (e▸ (h.ends rfl).2)
theorem Js {α:Type}{l:List α}(h:l.Nodup):l.reverse.Nodup:=(List.reverse_perm l).nodup_iff.2 h
theorem Nb {E:List Tie}{a b:Int}{p:List Int}(h:uG E a b p):uG E b a p.reverse where
 head:=by rw[List.head?_reverse];exact h.last
 last:=by rw[List.getLast?_reverse];exact h.head
 ties:=fun t ht=>by rw[DJ]at ht;exact h.ties t (List.mem_reverse.1 ht)
 nodup:=Js h.nodup
theorem Ff {E:List Tie}:∀ (r:List Int) (a:Int),(∀t∈ties (a::r),t∈E)->∀x∈a::r,qm E a x
 |[],a,_,x,hx=>by simp at hx;subst hx;exact .refl _
 |b::r,a,h,x,hx=>by
  rcases List.mem_cons.1 hx with rfl|q
  ·exact .refl _
  exact(qm.one (h _ (by simp[ties]))).trans (Ff r b (fun t ht=>h t (by simp[ties,ht])) x q)
theorem PO {T:List Tie}{ks:List Int}{a b:Int}{p:List Int}(h:uG T a b p) (ha:a∈ks) (hT:∀t∈T,t.f0∈ks/\t.f1∈ks):∀x∈p,x∈ks:=by
 intro x hx
 cases p with
 |nil=>simp at hx
 |cons y r=>
  have:y=a:=by have:=h.head;simpa using this
  subst this
  have c:=Ff r y h.ties x hx
  refine c.closed (fun v=>v∈ks) ha (fun u v hu ht=>?_)
  have:=hT _ ht
  unfold oD at this
  split at this
  ·exact this.2
  exact this.1
theorem DL (a:Int):∀ (p:List Int) (z:Int) (q:List Int),ties (p++z::q)=ties (p++[z])++ties (z::q)
 |[],z,q=>by simp[ties]
 |[b],z,q=>by simp[ties]
 |b::c::p,z,q=>by
  have:=DL a (c::p) z q
  simp only [List.cons_append,ties]at this⊢
  rw[this]
theorem O6 {n:Int}{E:List Tie}(hE:∀t∈E,inr n t) {a b:Int}{p:List Int}(h:uG (cut E (oD a b)) b a p):∃q,uG (cut E (oD a b)) (oD a b).f0 (oD a b).f1 q/\∀s,s∈ties p->s∈ties q:=by
 unfold oD
 by_cases c:a<b
 ·rw[if_pos c]
  have e:oD a b=⟨a,b⟩:=by unfold oD;rw[if_pos c]
  rw[e]at h
  exact⟨p.reverse,Nb h,fun s hs=>by rw[DJ];exact List.mem_reverse.2 hs⟩
 rw[if_neg c]
 have e:oD a b=⟨b,a⟩:=by unfold oD;rw[if_neg c]
 rw[e]at h
 exact⟨p,h,fun s hs=>hs⟩
def wo (T:List Tie) (k:Int):List Tie:=T.filter fun t=>decide (t.f0≠k)&&decide (t.f1≠k)
theorem yO {T:List Tie}{k:Int}{t:Tie}:t∈wo T k↔t∈T/\t.f0≠k/\t.f1≠k:=by
 unfold wo
 rw[List.mem_filter,Bool.and_eq_true,decide_eq_true_eq,decide_eq_true_eq]
theorem FZ:∀ (p s:List Int) (t:Tie),t∈ties p->t∈ties (p++s)
 |[],s,t,h=>by simp[ties]at h
 |[a],s,t,h=>by simp[ties]at h
 |a::b::p,s,t,h=>by
  simp only [ties,List.cons_append,List.mem_cons]at h⊢
  exact h.imp id (FZ (b::p) s t)
theorem F3:∀ (p s:List Int) (t:Tie),t∈ties s->t∈ties (p++s)
 |[],s,t,h=>h
 |[a],s,t,h=>by
  cases s with
  |nil=>simp[ties]at h
  |cons b s=>simp only [ties,List.cons_append,List.nil_append,List.mem_cons];exact Or.inr h
 |a::b::p,s,t,h=>by
  simp only [ties,List.cons_append,List.mem_cons]
  exact Or.inr (F3 (b::p) s t h)
theorem Bl {F:List Tie}{k c:Int}{l:List Int}(p s:List Int) (hF:∀t∈ties (p++(c::l)++s),t∈F) (hk:k∉c::l):∀x∈c::l,qm (wo F k) c x:=
 Ff l c (fun t ht=>yO.2 ⟨hF t (FZ _ _ _ (F3 _ _ _ ht)),fun e=>hk (e▸ (Au _ ht).1),fun e=>hk (e▸ (Au _ ht).2)⟩)
def xR (T:List Tie) (ks:List Int):Prop:=∀k,∃c,∀u∈ks,u≠k->qm (wo T k) c u
theorem Ki {F T:List Tie}(h:∀t∈F,t∈T) (k:Int):∀t∈wo F k,t∈wo T k:=fun t ht=>yO.2 ⟨h t (yO.1 ht).1,(yO.1 ht).2⟩
theorem N7 {n:Int}{E T:List Tie}{ks row:List Int}{first:Bool}(hf:first=true->ks=[]) (h:Bo n E T ks first row) (ho:first=false->tV row≠tN row) (hn:xR T ks):xR (T++ties row) (rV ks row):=by
 obtain⟨a,m,z,rfl⟩:=Bz h.len
 have hmid:=h.mid;have hap:=h.apart;have hends:=h.ends;have hring:=h.ring;have hlong:=h.long;have hlast:=NF h
 rw[Dq]at hmid hap hlast
 rw[Da]at hap hends hring hlong ho
 rw[Dh]at hends hring hlast hlong ho
 intro k
 have hF:∀t∈ties (a::(m++[z])),t∈T++ties (a::(m++[z])):=fun t ht=>List.mem_append_right _ ht
 have hT:∀ {u v:Int},qm (wo T k) u v->qm (wo (T++ties (a::(m++[z]))) k) u v:=fun h=>h.mono (Ki (fun t ht=>List.mem_append_left _ ht) k)
 have old:∀u∈ks,∀v∈ks,u≠k->v≠k->qm (wo (T++ties (a::(m++[z]))) k) u v:=fun u hu v hv hu2 hv2=>by
  obtain⟨c,hc⟩:=hn k
  exact hT ((hc u hu hu2).symm.trans (hc v hv hv2))
 have mem:∀x∈rV ks (a::(m++[z])),x∈ks\/x=a\/x∈m\/x=z:=fun x hx=>by
  rcases(Dn _ ks x).1 hx with q|q
  ·exact Or.inl q
  simp only [List.mem_cons,List.mem_append,List.mem_singleton,List.not_mem_nil,or_false]at q
  exact Or.inr q
 have am:a∉m:=fun q=>(hap a q).2 rfl
 have zm:z∉m:=fun q=>hlast z q rfl
 by_cases ka:k=a
 ·subst ka
  -- without its first knot
  have h1:∀x∈m++[z],∀y∈m++[z],x≠k->y≠k->qm (wo (T++ties (k::(m++[z]))) k) x y:=by
   by_cases kz:z=k
   ·subst kz
    cases m with
    |nil=>intro x hx y hy hxk;simp at hx;exact absurd hx hxk
    |cons b m=>
     have c:=Bl (k:=z) (F:=T++ties (z::(b::m++[z]))) [z] [z] (c:=b) (l:=m) (by simpa using hF) am
     intro x hx y hy hxk hyk
     have gx:x∈b::m:=by rcases List.mem_append.1 hx with q|q;exact q;simp at q;exact absurd q hxk
     have gy:y∈b::m:=by rcases List.mem_append.1 hy with q|q;exact q;simp at q;exact absurd q hyk
     exact(c x gx).symm.trans (c y gy)
   have hk:k∉m++[z]:=by
    intro q
    rcases List.mem_append.1 q with q|q
    ·exact am q
    simp at q;exact kz q.symm
   cases e:m++[z] with
   |nil=>simp at e
   |cons b l=>
    rw[e]at hk
    have c:=Bl (k:=k) (F:=T++ties (k::(m++[z]))) [k] [] (c:=b) (l:=l) (by rw[List.append_nil,←e];exact hF) hk
    intro x hx y hy _ _
    rw[e]at c
    exact(c x hx).symm.trans (c y hy)
  by_cases kz:z=k
  ·-- a ring
   subst kz
   cases m with
   |nil=>have:=hlong rfl;simp at this
   |cons b m=>
    refine⟨b,fun u hu huk=>?_⟩
    have hb:b≠z:=fun e=>am (e▸List.mem_cons_self)
    rcases mem u hu with q|q|q|q
    ·cases first with
     |true=>rw[hf rfl]at q;simp at q
     |false=>exact absurd rfl (ho rfl)
    ·exact absurd q huk
    ·exact h1 b (by simp) u (List.mem_append_left _ q) hb huk
    exact absurd q huk
  refine⟨z,fun u hu huk=>?_⟩
  rcases mem u hu with q|q|q|q
  ·cases first with
   |true=>rw[hf rfl]at q;simp at q
   |false=>exact old z (hends rfl).2 u q kz huk
  ·exact absurd q huk
  ·exact h1 z (by simp) u (List.mem_append_left _ q) kz huk
  subst q;exact .refl _
 -- otherwise: all hang on the first knot
 have ak:a≠k:=fun e=>ka e.symm
 refine⟨a,fun u hu huk=>?_⟩
 -- its last knot, when it is another one
 have hz:z≠k->qm (wo (T++ties (a::(m++[z]))) k) a z\/first=false:=fun hzk=>by
  cases first with
  |true=>have:=hring rfl;subst this;exact Or.inl (.refl _)
  |false=>exact Or.inr rfl
 have az:z≠k->qm (wo (T++ties (a::(m++[z]))) k) a z:=fun hzk=>by
  rcases hz hzk with q|q
  ·exact q
  exact old a (hends q).1 z (hends q).2 ak hzk
 rcases mem u hu with q|q|q|q
 ·cases first with
  |true=>rw[hf rfl]at q;simp at q
  |false=>exact old a (hends rfl).1 u q ak huk
 ·subst q;exact .refl _
 ·by_cases km:k∈m
  ·obtain⟨p,s,hm⟩:=List.append_of_mem km
   subst hm
   rw[List.nodup_append,List.nodup_cons]at hmid
   have kp:k∉p:=fun e=>hmid.2.2 k e k (by simp) rfl
   have ks':k∉s:=hmid.2.1.1
   rcases List.mem_append.1 q with q|q
   ·have c:=Bl (k:=k) (F:=T++ties (a::(p++k::s++[z]))) [] (k::s++[z]) (c:=a) (l:=p) (by simpa using hF) (by simp[kp,ka])
    exact c u (List.mem_cons_of_mem _ q)
   have hus:u∈s:=by rcases List.mem_cons.1 q with q|q;exact absurd q huk;exact q
   have kz:z≠k:=fun e=>zm (by rw[e];simp)
   cases e:s++[z] with
   |nil=>simp at e
   |cons b l=>
    have hk:k∉b::l:=by
     rw[←e]
     intro q
     rcases List.mem_append.1 q with q|q
     ·exact ks' q
     simp at q;exact kz q.symm
    have c:=Bl (k:=k) (F:=T++ties (a::(p++k::s++[z]))) (a::(p++[k])) [] (c:=b) (l:=l) (by rw[List.append_nil,←e];simpa using hF) hk
    exact(az kz).trans ((c z (by rw[←e];simp)).symm.trans (c u (by rw[←e];simp[hus])))
  have c:=Bl (k:=k) (F:=T++ties (a::(m++[z]))) [] [z] (c:=a) (l:=m) (by simpa using hF) (by simp[km,ka])
  exact c u (List.mem_cons_of_mem _ q)
 subst q;exact az huk
theorem Ob {row:List Int}{rest:List (List Int)}{first:Bool}(h:opens first (row::rest)=true):(first=false->tV row≠tN row)/\opens false rest=true:=by
 unfold opens at h
 rw[Bool.and_eq_true]at h
 refine⟨fun e=>?_,h.2⟩
 have:=h.1
 rw[e,Bool.false_or]at this
 unfold opn at this
 rw[Bool.and_eq_true,decide_eq_true_eq,decide_eq_true_eq]at this
 exact this.2
theorem IK {n:Int}{E:List Tie}(h0:0<=n):∀ (rows:List (List Int)) (first:Bool) (T:List Tie) (ks:List Int),(first=true->ks=[])->xR T ks->(∀t∈T,t∈E)->ks.Nodup->(∀v∈ks,0<=v/\v<n)->opens first rows=true->uR n E first T ks rows->xR E (qR n)
 |[],first,T,ks,hf,hn,hT,hd,hr,ho,h=>by
  intro k
  obtain⟨c,hc⟩:=hn k
  refine⟨c,fun u hu huk=>?_⟩
  have:u∈ks:=by
   refine Classical.byContradiction fun q=>?_
   have:=xS (l:=u::ks) (m:=qR n) (List.nodup_cons.2 ⟨q,hd⟩) (fun x hx=>by
    rcases List.mem_cons.1 hx with e|e
    ·rw[e];exact hu
    exact wL.2 (hr x e))
   rw[vZ]at this
   have:=h.2
   simp only [List.length_cons]at*
   omega
  exact(hc u this huk).mono (Ki hT k)
 |row::rows,first,T,ks,hf,hn,hT,hd,hr,ho,h=>by
  obtain⟨o1,o2⟩:=Ob ho
  refine IK h0 rows false _ _ (by simp) (N7 hf h.1 o1 hn) (fun t ht=>?_) (FB row hd) (fun v hv=>?_) o2 h.2
  ·rcases List.mem_append.1 ht with q|q
   ·exact hT t q
   exact h.1.tied t q
  rcases(Dn row ks v).1 hv with q|q
  ·exact hr v q
  exact h.1.qR v q
end Go.Proofs.Ytgeonpciodepgaa.G
namespace Go.Proofs.Ytgeonpciodepgaa.G
open Go.RowKit Go.Proofs.YtgeonpciodepgaaW.PrintWords
def roots (n:Int) (f:List Int):List Int:=(qR n).filter fun v=>decide (rd f v=v)
theorem Fy {n v:Int}{f:List Int}:v∈roots n f↔(0<=v/\v<n)/\rd f v=v:=by
 unfold roots
 rw[List.mem_filter,wL,decide_eq_true_eq]
theorem JP (n:Int) (f:List Int):(roots n f).Nodup:=(Nn n).sublist List.filter_sublist
theorem O8 {n:Int}{E:List Tie}{f:List Int}(h:Parts n E f) (h1:1<=n):1<=(roots n f).length:=by
 have:=h.low 0 (by omega) (by omega)
 exact List.length_pos_of_mem (Fy.2 ⟨⟨by omega,by omega⟩,by omega⟩:(0:Int)∈roots n f)
theorem O_ {n k:Int}{E:List Tie}{f:List Int}(h:Parts n (wo E k) f) (hn:xR E (qR n)):(roots n f).length<=2:=by
 by_cases c:∃u∈roots n f,u≠k
 ·obtain⟨u,hu,huk⟩:=c
  refine Nat.le_trans (xS (m:=[k,u]) (JP n f) (fun x hx=>?_)) (by simp)
  by_cases e:x=k
  ·simp[e]
  have a:=Fy.1 hu
  have b:=Fy.1 hx
  obtain⟨d,hd⟩:=hn k
  have hc:qm (wo E k) u x:=(hd u (wL.2 a.1) huk).symm.trans (hd x (wL.2 b.1) e)
  have:=h.same u x a.1.1 a.1.2 b.1.1 b.1.2 hc
  have:x=u:=by omega
  simp[this]
 refine Nat.le_trans (xS (m:=[k]) (JP n f) (fun x hx=>?_)) (by simp)
 by_cases e:x=k
 ·simp[e]
 exact absurd ⟨x,hx,e⟩ c
end Go.Proofs.Ytgeonpciodepgaa.G
namespace Go.Proofs.Ytgeonpciodepgaa.P
open Go.RowKit Go.Proofs.YtgeonpciodepgaaW.PrintWords Go.Proofs.Ytgeonpciodepgaa.G Go.Proofs.YtgeonpciodepgaaW.PrintWords.Kd
theorem Og (n m a:Int):∀ (suf p q:List S59),((p++suf).length:Int)<=1048576->q.length<=p.length->
  Ev (fun k=>tZ.l0 k a (p++suf) ((p++suf).length:Int) (p.length:Int) m q) (m,q++wo suf a):=by
 intro suf
 induction suf with
 |nil=>
  intro p q hb hq
  refine Ev.step (fun k=>by simp only [tZ.l0,sP,if_false]<;>exact rfl) ?_
  exact Ev.val (by simp[wo])
 |cons t suf ih=>
  intro p q hb hq
  have hb':((p++t::suf).length:Int)<big:=by unfold big;omega
  have hp:(p.length:Int)<big:=sV hb'
  have hq8:q.length<8796093022208:=by rw[List.length_append]at hb;omega
  by_cases c:t.f0=a
  ·refine Ev.step (fun k=>by simp only [tZ.l0,qi,nn,if_true,xm,qU (t:=t) hp,if_pos c]<;>exact rfl) ?_
   rw[qw p t suf]
   refine Ev.eq (ih (p++[t]) q (by rw[←qw];exact hb) (by simp;omega)) ?_
   simp[wo,c]
  by_cases d:t.f1=a
  ·refine Ev.step (fun k=>by simp only [tZ.l0,qi,nn,if_true,xm,qU (t:=t) hp,if_neg c,if_pos d]<;>exact rfl) ?_
   rw[qw p t suf]
   refine Ev.eq (ih (p++[t]) q (by rw[←qw];exact hb) (by simp;omega)) ?_
   simp[wo,d]
  refine Ev.step (fun k=>by simp only [tZ.l0,qi,nn,if_true,xm,qU (t:=t) hp,if_neg c,if_neg d,if_pos hq8]<;>exact rfl) ?_
  rw[qw p t suf]
  refine Ev.eq (ih (p++[t]) (q++[t]) (by rw[←qw];exact hb) (by simp;omega)) ?_
  simp[wo,c,d]
theorem Oe (n a:Int) (E:List S59) (hE:(E.length:Int)<=1048576):Ev (fun k=>tZ.f k n E a) (n,wo E a):=by
 unfold tZ.f
 exact Og n n a E [] [] hE (Nat.le_refl _)
theorem O7 (i:Int) (f:List Int):(roots i f).length<=i.toNat:=by
 rw[←vZ i];exact List.length_filter_le _ _
theorem O9 {i:Int}(h0:0<=i) (f:List Int):roots (i+1) f=roots i f++if rd f i=i then[i] else[]:=by
 unfold roots
 rw[Fp h0,List.filter_append]
 congr 1
 by_cases c:rd f i=i
 ·rw[if_pos c,List.filter_cons,if_pos (decide_eq_true c)];rfl
 rw[if_neg c,List.filter_cons,if_neg (by simpa using c)];rfl
theorem L_ (f:List Int) (h8:(f.length:Int)<=8):∀ (d:Nat) (i:Int),0<=i->i+d=(f.length:Int)->
  Ev (fun k=>uy.l0 k ((roots i f).length:Int) f (f.length:Int) i) ((roots (f.length:Int) f).length:Int):=by
 intro d
 induction d with
 |zero=>
  intro i h0 hi
  have c:¬i<(f.length:Int):=by omega
  have e:i=(f.length:Int):=by omega
  exact Ev.step (fun k=>by simp only [uy.l0,if_neg c]<;>exact rfl) (Ev.val (by rw[e]))
 |succ d ih=>
  intro i h0 hi
  have c:i<(f.length:Int):=by omega
  have w:wrap64 (i+1)=i+1:=w64 (by omega) (by omega)
  have nx:=ih (i+1) (by omega) (by omega)
  have hl:=O7 i f
  have w2:wrap64 (((roots i f).length:Int)+1)=((roots i f).length:Int)+1:=w64 (by omega) (by omega)
  rw[O9 h0]at nx
  by_cases e:rd f i=i
  ·rw[if_pos e]at nx
   refine Ev.step (fun k=>by simp only [uy.l0,if_pos c,if_pos h0,if_pos e.symm,w,w2]<;>exact rfl) ?_
   simpa using nx
  rw[if_neg e]at nx
  refine Ev.step (fun k=>by simp only [uy.l0,if_pos c,if_pos h0,if_neg (fun h=>e (Eq.symm h)),w]<;>exact rfl) ?_
  simpa using nx
theorem Iz (n:Int) (E:List S59) (hE:ok n E):∃f,Parts n E f/\Ev (fun k=>uy.f k n E) ((roots n f).length:Int):=by
 obtain⟨f,e,h⟩:=Ou n E hE
 refine⟨f,h,?_⟩
 have h8:=hE.2.1
 have hl:=h.len
 unfold uy.f
 refine Ev.bind e ?_
 have:=L_ f (by omega) f.length 0 (Int.le_refl 0) (by omega)
 rw[hl]at this⊢
 exact this
theorem Mg (n:Int) (E:List S59) (hE:ok n E) (h1:1<=n) (hn:xR E (qR n)):∀ (d:Nat) (i:Int),0<=i->i+d=n->Ev (fun k=>rX.l0 k [] n i n E) []:=by
 have h8:=hE.2.1
 have hl:=uA hE
 intro d
 induction d with
 |zero=>
  intro i h0 hi
  have c:¬i<n:=by omega
  exact Ev.step (fun k=>by simp only [rX.l0,if_neg c]<;>exact rfl) (Ev.val rfl)
 |succ d ih=>
  intro i h0 hi
  have c:i<n:=by omega
  have w:wrap64 (i+1)=i+1:=w64 (by omega) (by omega)
  have nx:=ih (i+1) (by omega) (by omega)
  refine Ev.step (fun k=>by simp only [rX.l0,if_pos c,w]<;>exact rfl) (Ev.bind (Oe n i E (by omega)) ?_)
  by_cases q:((wo E i).length:Int)<(E.length:Int)
  ·obtain⟨f,p1,e1⟩:=Iz n (wo E i) (Jt _ hE)
   obtain⟨g,p2,e2⟩:=Iz n E hE
   have a:=O_ p1 hn
   have b:=O8 p2 h1
   have w3:wrap64 (((roots n f).length:Int) - 1)=((roots n f).length:Int) - 1:=w64 (by omega) (by omega)
   have no:¬ ((roots n f).length:Int) - 1> ((roots n g).length:Int):=by omega
   simp only [if_pos q]
   refine Ev.bind e1 (Ev.bind e2 ?_)
   simp only [w3,if_neg no]
   exact nx
  simp only [if_neg q]
  exact nx
theorem Mf (n:Int) (E:List S59) (hE:ok n E) (h1:1<=n) (hn:xR E (qR n)):Ev (fun k=>rX.f k n E) []:=by
 have hl:=uA hE
 unfold rX.f
 simp only [Option.bind_some]
 refine Ev.bind (Db n E (by unfold big;omega)) ?_
 simp only [decide_eq_true hE,if_true]
 exact Mg n E hE h1 hn n.toNat 0 (Int.le_refl 0) (by omega)
theorem Ip (l:List Int) (h:l.length<17592186044416):wW.f l=some l:=by
 unfold wW.f
 simp[h]
theorem Nl {n:Int}{p:List Int}{t:Int}{suf:List Int}(h:p++t::suf=qR n):t=(p.length:Int)/\(p.length:Int)<n:=by
 have e:(qR n)[p.length]? =some t:=by rw[←h];simp
 have hl:p.length<(qR n).length:=by rw[←h];simp
 rw[vZ]at hl
 unfold qR at e
 rw[List.getElem?_map,List.getElem?_range hl]at e
 simp at e
 omega
theorem Nk {n:Int}{p:List Int}(h0:0<=n) (h:p++[]=qR n):(p.length:Int)=n:=by
 have:=vZ n
 rw[←h]at this
 simp at this
 omega
theorem Ns (p:List Int) (v:Int) (h:p.length<=100):wrap64 (((p++[v]).length:Int) - 1)=(p.length:Int):=by
 have e:(p++[v]).length=p.length+1:=by simp
 rw[w64 (by omega) (by omega)];omega
theorem PQ (n b:Int) (E:List S59) (hE:ok n E):∀ (d:Nat) (pre:List Int) (v:Int) (out:List (List Int)),(pre++[v]).Nodup->(∀x∈pre++[v],0<=x/\x<n)->n<=(d:Int)+pre.length->d<=9->out.length+8^d<=4000000000->
  Ev (fun k=>qJ.f k n E (pre++[v]) b out) (out++uV n E b d pre v):=by
 have hEl:=uA hE
 have hEb:(E.length:Int)<big:=by unfold big;omega
 have len:∀ (pre:List Int) (v:Int),(pre++[v]).Nodup->(∀x∈pre++[v],0<=x/\x<n)->(pre.length:Int)+1<=n:=by
  intro pre v hn hr
  have:=xS hn (fun x hx=>wL.2 (hr x hx))
  rw[vZ,List.length_append,List.length_singleton]at this
  have:=hE.1
  omega
 intro d
 induction d with
 |zero=>
  intro pre v out hn hr hd _ _
  have:=len pre v hn hr
  omega
 |succ d ih=>
  intro pre v out hn hr hd h9 hl
  have l1:=len pre v hn hr
  have h8:=hE.2.1
  have hw:=Ns pre v (by omega)
  have c0:(0:Int)<=(pre.length:Int):=nn _
  have c1:(pre.length:Int)<((pre++[v]).length:Int):=by simp;omega
  have er:rd (pre++[v]) (pre.length:Int)=v:=rY pre v []
  have lw:(pre++[v]).length<17592186044416:=by simp;omega
  have hwb:((pre++[v]).length:Int)<big:=by simp[big];omega
  have p1:0<8^d:=Nat.pow_pos (by omega)
  rw[Nat.pow_succ]at hl
  by_cases c:v=b
  ·have lo:out.length<5864062014805:=by omega
   refine Ev.step (fun k=>by simp only [qJ.f,hw,if_pos c0,if_pos c1,er,if_pos c,Ip _ lw,Option.bind_some,if_pos lo]<;>exact rfl) (Ev.val ?_)
   unfold uV
   rw[if_pos c]
  refine Ev.step (fun k=>by simp only [qJ.f,hw,if_pos c0,if_pos c1,er,if_neg c]<;>exact rfl) ?_
  have wg:uV n E b (d+1) pre v=(((qR n).filter fun i=>decide (oD v i∈E)).filter fun k=> !decide (k∈pre++[v])).flatMap fun k=>uV n E b d (pre++[v]) k:=by
   rw[uV,if_neg c];rfl
  rw[wg]
  have loop:∀ (suf p:List Int) (out':List (List Int)),p++suf=qR n->out'.length+suf.length*8^d<=4000000000->
    Ev (fun k=>qJ.l0 k (pre++[v]) b out' v n (p.length:Int) n E) (out'++((suf.filter fun i=>decide (oD v i∈E)).filter fun k=> !decide (k∈pre++[v])).flatMap fun k=>uV n E b d (pre++[v]) k):=by
   intro suf
   induction suf with
   |nil=>
    intro p out' hp _
    have e:=Nk hE.1 hp
    have e2:¬ (p.length:Int)<n:=by omega
    exact Ev.step (fun k=>by simp only [qJ.l0,if_neg e2]<;>exact rfl) (Ev.val (by simp))
   |cons t suf ih2=>
    intro p out' hp ho
    obtain⟨et,hlt⟩:=Nl hp
    rw[List.length_cons,Nat.succ_mul]at ho
    have hp2:(p++[t])++suf=qR n:=by rw[←hp];simp
    have ws:wrap64 ((p.length:Int)+1)=((p++[t]).length:Int):=by rw[w64 (by omega) (by omega)];simp
    refine Ev.step (fun k=>by simp only [qJ.l0,if_pos hlt]<;>exact rfl) ?_
    refine Ev.bind (I1 n v (p.length:Int) E hEb) ?_
    rw[←et]
    by_cases ct:oD v t∈E;rotate_left
    ·simp only [ct,decide_false,Bool.false_eq_true,if_false]
     refine Ev.step (fun k=>by simp only [qJ.j1,Bool.false_eq_true,if_false]<;>exact rfl) ?_
     have:=ih2 (p++[t]) out' hp2 (by omega)
     rw[et,ws]
     have e2:((t::suf).filter fun i=>decide (oD v i∈E))=(suf.filter fun i=>decide (oD v i∈E)):=by
      simp only [List.filter_cons,ct,decide_false,Bool.false_eq_true,if_false]
     rw[←et,e2]
     exact this
    simp only [ct,decide_true,if_true]
    refine Ev.bind (Iw (pre++[v]) t hwb) ?_
    by_cases cw:t∈pre++[v]
    ·refine Ev.step (fun k=>by simp only [qJ.j1,cw,decide_true,Bool.not_true,Bool.false_eq_true,if_false]<;>exact rfl) ?_
     have:=ih2 (p++[t]) out' hp2 (by omega)
     rw[et,ws]
     rw[et]at cw ct
     have e2:((t::suf).filter fun i=>decide (oD v i∈E)).filter (fun k=> !decide (k∈pre++[v]))=(suf.filter fun i=>decide (oD v i∈E)).filter (fun k=> !decide (k∈pre++[v])):=by
      rw[et]
      simp only [List.filter_cons,ct,decide_true,if_true,cw,Bool.not_true,Bool.false_eq_true,if_false]
     rw[←et,e2]
     exact this
    have nd:((pre++[v])++[t]).Nodup:=by
     rw[List.nodup_append]
     exact⟨hn,by simp,fun x hx y hy e=>by rw[List.mem_singleton]at hy;subst hy;subst e;exact cw hx⟩
    have rg:∀x∈(pre++[v])++[t],0<=x/\x<n:=by
     intro x hx
     rcases List.mem_append.1 hx with hx|hx
     ·exact hr x hx
     rw[List.mem_singleton]at hx;omega
    have g:=ih (pre++[v]) t out' nd rg (by simp only [List.length_append,List.length_singleton];omega) (by omega) (by omega)
    have lt:(pre++[v]).length+[t].length<17592186044416:=by simp;omega
    refine Ev.step (fun k=>by simp only [qJ.j1,cw,decide_false,Bool.not_false,if_true,Ip _ lw,Option.bind_some,if_pos lt]<;>exact rfl) ?_
    refine Ev.bind g ?_
    have gl:=DR (tgt:=b) (E:=E) hE.2.1 d (pre++[v]) t
    have:=ih2 (p++[t]) (out'++uV n E b d (pre++[v]) t) hp2 (by rw[List.length_append];omega)
    rw[et,ws]
    have e2:((t::suf).filter fun i=>decide (oD v i∈E)).filter (fun k=> !decide (k∈pre++[v]))=t::(suf.filter fun i=>decide (oD v i∈E)).filter (fun k=> !decide (k∈pre++[v])):=by
     simp only [List.filter_cons,ct,decide_true,if_true,cw,decide_false,Bool.not_false]
    rw[←et,e2,List.flatMap_cons,←List.append_assoc]
    exact this
  refine loop (qR n) [] out (by simp) ?_
  rw[vZ]
  have:n.toNat*8^d<=8*8^d:=Nat.mul_le_mul_right _ (by omega)
  omega
theorem Lj (n a b:Int) (E:List S59) (hE:ok n E) (ha:0<=a/\a<n):Ev (fun k=>zB.f k n E a b) (xD n E a b):=by
 unfold zB.f Cb
 have:=PQ n b E hE 9 [] a [] (by simp) (by simpa using ha) (by have:=hE.2.1;simp;omega) (by omega) (by simp)
 rw[List.nil_append,List.nil_append]at this
 refine Ev.bind this ?_
 have gl:=DR (tgt:=b) (E:=E) hE.2.1 9 [] a
 have l:(uV n E b 9 [] a).length<4611686018427387904:=by omega
 simp only [if_pos l]
 exact Ev.val rfl
theorem Fx (l:List Tie) (t s:Tie):s∈vF l t↔s∈l\/s=t:=by
 unfold vF
 rw[Ar]
 by_cases c:t∈l
 ·have:decide ((⟨t.f0,t.f1⟩:Tie)∈l)=true:=decide_eq_true c
  rw[if_pos this]
  exact⟨Or.inl,fun h=>h.elim id (fun e=>e▸c)⟩
 have:¬decide ((⟨t.f0,t.f1⟩:Tie)∈l)=true:=by simpa using c
 rw[if_neg this,List.mem_append,List.mem_singleton]
theorem LJ (S:List S59):∀ (suf p out:List S59),((p++suf).length:Int)<1048576->out.length+suf.length<1048576->
  Ev (fun k=>qy.l2 k out (p++suf) ((p++suf).length:Int) (p.length:Int) S) (out++suf.filter fun s=>decide (s∈S)):=by
 intro suf
 induction suf with
 |nil=>
  intro p out _ _
  exact Ev.step (fun k=>by simp only [qy.l2,sP,if_false]<;>exact rfl) (Ev.val (by simp))
 |cons t suf ih=>
  intro p out hb ho
  have hp:(p.length:Int)<big:=sV (suf:=suf) (t:=t) (by unfold big;omega)
  have hl:out.length<8796093022208:=by omega
  by_cases c:t∈S
  ·have ct:rM S t.f0 t.f1=true:=by rw[Ar];exact decide_eq_true c
   refine Ev.step (fun k=>by simp only [qy.l2,qi,nn,if_true,xm,qU (t:=t) hp,if_pos ct,if_pos hl]<;>exact rfl) ?_
   have:=ih (p++[t]) (out++[t]) (by rw[←qw];exact hb) (by simp at ho⊢;omega)
   rw[qw p t suf]
   refine Ev.eq this ?_
   rw[List.filter_cons,if_pos (decide_eq_true c)];simp
  have ct:¬rM S t.f0 t.f1=true:=by rw[Ar];simpa using c
  refine Ev.step (fun k=>by simp only [qy.l2,qi,nn,if_true,xm,qU (t:=t) hp,if_neg ct]<;>exact rfl) ?_
  have:=ih (p++[t]) out (by rw[←qw];exact hb) (by simp at ho⊢;omega)
  rw[qw p t suf]
  refine Ev.eq this ?_
  rw[List.filter_cons,if_neg (by simpa using c)]
theorem LH (ways:List (List Int)) (nw i n:Int) (E:List S59):∀ (suf p:List Int) (c:Int) (S:List S59),((p++c::suf).length:Int)<1048576->
  ∃S':List S59,(∀s,s∈S'↔s∈S\/s∈ties (c::suf))/\∀r,Ev (fun k=>qy.l0 k ways nw (wrap64 (i+1)) S' n E) r->Ev (fun k=>qy.l1 k (p++c::suf) ((p++[c]).length:Int) ways nw i S n E) r:=by
 intro suf
 induction suf with
 |nil=>
  intro p c S _
  refine⟨S,by simp[ties],fun r h=>?_⟩
  have e:¬ ((p++[c]).length:Int)<((p++[c]).length:Int):=by omega
  exact Ev.step (fun k=>by simp only [qy.l1,if_neg e]<;>exact rfl) h
 |cons d suf ih=>
  intro p c S hb
  obtain⟨S',h1,h2⟩:=ih (p++[c]) d (vF S (oD c d)) (by rw[←qw];exact hb)
  refine⟨S',fun s=>?_,fun r h=>?_⟩
  ·rw[h1,Fx]
   simp only [ties,List.mem_cons]
   exact⟨fun h=>h.elim (fun h=>h.elim Or.inl (fun e=>Or.inr (Or.inl e))) (fun h=>Or.inr (Or.inr h)),fun h=>h.elim (fun h=>Or.inl (Or.inl h)) (fun h=>h.elim (fun e=>Or.inl (Or.inr e)) Or.inr)⟩
  have e0:p++c::d::suf=(p++[c])++d::suf:=by simp
  have hl:((p++[c]).length:Int)<((p++c::d::suf).length:Int):=by simp;omega
  have hw:wrap64 (((p++[c]).length:Int) - 1)=(p.length:Int):=by
   simp only [List.length_append,List.length_cons,List.length_nil]at hb⊢
   rw[w64 (by omega) (by omega)];omega
  have hl2:(p.length:Int)<((p++c::d::suf).length:Int):=by simp;omega
  have r1:rd (p++c::d::suf) (p.length:Int)=c:=rY p c _
  have r2:rd (p++c::d::suf) ((p++[c]).length:Int)=d:=by rw[e0];exact rY _ d _
  have hs:wrap64 (((p++[c]).length:Int)+1)=((p++[c]++[d]).length:Int):=qU (by simp only [List.length_append,List.length_cons,List.length_nil]at hb⊢;unfold big;omega)
  refine Ev.step (fun k=>by simp only [qy.l1,if_pos hl,hw,nn,if_true,if_pos hl2,r1,r2,FW,Option.bind_some,hs]<;>exact rfl) ?_
  have:=h2 r h
  rw[←e0]at this
  exact this
theorem LG (n:Int) (E:List S59):∀ (suf p:List (List Int)) (S:List S59),((p++suf).length:Int)<big->(∀w∈suf,w≠[]/\(w.length:Int)<1048576)->
  ∃S':List S59,(∀s,s∈S'↔s∈S\/∃w∈suf,s∈ties w)/\∀r,Ev (fun k=>qy.l2 k [] E (E.length:Int) 0 S') r->Ev (fun k=>qy.l0 k (p++suf) ((p++suf).length:Int) (p.length:Int) S n E) r:=by
 intro suf
 induction suf with
 |nil=>
  intro p S _ _
  exact⟨S,by simp,fun r h=>Ev.step (fun k=>by simp only [qy.l0,sP,if_false]<;>exact rfl) h⟩
 |cons w suf ih=>
  intro p S hb hw
  have hp:(p.length:Int)<big:=sV hb
  obtain⟨hw1,hw2⟩:=hw w (by simp)
  cases w with
  |nil=>exact absurd rfl hw1
  |cons c w=>
   obtain⟨S1,a1,a2⟩:=LH (p++(c::w)::suf) ((p++(c::w)::suf).length:Int) (p.length:Int) n E w [] c S (by simpa using hw2)
   obtain⟨S2,b1,b2⟩:=ih (p++[c::w]) S1 (by rw[←qw];exact hb) (fun x hx=>hw x (by simp[hx]))
   refine⟨S2,fun s=>?_,fun r h=>?_⟩
   ·rw[b1,a1]
    simp only [List.mem_cons,exists_eq_or_imp]
    exact or_assoc
   refine Ev.step (fun k=>by simp only [qy.l0,qi,nn,if_true,xn]<;>exact rfl) ?_
   refine a2 r ?_
   rw[qU (t:=c::w) hp]
   have:=b2 r h
   rw[←qw]at this
   exact this
theorem LF (n a b:Int) (E:List S59) (hE:ok n E) (ha:0<=a/\a<n):∃S:List S59,Ev (fun k=>qy.f k n E a b) (E.filter fun s=>decide (s∈S))/\
  ∀s,s∈S↔s=⟨a,b⟩\/∃w,uG (cut E ⟨a,b⟩) a b w/\s∈ties w:=by
 have hl:=uA hE
 have hc:=Ai ⟨a,b⟩ hE
 have hi:=hc.2.2.1
 have h8:=hE.2.1
 have hm:∀w,w∈xD n (cut E ⟨a,b⟩) a b↔uG (cut E ⟨a,b⟩) a b w:=fun w=>NR h8 hi ha
 have hlen:((xD n (cut E ⟨a,b⟩) a b).length:Int)<big:=by
  have:=DR (tgt:=b) (E:=cut E ⟨a,b⟩) h8 9 [] a
  unfold xD
  rw[(Ap _).length_eq]
  unfold big;omega
 obtain⟨S,h1,h2⟩:=LG n E (xD n (cut E ⟨a,b⟩) a b) [] (vF [] ⟨a,b⟩) hlen (fun w hw=>by
  have k:=(hm w).1 hw
  refine⟨fun e=>by have:=k.head;rw[e]at this;simp at this,?_⟩
  have:=xS k.nodup (fun x hx=>wL.2 (Kg hi ha k x hx))
  rw[vZ]at this
  omega)
 refine⟨S,?_,fun s=>?_⟩
 ·unfold qy.f
  refine Ev.bind (Nv n E ⟨a,b⟩ (by omega)) (Ev.bind (Lj n a b _ hc ha) ?_)
  exact h2 _ (LJ S E [] [] (by rw[List.nil_append];omega) (by rw[List.length_nil];omega))
 rw[h1,Fx]
 simp only [hm,List.not_mem_nil,false_or]
end Go.Proofs.Ytgeonpciodepgaa.P
namespace Go.Proofs.Ytgeonpciodepgaa.G
theorem Ja (p:List Int) (v:Int) (s:List Int):(p++v::s).getLast? =(v::s).getLast? :=by
 rw[List.getLast?_append]
 cases h:(v::s).getLast? with
 |none=>simp at h
 |some x=>rfl
theorem JO {E:List Tie}{a b y v:Int}{c1 c2 c3 q:List Int}(h:uG E a b (c1++y::(c2++v::c3))) (ht:∀t∈ties (y::(q++[v])),t∈E) (hq:q.Nodup) (hd:∀x∈q,x∉c1++y::(c2++v::c3)):
  uG E a b (c1++y::(q++v::c3))/\∀t∈ties (y::(q++[v])),t∈ties (c1++y::(q++v::c3)):=by
 have e1:ties (c1++y::(q++v::c3))=ties (c1++[y])++ties (y::(q++v::c3)):=DL 0 c1 y _
 have e2:ties (y::(q++v::c3))=ties (y::(q++[v]))++ties (v::c3):=by
  have:=DL 0 (y::q) v c3
  simpa using this
 have hin:∀t∈ties (y::(q++[v])),t∈ties (c1++y::(q++v::c3)):=fun t ht=>by
  rw[e1,e2];exact List.mem_append_right _ (List.mem_append_left _ ht)
 refine⟨{head:= ?_,last:= ?_,ties:=fun t k=>?_,nodup:= ?_},hin⟩
 ·have:=h.head
  cases c1 with
  |nil=>simpa using this
  |cons x c1=>simpa using this
 ·have:=h.last
  rw[show c1++y::(c2++v::c3)=(c1++y::c2)++v::c3 by simp,Ja]at this
  rw[show c1++y::(q++v::c3)=(c1++y::q)++v::c3 by simp,Ja]
  exact this
 ·rw[e1,e2]at k
  rcases List.mem_append.1 k with k|k
  ·exact h.ties t (by rw[DL 0 c1 y];exact List.mem_append_left _ k)
  rcases List.mem_append.1 k with k|k
  ·exact ht t k
  exact h.ties t (by rw[show c1++y::(c2++v::c3)=(c1++y::c2)++v::c3 by simp];exact F3 _ _ _ k)
 have hn:=h.nodup
 simp only [List.nodup_append,List.nodup_cons,List.mem_cons,List.mem_append,not_or]at hn hd⊢
 obtain⟨n1,⟨⟨n2,n3,n4⟩,n5,⟨n6,n7⟩,n8⟩,n9⟩:=hn
 refine⟨n1,⟨⟨fun k=>(hd y k).2.1 rfl,n3,n4⟩,hq,⟨n6,n7⟩,fun x hx z hz e=>?_⟩,fun x hx z hz e=>?_⟩
 ·subst e
  rcases hz with rfl|hz
  ·exact(hd x hx).2.2.2.1 rfl
  exact(hd x hx).2.2.2.2 hz
 subst e
 rcases hz with rfl|hz|rfl|hz
 ·exact n9 x hx x (Or.inl rfl) rfl
 ·exact(hd x hz).1 hx
 ·exact n9 x hx x (Or.inr (Or.inr (Or.inl rfl))) rfl
 exact n9 x hx x (Or.inr (Or.inr (Or.inr hz))) rfl
theorem IX {c:List Int}:∀ (p:List Int),(∃x∈p,x∈c)->∃p1 v p2,p=p1++v::p2/\v∈c/\∀x∈p1,x∉c
 |[],h=>by obtain⟨x,hx,_⟩:=h;simp at hx
 |x::p,h=>by
  by_cases q:x∈c
  ·exact⟨[],x,p,rfl,q,by simp⟩
  obtain⟨p1,v,p2,e,h1,h2⟩:=IX p (by
   obtain⟨y,hy,hc⟩:=h
   rcases List.mem_cons.1 hy with rfl|hy
   ·exact absurd hc q
   exact⟨y,hy,hc⟩)
  refine⟨x::p1,v,p2,by rw[e];rfl,h1,fun z hz=>?_⟩
  rcases List.mem_cons.1 hz with rfl|hz
  ·exact q
  exact h2 z hz
theorem PK {c:List Int}{y v:Int}(hy:y∈c) (hv:v∈c) (hne:y≠v):(∃c1 c2 c3,c=c1++y::(c2++v::c3))\/∃c1 c2 c3,c=c1++v::(c2++y::c3):=by
 obtain⟨s,t,rfl⟩:=List.append_of_mem hy
 rcases List.mem_append.1 hv with k|k
 ·obtain⟨s1,s2,rfl⟩:=List.append_of_mem k
  exact Or.inr ⟨s1,s2,t,by simp⟩
 rcases List.mem_cons.1 k with k|k
 ·exact absurd k.symm hne
 obtain⟨t1,t2,rfl⟩:=List.append_of_mem k
 exact Or.inl ⟨s,t1,t2,rfl⟩
def Bt (E:List Tie) (e g:Tie):Prop:=g=e\/∃w,uG (cut E e) e.f0 e.f1 w/\g∈ties w
theorem J8 {a:Int}:∀ (p:List Int) (v:Int),∀t∈ties (a::(p++[v])),t=oD a ((p++[v]).headD 0)\/∃x∈p,t.f0=x\/t.f1=x
 |[],v,t,h=>by simp[ties]at h;exact Or.inl h
 |b::p,v,t,h=>by
  simp only [List.cons_append,ties,List.mem_cons]at h
  rcases h with h|h
  ·exact Or.inl h
  have hb:∀x y,t=oD x y->(t.f0=x\/t.f1=x):=fun x y e=>by
   subst e;unfold oD;split
   ·exact Or.inl rfl
   exact Or.inr rfl
  rcases J8 p v t h with e|⟨x,hx,e⟩
  ·exact Or.inr ⟨b,by simp,hb _ _ e⟩
  exact Or.inr ⟨x,by simp[hx],e⟩
theorem share {n:Int}{E:List Tie}(h8:n<=8) (hE:∀t∈E,inr n t) (hn:xR E (qR n)) {e:Tie}(he:e∈E) {x y z:Int}(hf:oD x y∈E) (hg:oD y z∈E) (hfg:x≠z) (hgood:Bt E e (oD x y)):Bt E e (oD y z):=by
 obtain⟨hx,hy,hxy⟩:=vH (hE _ hf)
 obtain⟨_,hz,hyz⟩:=vH (hE _ hg)
 by_cases ge:oD y z=e
 ·exact Or.inl ge
 -- a way from z to x without y
 obtain⟨c0,hc0⟩:=hn y
 have hcon:qm (wo E y) z x:=(hc0 z (wL.2 hz) (fun k=>hyz k.symm)).symm.trans (hc0 x (wL.2 hx) hxy)
 have hwi:∀t∈wo E y,inr n t:=fun t ht=>hE t (yO.1 ht).1
 obtain⟨p,_,_,_,hp⟩:=MP h8 hwi hz hcon
 have hyp:y∉p:=fun k=>by
  have:=PO (ks:=(qR n).filter fun v=>decide (v≠y)) hp (List.mem_filter.2 ⟨wL.2 hz,decide_eq_true (fun k=>hyz k.symm)⟩) (fun t ht=>by
   have q:=yO.1 ht
   have r:=hE t q.1
   exact⟨List.mem_filter.2 ⟨wL.2 ⟨r.1,by have:=r.2.1;have:=r.2.2;omega⟩,decide_eq_true q.2.1⟩,List.mem_filter.2 ⟨wL.2 ⟨by have:=r.1;have:=r.2.1;omega,r.2.2⟩,decide_eq_true q.2.2⟩⟩) y k
  have:=(List.mem_filter.1 this).2
  simp at this
 obtain⟨p',rfl⟩:∃p',p=z::p':=by
  cases p with
  |nil=>have:=hp.head;simp at this
  |cons u p'=>have:=hp.head;simp at this;subst this;exact⟨p',rfl⟩
 have hxp:x∈z::p':=List.mem_of_getLast? hp.last
 have hpE:∀t∈ties (z::p'),t∈E/\t.f0≠y/\t.f1≠y:=fun t ht=>yO.1 (hp.ties t ht)
 rcases hgood with hfe|⟨c,hc,hfc⟩
 ·-- the first is e itself
  have hw:uG (cut E (oD x y)) y x (y::z::p'):={
   head:=rfl
   last:=by have:=hp.last;rw[List.getLast?_cons_cons];exact this
   ties:=fun t ht=>by
    simp only [ties,List.mem_cons]at ht
    rcases ht with rfl|ht
    ·exact Fw.2 ⟨hg,fun k=>ge (k.trans hfe)⟩
    refine Fw.2 ⟨(hpE t ht).1,fun k=>?_⟩
    have q:=(hpE t ht).2
    rw[k]at q
    unfold oD at q
    split at q
    ·exact q.2 rfl
    exact q.1 rfl
   nodup:=List.nodup_cons.2 ⟨hyp,hp.nodup⟩}
  obtain⟨w,w1,w2⟩:=O6 (a:=x) (b:=y) hE hw
  rw[hfe]at w1
  exact Or.inr ⟨w,w1,w2 _ (by simp[ties])⟩
 by_cases gc:oD y z∈ties c
 ·exact Or.inr ⟨c,hc,gc⟩
 have hin:∀t∈ties c,t.f0∈c/\t.f1∈c:=fun t ht=>Au c ht
 have hxc:x∈c/\y∈c:=by
  have:=hin _ hfc
  unfold oD at this
  split at this
  ·exact this
  exact⟨this.2,this.1⟩
 have hec:e.f0∈c/\e.f1∈c:=⟨List.mem_of_mem_head? hc.head,List.mem_of_getLast? hc.last⟩
 obtain⟨p1,v,p2,e1,hv,hd⟩:=IX (c:=c) (z::p') ⟨x,hxp,hxc.1⟩
 have hyv:y≠v:=fun k=>hyp (by rw[e1,k];simp)
 have hhead:(p1++[v]).headD 0=z:=by
  cases p1 with
  |nil=>simp at e1⊢;exact e1.1.symm
  |cons u p1=>simp at e1⊢;exact e1.1.symm
 have hsub:∀t∈ties (p1++[v]),t∈ties (z::p'):=fun t ht=>by
  rw[e1,show p1++v::p2=(p1++[v])++p2 by simp];exact FZ _ _ _ ht
 have hQ:∀t∈ties (y::(p1++[v])),t∈cut E e:=fun t ht=>by
  have hne:t≠e:=fun k=>by
   rcases J8 p1 v t ht with q|⟨u,hu,q⟩
   ·rw[hhead]at q;exact ge (q.symm.trans k)
   rw[k]at q
   rcases q with q|q
   ·exact hd u hu (q▸hec.1)
   exact hd u hu (q▸hec.2)
  refine Fw.2 ⟨?_,hne⟩
  cases p1 with
  |nil=>
   simp only [List.nil_append,ties,List.mem_cons,List.not_mem_nil,or_false]at ht
   have:v=z:=by simpa using hhead
   rw[ht,this];exact hg
  |cons u p1=>
   have:u=z:=by simpa using hhead
   subst this
   simp only [List.cons_append,ties,List.mem_cons]at ht
   rcases ht with rfl|ht
   ·exact hg
   exact(hpE t (hsub t (by simpa using ht))).1
 have hn1:p1.Nodup:=by
  have:=hp.nodup
  rw[e1,List.nodup_append]at this
  exact this.1
 have hgQ:oD y z∈ties (y::(p1++[v])):=by
  cases p1 with
  |nil=>
   have:v=z:=by simpa using hhead
   simp[ties,this]
  |cons u p1=>
   have:u=z:=by simpa using hhead
   simp[ties,this]
 rcases PK hxc.2 hv hyv with⟨c1,c2,c3,rfl⟩|⟨c1,c2,c3,rfl⟩
 ·obtain⟨r1,r2⟩:=JO (q:=p1) hc hQ hn1 hd
  exact Or.inr ⟨_,r1,r2 _ hgQ⟩
 have er:ties (v::(p1.reverse++[y]))=(ties (y::(p1++[v]))).reverse:=by
  rw[←DJ];simp
 obtain⟨r1,r2⟩:=JO (q:=p1.reverse) hc (fun t ht=>hQ t (by rw[er]at ht;exact List.mem_reverse.1 ht)) (Js hn1) (fun u hu=>hd u (List.mem_reverse.1 hu))
 exact Or.inr ⟨_,r1,r2 _ (by rw[er];exact List.mem_reverse.2 hgQ)⟩
theorem Ll {n:Int}{E:List Tie}(h8:n<=8) (hE:∀t∈E,inr n t) (hn:xR E (qR n)) {e:Tie}(he:e∈E):∀g∈E,Bt E e g:=by
 have hself:∀t∈E,oD t.f0 t.f1=t:=fun t ht=>Px (hE t ht)
 -- at each knot that can be come to all ties are
 have step:∀u,qm E e.f0 u->∀v,oD u v∈E->Bt E e (oD u v):=by
  intro u hu
  refine hu.closed (fun u=>∀v,oD u v∈E->Bt E e (oD u v)) (fun v hv=>?_) (fun x y hx ht v hv=>?_)
  ·by_cases k:e.f1=v
   ·refine Or.inl ?_
    rw[←k];exact hself e he
   refine share h8 hE hn he (x:=e.f1) (y:=e.f0) (z:=v) ?_ hv k ?_
   ·rw[yt,hself e he];exact he
   exact Or.inl (by rw[yt];exact hself e he)
  by_cases k:x=v
  ·subst k
   rw[yt];exact hx y ht
  exact share h8 hE hn he (x:=x) (y:=y) (z:=v) ht hv k (hx y ht)
 intro g hg
 obtain⟨c,hc⟩:=hn (-1)
 have hk:∀t∈E,t.f0∈qR n/\t.f0≠ -1:=fun t ht=>by
  have r:=hE t ht
  exact⟨wL.2 ⟨r.1,by have:=r.2.1;have:=r.2.2;omega⟩,by have:=r.1;omega⟩
 have hcon:qm E e.f0 g.f0:=by
  have a:=hc e.f0 (hk e he).1 (hk e he).2
  have b:=hc g.f0 (hk g hg).1 (hk g hg).2
  exact(a.symm.trans b).mono (fun t ht=>(yO.1 ht).1)
 have:=step g.f0 hcon g.f1 (by rw[hself g hg];exact hg)
 rw[hself g hg]at this
 exact this
end Go.Proofs.Ytgeonpciodepgaa.G
namespace Go.Proofs.Ytgeonpciodepgaa.P
open Go.RowKit Go.Proofs.YtgeonpciodepgaaW.PrintWords Go.Proofs.Ytgeonpciodepgaa.G Go.Proofs.YtgeonpciodepgaaW.PrintWords.Kd
theorem NC (n i m:Int) (E F:List S59) (x:List Int) (hx:x.length<5864062014805):∀ (suf p:List S59) (S:List S59),((p++suf).length:Int)<big->
  ∃S':List S59,(∀s,s∈S'↔s∈S\/s∈suf)/\∀r,Ev (fun k=>sO.l0 k (x++[55]) F m (wrap64 (i+1)) S' n E) r->Ev (fun k=>sO.l1 k x F m i (p++suf) ((p++suf).length:Int) (p.length:Int) S n E) r:=by
 intro suf
 induction suf with
 |nil=>
  intro p S _
  exact⟨S,by simp,fun r h=>Ev.step (fun k=>by simp only [sO.l1,sP,if_false,if_pos hx]<;>exact rfl) h⟩
 |cons t suf ih=>
  intro p S hb
  have hp:(p.length:Int)<big:=sV hb
  obtain⟨S',h1,h2⟩:=ih (p++[t]) (vF S t) (wG hb)
  refine⟨S',fun s=>?_,fun r h=>?_⟩
  ·rw[h1,Fx,List.mem_cons,or_assoc]
  refine Ev.step (fun k=>by simp only [sO.l1,qi,nn,if_true,xm,qU (t:=t) hp]<;>exact rfl) ?_
  have:=h2 r h
  rw[←qw]at this
  exact this
theorem ND (n:Int) (E:List S59) (x:List Int) (S:List S59):∀ (suf p:List S59),((p++suf).length:Int)<big->(∀s∈suf,s∈S)->
  Ev (fun k=>sO.l0 k x (p++suf) ((p++suf).length:Int) (p.length:Int) S n E) x:=by
 intro suf
 induction suf with
 |nil=>
  intro p _ _
  exact Ev.step (fun k=>by simp only [sO.l0,sP,if_false]<;>exact rfl) (Ev.val rfl)
 |cons t suf ih=>
  intro p hb hs
  have hp:(p.length:Int)<big:=sV hb
  have ct:rM S t.f0 t.f1=true:=by rw[Ar];exact decide_eq_true (hs t List.mem_cons_self)
  refine Ev.step (fun k=>by simp only [sO.l0,qi,nn,if_true,xm,if_pos ct,qU (t:=t) hp]<;>exact rfl) ?_
  have:=ih (p++[t]) (wG hb) (fun s h=>hs s (List.mem_cons_of_mem _ h))
  rw[←qw]at this
  exact this
theorem NB (n:Int) (E:List S59) (hE:ok n E) (hne:E≠[]) (hn:xR E (qR n)):Ev (fun k=>sO.f k n E) [55]:=by
 have hl:=uA hE
 have hb:(E.length:Int)<big:=by unfold big;omega
 unfold sO.f
 simp only [Option.bind_some]
 refine Ev.bind (Db n E hb) ?_
 simp only [decide_eq_true hE,if_true]
 obtain⟨e,E',he⟩:∃e E',E=e::E':=by
  cases E with
  |nil=>exact absurd rfl hne
  |cons e E'=>exact⟨e,E',rfl⟩
 have hin:e∈E:=by rw[he];exact List.mem_cons_self
 have hi:=hE.2.2.1 e hin
 obtain⟨S,b1,b2⟩:=LF n e.f0 e.f1 E hE ⟨hi.1,by have:=hi.2.1;have:=hi.2.2;omega⟩
 have all:E.filter (fun s=>decide (s∈S))=E:=List.filter_eq_self.2 (fun g hg=>decide_eq_true ((b2 g).2 (Ll hE.2.1 hE.2.2.1 hn hin g hg)))
 rw[all]at b1
 have l0:(0:Int)<(E.length:Int):=by rw[he];simp
 have r0:nk E 0=e:=by rw[he];rfl
 have ct:¬rM ([]:List S59) e.f0 e.f1=true:=by simp[rM]
 refine Ev.step (fun k=>by simp only [sO.l0,if_pos l0,Int.le_refl,if_true,r0,if_neg ct]<;>exact rfl) (Ev.bind b1 ?_)
 obtain⟨S',c1,c2⟩:=NC n 0 (E.length:Int) E E [] (by simp) E [] [] hb
 refine c2 _ ?_
 have:=ND n E ([]++[55]) S' E' [e] (by rw[List.singleton_append,←he];exact hb) (fun s hs=>(c1 s).2 (Or.inr (by rw[he];exact List.mem_cons_of_mem _ hs)))
 rw[List.singleton_append,←he]at this
 rw[show wrap64 ((0:Int)+1)=(([e]:List S59).length:Int) from(w64 (by omega) (by omega)).trans rfl]
 exact this
theorem KF (l:List Int) (_hl:l.length<=9223372036854775807) (h:∀x∈l,0<=x/\x<=255):∃k,vD.f k l=some true:=by
 refine Ev.rounds ?_
 unfold vD.f
 by_cases d:(l.length:Int)>1048576
 ·simp only [if_pos d];exact Ev.val rfl
 simp only [if_neg d]
 obtain⟨n,E,r,d1,hE,hr⟩:=Mm l h
 have hEb:(E.length:Int)<big:=by unfold big;omega
 have hrb:(r.length:Int)<big:=by have:=hr.1;unfold big;omega
 have hT:tot r<4000000:=by have:=hr.1;have:=J_ hr.2;omega
 have hrr:∀x∈r,(x.length:Int)<big:=fun x hx=>by have:=hr.2 x hx;unfold big;omega
 obtain⟨b1,e1,i1⟩:=M6 n E r hEb hrb hT
 obtain⟨b2,e2,i2⟩:=Pj n E r hEb hrb hT
 have hb:b1=b2:=by rw[Bool.eq_iff_iff,i1,i2]
 subst hb
 have o1:=Mv r hrb hrr
 have o2:=Pm r hrb hrr
 generalize hob:(opens true r&&decide ((r.length:Int)>0))=o at o1 o2
 refine Ev.bind d1 (Ev.bind e1 (Ev.bind o1 (Ev.bind e2 ?_)))
 have nb:¬ (b1 !=b1)=true:=by simp
 simp only [if_neg nb]
 refine Ev.bind o2 ?_
 have no:¬ (o !=o)=true:=by simp
 simp only [if_neg no]
 have bad:Ev (fun k=>vD.j0 k r b1 o true n E) true:=
  Ev.step (fun k=>by simp only [vD.j0,if_true]<;>exact rfl) (Ev.bind e2 (by simp only [beq_self_eq_true,if_true];exact Ev.bind o2 (Ev.val (by simp))))
 by_cases t:b1=true;rotate_left
 ·have:b1=false:=by simpa using t
  subst this
  simp only [Bool.false_eq_true,if_false]
  exact bad
 subst t
 simp only [if_true]
 by_cases u:o=true;rotate_left
 ·have:o=false:=by simpa using u
  subst this
  simp only [Bool.not_false]
  exact bad
 subst u
 simp only [Bool.not_true]
 obtain⟨a1,a2,a3⟩:=i1.1 rfl
 rw[Bool.and_eq_true]at hob
 have hn:=IK a1.1 r true [] [] (fun _=>rfl) (fun k=>⟨0,fun u hu=>by simp at hu⟩) (by simp) (by simp) (by simp) hob.1 a3
 have h2:1<=n/\E≠[]:=by
  cases r with
  |nil=>exact absurd rfl a2
  |cons row rest=>
   have q:=a3.1
   obtain⟨a,m,z,rfl⟩:=Bz q.len
   have k:=q.qR a List.mem_cons_self
   refine⟨by omega,fun e=>?_⟩
   obtain⟨b,s,hs⟩:∃b s,m++[z]=b::s:=by
    cases hm:m++[z] with
    |nil=>simp at hm
    |cons b s=>exact⟨b,s,rfl⟩
   have:=q.tied (oD a b) (by rw[hs];simp[ties])
   rw[e]at this
   simp at this
 refine Ev.step (fun k=>by simp only [vD.j0,Bool.false_eq_true,if_false]<;>exact rfl) ?_
 refine Ev.bind (Mf n E a1 h2.1 hn) ?_
 simp only [List.length_nil,Int.natCast_zero,if_true]
 exact Ev.bind (NB n E a1 h2.2 hn) (Ev.val rfl)
end Go.Proofs.Ytgeonpciodepgaa.P
namespace Go.Proofs.Ytgeonpciodepgaa.P
open Go.RowKit Go.Proofs.YtgeonpciodepgaaW.PrintWords Go.ChangeShapes Go.WideShapes Go.Deep Go.Proofs.YtgeonpciodepgaaW.PrintWords.Kd
theorem OV {H:Type}{enc:TypeId×Value->H}{Pr:Program}{t e:TypeId}{k:IntKind}(ht:Pr.underlying t=some (.slice e)) (he:Pr.underlying e=some (.int k)) (hc:Pr.cellsOf e=1) {w:World}{base:Nat}{spare:Nat->Bool}{held:Bool}{fuel:Nat}{cs:List Value}{x:DataW H×List MemPlace}
  (h:DataW.trod enc Pr w base spare held fuel t cs=some x):
  ∃ (A:Option Addr) (c:Nat) (l:List Int),cs=[.slice A l.length c]/\l.length<=c/\Kd.C (Kd.int k) w A l.length l/\∀n∈l,(Lit.int k n).wf=true:=by
 rcases open_slice1 ht hc h with⟨rfl,_⟩|⟨a,len,cap,m,n,V,D,Pl,rfl,hb,hl,hm,hmm,hx,hi⟩
 ·exact⟨none,0,[],rfl,Nat.le_refl _,⟨rfl,by simp,fun h=>by simp at h⟩,fun t ht=>by simp at ht⟩
 have hlm:len<=m:=by rw[hmm];split<;>omega
 have key:∀i,i<len->∃z:Int,w.cell? (a.add i)=some (.int k z)/\(Lit.int k z).wf=true:=by
  intro i hil
  obtain⟨h0,r0⟩:=hi i (by omega)
  obtain⟨n0,e0,_,w0⟩:=DataW.trod_int he r0
  simp only [List.cons.injEq,and_true]at e0
  exact⟨n0,by rw[h0,e0],w0⟩
 obtain⟨f,hf⟩:=choose_lt key
 refine⟨some a,cap,(List.range len).map f,by simp,by simpa using hl,⟨by simp,?_,fun _=>⟨a,rfl,fun j p hj=>?_⟩⟩,fun t ht=>?_⟩
 ·unfold maxLen at hm;simp;omega
 ·obtain⟨hj1,hj2⟩:=List.getElem?_eq_some_iff.1 hj
  simp at hj1 hj2
  subst hj2
  refine⟨[.int k (f j)],rfl,rfl,fun i u hu=>?_⟩
  match i,hu with
  |0,hu=>
   simp at hu;subst hu
   have:j*(Kd.int k).sz+0=j:=Nat.mul_one j
   rw[this]
   exact(hf j hj1).1
 simp at ht
 obtain⟨i,hil,rfl⟩:=ht
 exact(hf i hil).2
end Go.Proofs.Ytgeonpciodepgaa.P
