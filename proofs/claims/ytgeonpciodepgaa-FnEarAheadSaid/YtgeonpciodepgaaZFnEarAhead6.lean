/- The proof's parts ahead of the row: of no condition of their own. -/
import Derived.Test.YtgeonpciodepgaaZFnEarAhead5
import Derived.Deep.Slices
import Derived.ProofKit
set_option linter.unusedVariables false
set_option linter.unusedSimpArgs false
namespace Go.Proofs.Ytgeonpciodepgaa.G
def zbf (a b:Int):Tie:=if a<b then⟨a,b⟩ else⟨b,a⟩
theorem zdM (a b:Int):zbf a b=zbf b a:=by
 unfold zbf
 rcases Int.lt_trichotomy a b with h|h|h
 ·rw[if_pos h,if_neg (by omega)]
 ·subst h;rfl
 ·rw[if_neg (by omega),if_pos h]
end Go.Proofs.Ytgeonpciodepgaa.G
namespace Go.Proofs.Ytgeonpciodepgaa.P
open Go.RowKit Go.Proofs.YtgeonpciodepgaaW.PrintWords Go.Proofs.Ytgeonpciodepgaa.G Go.Proofs.YtgeonpciodepgaaW.PrintWords.Kd
theorem zff (pre:List S59) (t:S59) (suf:List S59):zac (pre++t::suf) (pre.length:Int)=t:=by
 unfold zac;exact zdY pre t suf _
theorem zd5 (a b:Int):zbt.f a b=some ((zbf a b).f0,(zbf a b).f1):=by
 unfold zbt.f zbf
 by_cases h:a<b<;>simp[h]
theorem zkn (s t:Tie):(s.f0==t.f0&&(s.f1==t.f1))=decide (s=t):=by
 obtain⟨a,b⟩:=s
 obtain⟨c,d⟩:=t
 simp only[Tie.mk.injEq]
 by_cases h:a=c<;>by_cases k:b=d<;>simp[h,k]
theorem zlf (n a b:Int):∀ (suf p:List S59),((p++suf).length:Int)<big->
  Ev (fun k=>zbl.l0 k a b (p.length:Int) n (p++suf)) (decide (zbf a b∈suf)):=by
 intro suf
 induction suf with
 |nil=>
  intro p hb
  refine Ev.step (fun k=>by simp only[zbl.l0,zcp,if_false]<;>exact rfl) ?_
  exact Ev.val (congrArg some (decide_eq_false (by simp)).symm)
 |cons t suf ih=>
  intro p hb
  have hp:(p.length:Int)<big:=zch hb
  refine Ev.step (fun k=>by simp only[zbl.l0,zbB,nn,if_true,zff,zbZ (t:=t) hp,zd5,Option.bind_some,zkn,decide_eq_true_eq]<;>exact rfl) ?_
  by_cases c:t=zbf a b
  ·simp only[if_pos c]
   exact Ev.val (congrArg some (decide_eq_true (by simp[c])).symm)
  ·simp only[if_neg c]
   rw[zbL p t suf]
   refine Ev.eq (ih (p++[t]) (zdJ hb)) ?_
   rw[decide_eq_decide]
   have:¬zbf a b=t:=fun e=>c e.symm
   simp[this]
theorem ziM (n a b:Int) (E:List S59) (hb:(E.length:Int)<big):Ev (fun k=>zbl.f k n E a b) (decide (zbf a b∈E)):=by
 unfold zbl.f
 exact zlf n a b E [] hb
end Go.Proofs.Ytgeonpciodepgaa.P
namespace Go.Proofs.Ytgeonpciodepgaa.G
def cut (X:List Tie) (t:Tie):List Tie:=X.filter fun s=> !decide (s=t)
theorem zhK {n:Int}{X:List Tie}(t:Tie) (h:ok n X):ok n (cut X t):=zjw _ h
theorem zk5 {X:List Tie}{t:Tie}(h:t∉X):cut X t=X:=by
 unfold cut
 rw[List.filter_eq_self]
 intro s hs
 have:s≠t:=fun e=>h (e▸hs)
 simp[this]
theorem zmr {X:List Tie}(hX:X.Nodup) (t:Tie):(cut X t).length+(if t∈X then 1 else 0)=X.length:=by
 induction X with
 |nil=>simp[cut]
 |cons a r ih=>
  obtain⟨h1,h2⟩:=List.nodup_cons.1 hX
  have ih:=ih h2
  by_cases e:a=t
  ·subst e
   have:cut (a::r) a=cut r a:=by simp[cut]
   rw[this,zk5 h1]
   simp
  ·have e1:cut (a::r) t=a::cut r t:=by simp[cut,e]
   rw[e1]
   have e2:(t∈a::r)=(t∈r):=by simp[Ne.symm e]
   simp only[e2,List.length_cons]
   omega
def ties:List Int->List Tie
 |a::b::r=>zbf a b::ties (b::r)
 |_=>[]
def cuts:List Tie->List Tie->Prop
 |_,[]=>True
 |X,t::r=>t∈X/\cuts (cut X t) r
instance zkJ:(X T:List Tie)->Decidable (cuts X T)
 |_,[]=>isTrue trivial
 |X,t::r=>by
  have:=zkJ (cut X t) r
  unfold cuts
  infer_instance
theorem zd4:∀ (r:List Int),(ties r).length=r.length - 1
 |[]=>rfl
 |[_]=>rfl
 |a::b::r=>by
  have:=zd4 (b::r)
  simp only[ties,List.length_cons]at*
  omega
def zjL (n:Int) (E:List Tie) (row:List Int):Prop:=ok n E/\row.length=E.length+1/\(∀v∈row,0<=v/\v<n)/\cuts E (ties row)
instance(n:Int) (E:List Tie) (row:List Int):Decidable (zjL n E row):=by unfold zjL;infer_instance
theorem zbY {n a b:Int}(h:inr n (zbf a b)):(0<=a/\a<n)/\(0<=b/\b<n)/\a≠b:=by
 unfold zbf inr at h
 by_cases c:a<b
 ·rw[if_pos c]at h;simp only at h;omega
 ·rw[if_neg c]at h;simp only at h;omega
end Go.Proofs.Ytgeonpciodepgaa.G
namespace Go.Proofs.Ytgeonpciodepgaa.P
open Go.RowKit Go.Proofs.YtgeonpciodepgaaW.PrintWords Go.Proofs.Ytgeonpciodepgaa.G Go.Proofs.YtgeonpciodepgaaW.PrintWords.Kd
theorem zci (n a:Int) (E:List S59) (hE:(E.length:Int)<big):Ev (fun k=>za5.f k n E a) (decide (ok n E/\0<=a/\a<n)):=by
 unfold za5.f
 refine Ev.bind (zfz n E hE) ?_
 by_cases c:ok n E
 ·simp only[c,decide_true,if_true,zlq,Option.bind_some]
  rw[w64 (by have:=c.1;omega) (by have:=c.2.1;omega)]
  refine Ev.val (congrArg some (decide_eq_decide.2 ?_))
  exact⟨fun h=>⟨trivial,h.1,by omega⟩,fun h=>⟨h.2.1,by omega⟩⟩
 ·simp only[c,decide_false,Bool.false_eq_true,if_false]
  exact Ev.val (congrArg some (decide_eq_false (by simp)).symm)
theorem zet (n a b:Int) (E:List S59) (hE:(E.length:Int)<big):Ev (fun k=>zbU.f k n E a b) (decide (ok n E/\zbf a b∈E)):=by
 unfold zbU.f
 refine Ev.bind (zfz n E hE) ?_
 by_cases c:ok n E
 ·simp only[c,decide_true,if_true]
  refine Ev.bind (ziM n a b E hE) ?_
  exact Ev.val (by simp)
 ·simp only[c,decide_false,Bool.false_eq_true,if_false]
  exact Ev.val (by simp)
theorem zhR (n:Int) (E:List S59) (hE:(E.length:Int)<=1048576):zbj.f n E=some (n,E):=by
 unfold zbj.f
 have:([]:List S59).length+E.length<8796093022208:=by simp;omega
 simp only[Option.bind_some,this,if_true,List.nil_append]
end Go.Proofs.Ytgeonpciodepgaa.P
namespace Go.Proofs.Ytgeonpciodepgaa.G
open Go.RowKit Go.Proofs.YtgeonpciodepgaaW.PrintWords
def zhB (l:List Int):Prop:=∀x∈l,0<=x/\x<=255
theorem zh0 {l:List Int}(h:zhB l) (i:Int):0<=rd l i/\rd l i<=255:=by
 unfold rd
 by_cases c:i.toNat<l.length
 ·rw[List.getD_eq_getElem?_getD,List.getElem?_eq_getElem c]
  exact h _ (List.getElem_mem c)
 ·rw[List.getD_eq_getElem?_getD,List.getElem?_eq_none (by omega)]
  simp
theorem znJ {a b:Int}(h0:0<=a) (h1:a<9223372036854775808) (h2:0<=b) (h3:b<9223372036854775808):0<=Go.bits .xor .i64 a b:=by
 obtain⟨x,rfl⟩:=Int.eq_ofNat_of_zero_le h0
 obtain⟨y,rfl⟩:=Int.eq_ofNat_of_zero_le h2
 have hx:x^^^y<2^63:=Nat.xor_lt_two_pow (by omega) (by omega)
 have e1:(BitVec.ofInt 64 (x:Int)).toNat=x:=by
  rw[BitVec.ofInt_natCast,BitVec.toNat_ofNat];exact Nat.mod_eq_of_lt (by omega)
 have e2:(BitVec.ofInt 64 (y:Int)).toNat=y:=by
  rw[BitVec.ofInt_natCast,BitVec.toNat_ofNat];exact Nat.mod_eq_of_lt (by omega)
 show 0<=IntKind.i64.wrap ((BitVec.ofInt 64 (x:Int)^^^BitVec.ofInt 64 (y:Int)).toNat:Int)
 rw[BitVec.toNat_xor,e1,e2]
 simp[IntKind.wrap,IntKind.bits,IntKind.signed]
 omega
theorem zg2 {a b:Int}(h:0<=a) (hb:0<b):0<=Int.tmod a b/\Int.tmod a b<b:=by
 rw[Int.tmod_eq_emod_of_nonneg h]
 exact⟨Int.emod_nonneg _ (by omega),Int.emod_lt_of_pos _ hb⟩
theorem zj8 {a b:Int}(h:0<=a) (hb:0<=b):0<=Int.tdiv a b/\Int.tdiv a b<=a:=by
 rw[Int.tdiv_eq_ediv_of_nonneg h]
 exact⟨Int.ediv_nonneg h hb,Int.ediv_le_self _ h⟩
def zca (lo hi:Int) (M:Nat) (c p:Int) (r:Int×List Tie×Int):Prop:=lo<=r.1/\r.1<=hi/\r.2.1.length<=M/\p<=r.2.2/\r.2.2<=p+c
end Go.Proofs.Ytgeonpciodepgaa.G
namespace Go.Proofs.Ytgeonpciodepgaa.P
open Go.RowKit Go.Proofs.YtgeonpciodepgaaW.PrintWords Go.Proofs.Ytgeonpciodepgaa.G Go.Proofs.YtgeonpciodepgaaW.PrintWords.Kd
theorem zna (l:List Int) (h:zhB l):∃s,zcP.f l=some (s,0)/\zhB s/\s.length<=2000:=by
 unfold zcP.f
 by_cases c:(l.length:Int)>2000
 ·have c2:(2000:Int)<=(l.length:Int):=by omega
  exact⟨l.take 2000,by simp only[if_pos c,if_pos c2],fun x hx=>h x (List.mem_of_mem_take hx),List.length_take_le _ _⟩
 ·exact⟨l,by simp only[if_neg c],h,by omega⟩
theorem zcc (s:List Int) (hs:zhB s) (hl:s.length<=2000) (p n:Int) (h0:0<=p) (h1:p<=100000):
  ∃v,Ev (fun k=>zah.f k s p n) (v,p+1)/\0<=v/\(v<n\/n<1/\v=0):=by
 unfold zah.f
 rw[w64 (x:=p+1) (by omega) (by omega)]
 by_cases c:n<1
 ·refine⟨0,?_,Int.le_refl 0,.inr ⟨c,rfl⟩⟩
  simp only[if_pos c]
  exact Ev.step (fun k=>by simp only[zah.j0,if_true]<;>exact rfl) (Ev.val rfl)
 simp only[if_neg c]
 by_cases z:(s.length:Int)=0
 ·refine⟨0,?_,Int.le_refl 0,.inl (by omega)⟩
  have z':((s.length:Int)==0)=true:=beq_iff_eq.2 z
  exact Ev.step (fun k=>by simp only[zah.j0,z',if_true]<;>exact rfl) (Ev.val rfl)
 have z':((s.length:Int)==0)=false:=beq_eq_false_iff_ne.2 z
 have zp:(0:Int)<s.length:=by omega
 have e1:wrap64 (p+1 - 1)=p:=by rw[w64 (by omega) (by omega)];omega
 have n0:¬n=0:=by omega
 by_cases d:p<(s.length:Int)
 ·have hb:=zh0 hs p
  have t:=zg2 hb.1 (b:=n) (by omega)
  refine⟨Int.tmod (rd s p) n,?_,t.1,.inl t.2⟩
  refine Ev.step (fun k=>by simp only[zah.j0,z',Bool.false_eq_true,if_false,e1,if_pos d,if_pos h0,if_neg n0,w64 (x:=rd s p) (by omega) (by omega)]<;>exact rfl) (Ev.val rfl)
 ·have t1:=zg2 h0 zp
  have w1:wrap64 (p*7)=p*7:=w64 (by omega) (by omega)
  have w2:wrap64 (p*7+3)=p*7+3:=w64 (by omega) (by omega)
  have t2:=zg2 (a:=p*7+3) (by omega) zp
  have b1:=zh0 hs (Int.tmod p (s.length:Int))
  have b2:=zh0 hs (Int.tmod (p*7+3) (s.length:Int))
  have q:=zj8 h0 (b:=(s.length:Int)) (by omega)
  generalize hu:rd s (Int.tmod p (s.length:Int))=u at b1
  generalize hv:rd s (Int.tmod (p*7+3) (s.length:Int))=v at b2
  generalize hy:Int.tdiv p (s.length:Int)=y at q
  have hx0:0<=u*131+v*1117+p*29+y*53:=by omega
  have hx1:u*131+v*1117+p*29+y*53<100000000:=by omega
  have q2:=zj8 hx0 (b:=64) (by omega)
  have w3:wrap64 (wrap64 (wrap64 (wrap64 (wrap64 u*131)+wrap64 (wrap64 v*1117))+wrap64 (p*29))+wrap64 (wrap64 y*53))=u*131+v*1117+p*29+y*53:=by
   rw[w64 (x:=u) (by omega) (by omega),w64 (x:=v) (by omega) (by omega),w64 (x:=y) (by omega) (by omega),w64 (x:=u*131) (by omega) (by omega),w64 (x:=v*1117) (by omega) (by omega),w64 (x:=y*53) (by omega) (by omega),w64 (x:=p*29) (by omega) (by omega),w64 (x:=u*131+v*1117) (by omega) (by omega),w64 (x:=u*131+v*1117+p*29) (by omega) (by omega),w64 (by omega) (by omega)]
  have w4:wrap64 (Int.tdiv (u*131+v*1117+p*29+y*53) 64)=Int.tdiv (u*131+v*1117+p*29+y*53) 64:=w64 (by omega) (by omega)
  generalize hX:u*131+v*1117+p*29+y*53=X at*
  have x0:=znJ hx0 (by omega) q2.1 (by omega)
  have t:=zg2 x0 (b:=n) (by omega)
  refine⟨Int.tmod (Go.bits .xor .i64 X (Int.tdiv X 64)) n,?_,t.1,.inl t.2⟩
  refine Ev.step (fun k=>by simp only[zah.j0,z',Bool.false_eq_true,if_false,e1,if_neg d,if_neg z,w1,w2,if_pos t1.1,if_pos t1.2,if_pos t2.1,if_pos t2.2,if_neg n0,hu,hv,hy,w3,w4]<;>exact rfl) (Ev.val rfl)
theorem zob (n m a b:Int):∀ (suf p q:List S59) (f:Bool),((p++suf).length:Int)<=1048576->q.length<=p.length+(if f then 1 else 0)->
  ∃E,Ev (fun k=>zal.l0 k f (p.length:Int) n (p++suf) m q a b) (m,E,true)/\E.length<=(p++suf).length+1:=by
 intro suf
 induction suf with
 |nil=>
  intro p q f hb hq
  have hq8:q.length<8796093022208:=by rw[List.length_append]at hb;split at hq<;>omega
  cases f with
  |true=>exact⟨q,Ev.step (fun k=>by simp only[zal.l0,zcp,if_false,if_true]<;>exact rfl) (Ev.val rfl),by simpa using hq⟩
  |false=>exact⟨q++[⟨a,b⟩],Ev.step (fun k=>by simp only[zal.l0,zcp,if_false,Bool.false_eq_true,if_pos hq8]<;>exact rfl) (Ev.val rfl),by simp at hq⊢;omega⟩
 |cons t suf ih=>
  intro p q f hb hq
  have hb':((p++t::suf).length:Int)<big:=by unfold big;omega
  have hp:(p.length:Int)<big:=zch hb'
  have hq8:q.length+1<8796093022208:=by rw[List.length_append]at hb;split at hq<;>omega
  have hq7:q.length<8796093022208:=by omega
  have hb2:(((p++[t])++suf).length:Int)<=1048576:=by rw[←zbL];exact hb
  cases f with
  |true=>
   obtain⟨E,e1,e2⟩:=ih (p++[t]) (q++[t]) true hb2 (by simp at hq⊢;omega)
   rw[zbL p t suf]
   refine⟨E,Ev.step (fun k=>by simp only[←zbL,zal.l0,zbB,nn,if_true,zff,zbZ (t:=t) hp,if_pos hq7]<;>exact rfl) ?_,e2⟩
   rw[zbL p t suf]
   exact e1
  |false=>
   have s0:zal.l0=zal.l0:=rfl
   by_cases c:tlt ⟨a,b⟩ ⟨t.f0,t.f1⟩
   ·obtain⟨E,e1,e2⟩:=ih (p++[t]) (q++[⟨a,b⟩,t]) true hb2 (by simp at hq⊢;omega)
    have hq9:(q++[(⟨a,b⟩:S59)]).length<8796093022208:=by simp;omega
    rw[zbL p t suf]
    refine⟨E,Ev.step (fun k=>by simp only[←zbL,zal.l0,zbB,nn,if_true,Bool.false_eq_true,if_false,zff,zbZ (t:=t) hp,zie,Option.bind_some,decide_eq_true c,if_pos hq7,if_pos hq9]<;>exact rfl) ?_,e2⟩
    rw[zbL p t suf]
    exact e1
   ·obtain⟨E,e1,e2⟩:=ih (p++[t]) (q++[t]) false hb2 (by simp at hq⊢;omega)
    rw[zbL p t suf]
    refine⟨E,Ev.step (fun k=>by simp only[←zbL,zal.l0,zbB,nn,if_true,Bool.false_eq_true,if_false,zff,zbZ (t:=t) hp,zie,Option.bind_some,decide_eq_false c,if_pos hq7]<;>exact rfl) ?_,e2⟩
    rw[zbL p t suf]
    exact e1
theorem zf_ (n a b:Int) (E:List S59) (hE:(E.length:Int)<=1048576):
  ∃m F t,Ev (fun k=>zal.f k n E a b) (m,F,t)/\F.length<=E.length+1/\(m=n\/m=0):=by
 have hb:(E.length:Int)<big:=by unfold big;omega
 have no:Ev (fun k=>zal.j0 k a b true n E) (0,[],false):=Ev.step (fun k=>by simp only[zal.j0,if_true]<;>exact rfl) (Ev.val rfl)
 unfold zal.f
 by_cases c:ok n E/\0<=a/\a<n
 ·by_cases d:ok n E/\0<=b/\b<n
  ·have h1:∀v:Bool,∃m F t,Ev (fun k=>zal.j0 k a b v n E) (m,F,t)/\F.length<=E.length+1/\(m=n\/m=0):=by
    intro v
    cases v with
    |true=>exact⟨0,[],false,no,by simp,.inr rfl⟩
    |false=>
     obtain⟨F,e1,e2⟩:=zob n n (zbf a b).f0 (zbf a b).f1 E [] [] false hE (by simp)
     refine⟨n,F,true,?_,e2,.inl rfl⟩
     exact Ev.step (fun k=>by simp only[zal.j0,Bool.false_eq_true,if_false,zd5,Option.bind_some]<;>exact rfl) e1
   by_cases e:a=b
   ·obtain⟨m,F,t,e1,e2⟩:=h1 true
    refine⟨m,F,t,Ev.bind (zci n a E hb) ?_,e2⟩
    simp only[c,and_self,decide_true,if_true]
    refine Ev.bind (zci n b E hb) ?_
    simp only[d,and_self,decide_true,if_true,if_pos e]
    exact e1
   ·obtain⟨m,F,t,e1,e2⟩:=h1 (decide (ok n E/\zbf a b∈E))
    refine⟨m,F,t,Ev.bind (zci n a E hb) ?_,e2⟩
    simp only[c,and_self,decide_true,if_true]
    refine Ev.bind (zci n b E hb) ?_
    simp only[d,and_self,decide_true,if_true,if_neg e]
    exact Ev.bind (zet n a b E hb) e1
  ·refine⟨0,[],false,Ev.bind (zci n a E hb) ?_,by simp,.inr rfl⟩
   simp only[c,and_self,decide_true,if_true]
   refine Ev.bind (zci n b E hb) ?_
   simp only[d,decide_false,Bool.false_eq_true,if_false]
   exact no
 ·refine⟨0,[],false,Ev.bind (zci n a E hb) ?_,by simp,.inr rfl⟩
  simp only[c,decide_false,Bool.false_eq_true,if_false]
  exact no
theorem zm9 (s:List Int) (hs:zhB s) (hl:s.length<=2000):∀ (d:Nat) (p n:Int) (E:List S59),d<=20->0<=p->p+2*d<=80000->0<=n->n<=8->E.length+d<=1000->
  ∃r,Ev (fun k=>zak.l2 k (d:Int) s p n E) r/\zca 0 8 (E.length+d) (2*d) p r:=by
 intro d
 induction d with
 |zero=>
  intro p n E hd h0 h1 n0 n1 hE
  refine⟨(n,E,p),?_,by simp[zca];omega⟩
  have c:¬ (0:Int)>0:=by omega
  refine Ev.step (fun k=>by simp only[zak.l2,Int.natCast_zero,if_neg c]<;>exact rfl) ?_
  exact Ev.step (fun k=>by simp only[zak.j4,Bool.false_eq_true,if_false]<;>exact rfl) (Ev.val rfl)
 |succ d ih=>
  intro p n E hd h0 h1 n0 n1 hE
  have c:((d+1:Nat):Int)>0:=by omega
  have w:wrap64 (((d+1:Nat):Int) - 1)=(d:Int):=by rw[w64 (by omega) (by omega)];omega
  by_cases m:n>1
  ·obtain⟨v,v1,_⟩:=zcc s hs hl p n h0 (by omega)
   obtain⟨u,u1,_⟩:=zcc s hs hl (p+1) n (by omega) (by omega)
   obtain⟨m',F,t,a1,a2,a3⟩:=zf_ n v u E (by omega)
   have step:∀r,Ev (fun k=>if t=true then zak.l2 k (d:Int) s (p+1+1) m' F else zak.l2 k (d:Int) s (p+1+1) n E) r->Ev (fun k=>zak.l2 k ((d+1:Nat):Int) s p n E) r:=by
    intro r hr
    refine Ev.step (fun k=>by simp only[zak.l2,if_pos c,decide_eq_true m]<;>exact rfl) ?_
    refine Ev.step (fun k=>by simp only[zak.j4,if_true,w]<;>exact rfl) ?_
    exact Ev.bind v1 (Ev.bind u1 (Ev.bind a1 hr))
   cases t with
   |true=>
    obtain⟨r,r1,r2⟩:=ih (p+1+1) m' F (by omega) (by omega) (by omega) (by omega) (by omega) (by omega)
    exact⟨r,step r (by simp only[if_true];exact r1),by unfold zca at*;omega⟩
   |false=>
    obtain⟨r,r1,r2⟩:=ih (p+1+1) n E (by omega) (by omega) (by omega) (by omega) (by omega) (by omega)
    exact⟨r,step r (by simp only[Bool.false_eq_true,if_false];exact r1),by unfold zca at*;omega⟩
  ·refine⟨(n,E,p),?_,by simp[zca];omega⟩
   refine Ev.step (fun k=>by simp only[zak.l2,if_pos c,decide_eq_false m]<;>exact rfl) ?_
   exact Ev.step (fun k=>by simp only[zak.j4,Bool.false_eq_true,if_false]<;>exact rfl) (Ev.val rfl)
theorem zfk (s:List Int) (hs:zhB s) (hl:s.length<=2000) (p n:Int) (E:List S59) (h0:0<=p) (h1:p<=75000) (n0:0<=n) (n1:n<=8) (hE:E.length<=20):
  ∃r,Ev (fun k=>zak.j2 k s p n E) r/\zca 0 8 40 30 p r:=by
 obtain⟨v,v1,v2,v3⟩:=zcc s hs hl p 13 h0 (by omega)
 obtain⟨r,r1,r2⟩:=zm9 s hs hl v.toNat (p+1) n E (by omega) (by omega) (by omega) n0 n1 (by omega)
 rw[Int.toNat_of_nonneg v2]at r1
 refine⟨r,Ev.step (fun k=>by simp only[zak.j2]<;>exact rfl) (Ev.bind v1 r1),by unfold zca at*;omega⟩
theorem zmo (s:List Int) (hs:zhB s) (hl:s.length<=2000):∀ (d:Nat) (i p n:Int) (E:List S59),i+d=9->0<=i->0<=p->p+d<=70000->0<=n->n<=8->(E.length:Int)<=i->
  ∃r,Ev (fun k=>zak.l0 k i s p n E) r/\zca 0 8 40 (30+d) p r:=by
 intro d
 induction d with
 |zero=>
  intro i p n E hi i0 h0 h1 n0 n1 hE
  obtain⟨r,r1,r2⟩:=zfk s hs hl p n E h0 (by omega) n0 n1 (by omega)
  have c:¬i<n:=by omega
  exact⟨r,Ev.step (fun k=>by simp only[zak.l0,if_neg c]<;>exact rfl) r1,by unfold zca at*;omega⟩
 |succ d ih=>
  intro i p n E hi i0 h0 h1 n0 n1 hE
  by_cases c:i<n
  ·obtain⟨v,v1,_⟩:=zcc s hs hl p i h0 (by omega)
   obtain⟨m',F,t,a1,a2,a3⟩:=zf_ n i v E (by omega)
   obtain⟨r,r1,r2⟩:=ih (i+1) (p+1) m' F (by omega) (by omega) (by omega) (by omega) (by omega) (by omega) (by omega)
   refine⟨r,Ev.step (fun k=>by simp only[zak.l0,if_pos c,w64 (x:=i+1) (by omega) (by omega)]<;>exact rfl) (Ev.bind v1 (Ev.bind a1 r1)),by unfold zca at*;omega⟩
  ·obtain⟨r,r1,r2⟩:=zfk s hs hl p n E h0 (by omega) n0 n1 (by omega)
   exact⟨r,Ev.step (fun k=>by simp only[zak.l0,if_neg c]<;>exact rfl) r1,by unfold zca at*;omega⟩
theorem zmH (s:List Int) (hs:zhB s) (hl:s.length<=2000):∀ (d:Nat) (i p n:Int) (E:List S59),i+d=9->0<=i->0<=p->p<=70000->0<=n->n<=8->(E.length:Int)<=i->
  ∃r,Ev (fun k=>zak.l1 k i s p n E) r/\zca 0 8 40 (30+d) p r:=by
 intro d
 induction d with
 |zero=>
  intro i p n E hi i0 h0 h1 n0 n1 hE
  obtain⟨r,r1,r2⟩:=zfk s hs hl p n E h0 (by omega) n0 n1 (by omega)
  have c:¬i<n:=by omega
  exact⟨r,Ev.step (fun k=>by simp only[zak.l1,if_neg c]<;>exact rfl) r1,by unfold zca at*;omega⟩
 |succ d ih=>
  intro i p n E hi i0 h0 h1 n0 n1 hE
  by_cases c:i<n
  ·by_cases c2:n>2
   ·have c3:¬n=0:=by omega
    obtain⟨m',F,t,a1,a2,a3⟩:=zf_ n i (Int.tmod (i+1) n) E (by omega)
    obtain⟨r,r1,r2⟩:=ih (i+1) p m' F (by omega) (by omega) (by omega) (by omega) (by omega) (by omega) (by omega)
    refine⟨r,Ev.step (fun k=>by simp only[zak.l1,if_pos c,if_pos c2,if_neg c3,w64 (x:=i+1) (by omega) (by omega)]<;>exact rfl) (Ev.bind a1 r1),by unfold zca at*;omega⟩
   ·obtain⟨r,r1,r2⟩:=zfk s hs hl p n E h0 (by omega) n0 n1 (by omega)
    exact⟨r,Ev.step (fun k=>by simp only[zak.l1,if_pos c,if_neg c2]<;>exact rfl) r1,by unfold zca at*;omega⟩
  ·obtain⟨r,r1,r2⟩:=zfk s hs hl p n E h0 (by omega) n0 n1 (by omega)
   exact⟨r,Ev.step (fun k=>by simp only[zak.l1,if_neg c]<;>exact rfl) r1,by unfold zca at*;omega⟩
theorem zmA (s:List Int) (hs:zhB s) (hl:s.length<=2000) (p:Int) (h0:0<=p) (h1:p<=60000):
  ∃r,Ev (fun k=>zak.f k s p) r/\zca 0 8 40 50 p r:=by
 obtain⟨v,v1,v2,v3⟩:=zcc s hs hl p 8 h0 (by omega)
 obtain⟨u,u1,u2,u3⟩:=zcc s hs hl (p+1) 6 (by omega) (by omega)
 have w:wrap64 (1+v)=1+v:=w64 (by omega) (by omega)
 unfold zak.f
 by_cases c:u=0
 ·obtain⟨r,r1,r2⟩:=zmo s hs hl 8 1 (p+1+1) (1+v) [] (by omega) (by omega) (by omega) (by omega) (by omega) (by omega) (by simp)
  refine⟨r,Ev.bind v1 (Ev.bind u1 ?_),by unfold zca at*;omega⟩
  simp only[w,if_pos c]
  exact r1
 ·by_cases d:u=1
  ·obtain⟨r,r1,r2⟩:=zmH s hs hl 9 0 (p+1+1) (1+v) [] (by omega) (by omega) (by omega) (by omega) (by omega) (by omega) (by simp)
   refine⟨r,Ev.bind v1 (Ev.bind u1 ?_),by unfold zca at*;omega⟩
   simp only[w,if_neg c,if_pos d]
   exact r1
  ·obtain⟨r,r1,r2⟩:=zfk s hs hl (p+1+1) (1+v) [] (by omega) (by omega) (by omega) (by omega) (by simp)
   refine⟨r,Ev.bind v1 (Ev.bind u1 ?_),by unfold zca at*;omega⟩
   simp only[w,if_neg c,if_neg d]
   exact r1
theorem zkG (s:List Int) (hs:zhB s) (hl:s.length<=2000) (p n:Int) (E:List S59) (h0:0<=p) (h1:p<=70000) (n0:0<=n) (n1:n<=8) (hE:E.length<=40):
  ∃r,Ev (fun k=>zaY.f k s p n E) r/\zca (-1) 9 50 5 p r:=by
 obtain⟨v,v1,v2,v3⟩:=zcc s hs hl p 6 h0 (by omega)
 have q8:E.length<8796093022208:=by omega
 have q9:([(⟨-1,0⟩:S59)]:List S59).length+E.length<8796093022208:=by simp;omega
 unfold zaY.f
 simp only[zhR n E (by omega),Option.bind_some,if_pos q8,if_pos q9]
 by_cases c0:v=0
 ·obtain⟨u,u1,u2,u3⟩:=zcc s hs hl (p+1) 5 (by omega) (by omega)
  have g:u<((([(-1),0,1,8,9]:List Int)).length:Int):=by show u<5;omega
  have b: -1<=rd [(-1),0,1,8,9] u/\rd [(-1),0,1,8,9] u<=9:=by
   have:u=0\/u=1\/u=2\/u=3\/u=4:=by omega
   rcases this with rfl|rfl|rfl|rfl|rfl<;>decide
  refine⟨(rd [(-1),0,1,8,9] u,E,p+1+1),Ev.bind v1 ?_,by simp[zca];omega⟩
  simp only[if_pos c0]
  refine Ev.bind u1 ?_
  simp only[if_pos u2,if_pos g]
  exact Ev.val rfl
 by_cases c1:v=1
 ·obtain⟨u,u1,u2,u3⟩:=zcc s hs hl (p+1) 3 (by omega) (by omega)
  obtain⟨t,t1,t2,t3⟩:=zcc s hs hl (p+1+1) 3 (by omega) (by omega)
  refine⟨(n,E++[⟨u,t⟩],p+1+1+1),Ev.bind v1 ?_,by simp[zca];omega⟩
  simp only[if_neg c0,if_pos c1]
  exact Ev.bind u1 (Ev.bind t1 (Ev.val rfl))
 by_cases c2:v=2
 ·refine⟨(n,E++[⟨wrap64 (n - 1),n⟩],p+1),Ev.bind v1 ?_,by simp[zca];omega⟩
  simp only[if_neg c0,if_neg c1,if_pos c2]
  exact Ev.val rfl
 by_cases c3:v=3
 ·by_cases d:(E.length:Int)>0
  ·obtain⟨u,u1,u2,u3⟩:=zcc s hs hl (p+1) (E.length:Int) (by omega) (by omega)
   have g:u<(E.length:Int):=by omega
   refine⟨(n,E.set u.toNat ⟨(zac E u).f1,(zac E u).f0⟩,p+1+1),Ev.bind v1 ?_,by simp[zca];omega⟩
   simp only[if_neg c0,if_neg c1,if_neg c2,if_pos c3,if_pos d]
   refine Ev.bind u1 ?_
   simp only[if_pos u2,if_pos g]
   exact Ev.val rfl
  ·refine⟨(n,E,p+1),Ev.bind v1 ?_,by simp[zca];omega⟩
   simp only[if_neg c0,if_neg c1,if_neg c2,if_pos c3,if_neg d]
   exact Ev.val rfl
 by_cases c4:v=4
 ·by_cases d:(E.length:Int)>1
  ·have d0:0<(E.length:Int):=by omega
   refine⟨(n,E++[⟨(zac E 0).f0,(zac E 0).f1⟩],p+1),Ev.bind v1 ?_,by simp[zca];omega⟩
   simp only[if_neg c0,if_neg c1,if_neg c2,if_neg c3,if_pos c4,if_pos d,if_pos d0]
   exact Ev.val rfl
  ·refine⟨(n,E,p+1),Ev.bind v1 ?_,by simp[zca];omega⟩
   simp only[if_neg c0,if_neg c1,if_neg c2,if_neg c3,if_pos c4,if_neg d]
   exact Ev.val rfl
 ·refine⟨(n,[⟨-1,0⟩]++E,p+1),Ev.bind v1 ?_,by simp[zca];omega⟩
  simp only[if_neg c0,if_neg c1,if_neg c2,if_neg c3,if_neg c4]
  exact Ev.val rfl
theorem znR (s:List Int) (hs:zhB s) (hl:s.length<=2000) (p:Int) (h0:0<=p) (h1:p<=60000):
  ∃r,Ev (fun k=>zcS.f k s p) r/\zca (-1) 9 50 60 p r:=by
 obtain⟨⟨n,E,q⟩,r1,r2⟩:=zmA s hs hl p h0 h1
 simp only[zca]at r2
 obtain⟨v,v1,v2,v3⟩:=zcc s hs hl q 12 (by omega) (by omega)
 unfold zcS.f
 by_cases c:v=0
 ·obtain⟨r,s1,s2⟩:=zkG s hs hl (q+1) n E (by omega) (by omega) (by omega) (by omega) (by omega)
  refine⟨r,Ev.bind r1 (Ev.bind v1 ?_),by unfold zca at*;omega⟩
  simp only[if_pos c]
  exact Ev.bind s1 (Ev.val rfl)
 ·refine⟨(n,E,q+1),Ev.bind r1 (Ev.bind v1 ?_),by simp[zca];omega⟩
  simp only[if_neg c]
  exact Ev.val rfl
end Go.Proofs.Ytgeonpciodepgaa.P
namespace Go.Proofs.Ytgeonpciodepgaa.G
open Go.RowKit Go.Proofs.YtgeonpciodepgaaW.PrintWords
inductive zd8 (E:List Tie):Int->Int->Prop
 |refl (a:Int):zd8 E a a
 |step {a b c:Int}:zd8 E a b->zbf b c∈E->zd8 E a c
theorem zd8.one {E:List Tie}{a b:Int}(h:zbf a b∈E):zd8 E a b:=.step (.refl a) h
theorem zd8.trans {E:List Tie}{a b c:Int}(h:zd8 E a b) (k:zd8 E b c):zd8 E a c:=by
 induction k with
 |refl=>exact h
 |step _ t ih=>exact .step ih t
theorem zd8.symm {E:List Tie}{a b:Int}(h:zd8 E a b):zd8 E b a:=by
 induction h with
 |refl=>exact .refl _
 |step _ t ih=>exact(zd8.one (zdM _ _▸t)).trans ih
theorem zd8.mono {E F:List Tie}{a b:Int}(h:zd8 E a b) (hs:∀t∈E,t∈F):zd8 F a b:=by
 induction h with
 |refl=>exact .refl _
 |step _ t ih=>exact .step ih (hs _ t)
theorem zd8.closed {E:List Tie}{a b:Int}(h:zd8 E a b) (p:Int->Prop) (ha:p a) (hc:∀x y,p x->zbf x y∈E->p y):p b:=by
 induction h with
 |refl=>exact ha
 |step _ t ih=>exact hc _ _ ih t
theorem zd8.range {n:Int}{E:List Tie}(hE:∀t∈E,inr n t) {a b:Int}(h:zd8 E a b) (ha:0<=a/\a<n):0<=b/\b<n:=
 h.closed (fun x=>0<=x/\x<n) ha (fun _ _ _ ht=>(zbY (hE _ ht)).2.1)
def EvP (g:Nat->Option Bool) (P:Prop):Prop:=∃b:Bool,Ev g b/\(b=true↔P)
theorem EvP.of {g:Nat->Option Bool}{P:Prop} [Decidable P] (h:Ev g (decide P)):EvP g P:=⟨_,h,by simp⟩
theorem EvP.step {g f:Nat->Option Bool}{P:Prop}(h:∀k,g (k+1)=f k) (k:EvP f P):EvP g P:=by
 obtain⟨b,h1,h2⟩:=k
 exact⟨b,Ev.step h h1,h2⟩
theorem EvP.bind {α:Type}{g:Nat->Option α}{f:Nat->α->Option Bool}{a:α}{P:Prop}(h:Ev g a) (k:EvP (fun n=>f n a) P):EvP (fun n=>(g n).bind (f n)) P:=by
 obtain⟨b,h1,h2⟩:=k
 exact⟨b,Ev.bind h h1,h2⟩
theorem EvP.test {g:Nat->Option Bool}{f:Nat->Bool->Option Bool}{P Q:Prop}(h:EvP g Q) (kt:Q->EvP (fun n=>f n true) P) (kf:¬Q->EvP (fun n=>f n false) P):EvP (fun n=>(g n).bind (f n)) P:=by
 obtain⟨b,h1,h2⟩:=h
 cases b with
 |true=>exact EvP.bind h1 (kt (h2.1 rfl))
 |false=>exact EvP.bind h1 (kf (fun q=>by have:=h2.2 q;simp at this))
theorem EvP.same {g f:Nat->Option Bool}{P:Prop}(h:EvP g P) (k:EvP f P):∃b,Ev g b/\Ev f b:=by
 obtain⟨b,h1,h2⟩:=h
 obtain⟨c,k1,k2⟩:=k
 have:b=c:=by
  rw[Bool.eq_iff_iff];exact h2.trans k2.symm
 exact⟨b,h1,this▸k1⟩
theorem zdg {α:Type} [DecidableEq α]:∀ {l m:List α},l.Nodup->(∀x∈l,x∈m)->l.length<=m.length
 |[],m,_,_=>Nat.zero_le _
 |a::l,m,h,hs=>by
  obtain⟨h1,h2⟩:=List.nodup_cons.1 h
  have ha:a∈m:=hs a (List.mem_cons_self)
  have:l.length<=(m.erase a).length:=zdg h2 (fun x hx=>(List.mem_erase_of_ne (fun(e:x=a)=>h1 (by rw[←e];exact hx))).2 (hs x (List.mem_cons_of_mem _ hx)))
  rw[List.length_erase_of_mem ha]at this
  have:0<m.length:=List.length_pos_of_mem ha
  simp only[List.length_cons]
  omega
theorem zfx {α:Type} [DecidableEq α] {l m:List α}(hl:l.Nodup) (hm:m.Nodup) (h:∀x,x∈l↔x∈m):l.length=m.length:=
 Nat.le_antisymm (zdg hl (fun x hx=>(h x).1 hx)) (zdg hm (fun x hx=>(h x).2 hx))
theorem zhf {α β:Type}(f:α->β):∀ {l:List α},l.Nodup->(∀x∈l,∀y∈l,f x=f y->x=y)->(l.map f).Nodup
 |[],_,_=>by simp
 |a::l,h,hf=>by
  obtain⟨h1,h2⟩:=List.nodup_cons.1 h
  rw[List.map_cons,List.nodup_cons]
  refine⟨fun hm=>?_,zhf f h2 (fun x hx y hy=>hf x (List.mem_cons_of_mem _ hx) y (List.mem_cons_of_mem _ hy))⟩
  obtain⟨y,hy,e⟩:=List.mem_map.1 hm
  have:=hf a (List.mem_cons_self) y (List.mem_cons_of_mem _ hy) e.symm
  exact h1 (this▸hy)
def zdm (n:Int):List Int:=(List.range n.toNat).map fun(i:Nat)=>(i:Int)
theorem zfY {n v:Int}:v∈zdm n↔0<=v/\v<n:=by
 unfold zdm
 rw[List.mem_map]
 constructor
 ·rintro⟨i,hi,rfl⟩
  have:=List.mem_range.1 hi
  omega
 ·rintro⟨h0,h1⟩
  exact⟨v.toNat,List.mem_range.2 (by omega),by omega⟩
theorem zh6 (n:Int):(zdm n).Nodup:=zhf _ List.nodup_range (fun x _ y _ e=>Int.ofNat.inj e)
theorem zdO (n:Int):(zdm n).length=n.toNat:=by simp[zdm]
theorem zgA {n:Int}(h:0<=n):zdm (n+1)=zdm n++[n]:=by
 unfold zdm
 have:(n+1).toNat=n.toNat+1:=by omega
 rw[this,List.range_succ,List.map_append]
 simp
 omega
def next (n:Int) (E:List Tie) (v:Int):List Int:=(zdm n).filter fun i=>decide (zbf v i∈E)
theorem zdu {n v i:Int}{E:List Tie}(hE:∀t∈E,inr n t):i∈next n E v↔zbf v i∈E:=by
 unfold next
 rw[List.mem_filter,zfY]
 simp only[decide_eq_true_eq]
 exact⟨fun h=>h.2,fun h=>⟨(zbY (hE _ h)).2.1,h⟩⟩
end Go.Proofs.Ytgeonpciodepgaa.G
namespace Go.Proofs.Ytgeonpciodepgaa.P
open Go.RowKit Go.Proofs.YtgeonpciodepgaaW.PrintWords Go.Proofs.Ytgeonpciodepgaa.G Go.Proofs.YtgeonpciodepgaaW.PrintWords.Kd
theorem zmJ (n v:Int) (E:List S59) (hE:(E.length:Int)<big) (h8:n<=8):∀ (d:Nat) (i:Int),0<=i->i+d=n->
  Ev (fun k=>zbd.l0 k v ((zdm i).filter fun j=>decide (zbf v j∈E)) i n E) (next n E v):=by
 intro d
 induction d with
 |zero=>
  intro i h0 hi
  have hi':i=n:=by omega
  subst hi'
  have c:¬i<i:=by omega
  refine Ev.step (fun k=>by simp only[zbd.l0,c,if_false]<;>exact rfl) ?_
  exact Ev.val rfl
 |succ d ih=>
  intro i h0 hi
  have c:i<n:=by omega
  have w:wrap64 (i+1)=i+1:=w64 (by omega) (by omega)
  have hl:((zdm i).filter fun j=>decide (zbf v j∈E)).length<17592186044416:=by
   have:=List.length_filter_le (fun j=>decide (zbf v j∈E)) (zdm i)
   rw[zdO]at this
   omega
  refine Ev.step (fun k=>by simp only[zbd.l0,c,if_true,w,hl]<;>exact rfl) ?_
  refine Ev.bind (ziM n v i E hE) ?_
  have e:=ih (i+1) (by omega) (by omega)
  rw[zgA h0,List.filter_append]at e
  by_cases d:zbf v i∈E
  ·simp only[d,decide_true,if_true]
   simpa [d] using e
  ·simp only[d,decide_false,Bool.false_eq_true,if_false]
   simpa [d] using e
theorem zf1 (n v:Int) (E:List S59) (hE:ok n E):Ev (fun k=>zbd.f k n E v) (next n E v):=by
 unfold zbd.f
 have hb:(E.length:Int)<big:=by have:=zc2 hE;unfold big;omega
 exact zmJ n v E hb hE.2.1 n.toNat 0 (by omega) (by have:=hE.1;omega)
def cnt (f:List Bool):Nat:=(f.filter fun b=> !b).length
theorem ziP {f:List Bool}{u v:Int}(hu:0<=u) (hu2:u<(f.length:Int)) (hv:0<=v):zcI false (f.set u.toNat true) v=if u=v then true else zcI false f v:=by
 unfold zcI
 rw[List.getD_eq_getElem?_getD,List.getD_eq_getElem?_getD,List.getElem?_set]
 by_cases c:u=v
 ·subst c
  rw[if_pos rfl,if_pos (by omega),if_pos rfl];rfl
 ·rw[if_neg (by omega),if_neg c]
theorem zh1:∀ {f:List Bool}{i:Nat},f.getD i false=false->i<f.length->cnt (f.set i true)+1=cnt f
 |[],i,_,h=>absurd h (Nat.not_lt_zero _)
 |b::f,0,h,_=>by
  have:b=false:=h
  subst this
  simp[cnt]
 |b::f,i+1,h,hl=>by
  have hl':i<f.length:=by simpa using hl
  have ih:=zh1 (f:=f) (i:=i) (by simpa using h) hl'
  unfold cnt at*
  rw[List.set_cons_succ]
  cases b<;>simp at ih⊢<;>omega
structure Inv (n:Int) (E:List Tie) (a:Int) (f:List Bool) (q:List Int) (at_:Int->Prop):Prop where
 len:(f.length:Int)=n
 start:zcI false f a=true
 conn:∀v,0<=v->v<n->zcI false f v=true->zd8 E a v
 queue:∀x∈q,0<=x/\x<n/\zcI false f x=true
 done:∀v,0<=v->v<n->zcI false f v=true->v∈q\/at_ v\/∀w,zbf v w∈E->zcI false f w=true
theorem zkL (n:Int) (E:List S59) (a:Int) (c:Int) (hE:∀t∈E,inr n t) (hc:0<=c/\c<n) (hca:zd8 E a c):∀ (suf p:List Int) (f:List Bool) (q:List Int),
  ((p++suf).length:Int)<big->(∀x∈suf,zbf c x∈E)->q.length+cnt f<=1000->Inv n E a f q (fun v=>v=c)->
  ∃f' q',Inv n E a f' q' (fun v=>v=c)/\(∀x∈suf,zcI false f' x=true)/\(∀x,0<=x->zcI false f x=true->zcI false f' x=true)/\q'.length+cnt f'=q.length+cnt f/\cnt f'<=cnt f/\
   ∀r,Ev (fun k=>zaQ.l0 k f' q' n E) r->Ev (fun k=>zaQ.l1 k f q (p++suf) (p.length:Int) n E) r:=by
 intro suf
 induction suf with
 |nil=>
  intro p f q hb hs hm hI
  refine⟨f,q,hI,by simp,fun x _ h=>h,rfl,Nat.le_refl _,fun r hr=>?_⟩
  refine Ev.step (fun k=>by simp only[zaQ.l1,zcp,if_false]<;>exact rfl) hr
 |cons t suf ih=>
  intro p f q hb hs hm hI
  have hp:(p.length:Int)<big:=zch hb
  have ht:zbf c t∈E:=hs t (List.mem_cons_self)
  have htr:=(zbY (hE _ ht)).2.1
  have b1:0<=t:=htr.1
  have b2:t<(f.length:Int):=by rw[hI.len];exact htr.2
  by_cases d:zcI false f t=true
  ·obtain⟨f',q',h1,h2,h3,h4,h5,h6⟩:=ih (p++[t]) f q (zdJ hb) (fun x hx=>hs x (List.mem_cons_of_mem _ hx)) hm hI
   refine⟨f',q',h1,fun x hx=>?_,h3,h4,h5,fun r hr=>?_⟩
   ·rcases List.mem_cons.1 hx with rfl|hx
    ·exact h3 _ b1 d
    ·exact h2 x hx
   ·refine Ev.step (fun k=>by simp only[zaQ.l1,zbB,nn,if_true,zcd,zbZ (t:=t) hp,b1,b2,d]<;>exact rfl) ?_
    rw[zbL p t suf]
    exact h6 r hr
  ·have d':zcI false f t=false:=by simpa using d
   have hcnt:=zh1 (f:=f) (i:=t.toNat) d' (by omega)
   have hq:q.length<17592186044416:=by omega
   have hset:∀v,0<=v->zcI false (f.set t.toNat true) v=if t=v then true else zcI false f v:=fun v hv=>ziP b1 b2 hv
   have hI':Inv n E a (f.set t.toNat true) (q++[t]) (fun v=>v=c):=by
    refine⟨by rw[List.length_set];exact hI.len,?_,?_,?_,?_⟩
    ·by_cases ha:0<=a
     ·rw[hset a ha,hI.start];simp
     ·have h0:=hI.start
      unfold zcI at h0⊢
      rw[List.getD_eq_getElem?_getD]at h0⊢
      rw[List.getElem?_set]
      split
      ·split<;>simp_all
      ·exact h0
    ·intro v h0 h1 hv
     rw[hset v h0]at hv
     by_cases e:t=v
     ·subst e;exact hca.step ht
     ·rw[if_neg e]at hv;exact hI.conn v h0 h1 hv
    ·intro x hx
     rcases List.mem_append.1 hx with hx|hx
     ·obtain⟨x0,x1,x2⟩:=hI.queue x hx
      exact⟨x0,x1,by rw[hset x x0,x2];simp⟩
     ·rw[List.mem_singleton]at hx
      subst hx
      exact⟨b1,htr.2,by rw[hset _ b1];simp⟩
    ·intro v h0 h1 hv
     rw[hset v h0]at hv
     by_cases e:t=v
     ·subst e;exact .inl (by simp)
     ·rw[if_neg e]at hv
      rcases hI.done v h0 h1 hv with h|h|h
      ·exact .inl (by simp[h])
      ·exact .inr (.inl h)
      ·refine .inr (.inr (fun w hw=>?_))
       rw[hset w (zbY (hE _ hw)).2.1.1,h w hw];simp
   obtain⟨f',q',h1,h2,h3,h4,h5,h6⟩:=ih (p++[t]) (f.set t.toNat true) (q++[t]) (zdJ hb) (fun x hx=>hs x (List.mem_cons_of_mem _ hx)) (by simp;omega) hI'
   refine⟨f',q',h1,fun x hx=>?_,fun x h0 hx=>h3 x h0 (by rw[hset x h0,hx];simp),by rw[h4];simp;omega,by omega,fun r hr=>?_⟩
   ·rcases List.mem_cons.1 hx with rfl|hx
    ·exact h3 _ b1 (by rw[hset _ b1];simp)
    ·exact h2 x hx
   ·refine Ev.step (fun k=>by simp only[zaQ.l1,zbB,nn,if_true,zcd,zbZ (t:=t) hp,b1,b2,d',Bool.false_eq_true,if_false,hq]<;>exact rfl) ?_
    rw[zbL p t suf]
    exact h6 r hr
theorem zhi (n:Int) (E:List S59) (a:Int) (hE:ok n E) (f:List Bool) (hI:Inv n E a f [] (fun _=>False)):
  ∃f',Ev (fun k=>zaQ.l0 k f [] n E) f'/\(f'.length:Int)=n/\∀v,0<=v->v<n->(zcI false f' v=true↔zd8 E a v):=by
 refine⟨f,Ev.step (fun k=>by simp[zaQ.l0]<;>exact rfl) (Ev.val rfl),hI.len,fun v h0 h1=>⟨hI.conn v h0 h1,fun hc=>?_⟩⟩
 have key:0<=v/\v<n/\zcI false f v=true:=by
  refine hc.closed (fun x=>0<=x/\x<n/\zcI false f x=true) ?_ ?_
  ·have:=hc.symm.range hE.2.2.1 ⟨h0,h1⟩
   exact⟨this.1,this.2,hI.start⟩
  ·intro x y hx ht
   have:=(zbY (hE.2.2.1 _ ht)).2.1
   rcases hI.done x hx.1 hx.2.1 hx.2.2 with h|h|h
   ·simp at h
   ·exact h.elim
   ·exact⟨this.1,this.2,h y ht⟩
 exact key.2.2
theorem zkB (n:Int) (E:List S59) (a:Int) (hE:ok n E):∀ (m:Nat) (f:List Bool) (q:List Int),2*cnt f+q.length<=m->m<=1000->Inv n E a f q (fun _=>False)->
  ∃f',Ev (fun k=>zaQ.l0 k f q n E) f'/\(f'.length:Int)=n/\∀v,0<=v->v<n->(zcI false f' v=true↔zd8 E a v):=by
 intro m
 induction m with
 |zero=>
  intro f q h1 h2 hI
  have:q=[]:=List.length_eq_zero_iff.1 (by omega)
  subst this
  exact zhi n E a hE f hI
 |succ m ih=>
  intro f q h1 h2 hI
  cases q with
  |nil=>exact zhi n E a hE f hI
  |cons c q=>
   have hc:=hI.queue c (List.mem_cons_self)
   have hcc:=hI.conn c hc.1 hc.2.1 hc.2.2
   have hI1:Inv n E a f q (fun v=>v=c):=by
    refine⟨hI.len,hI.start,hI.conn,fun x hx=>hI.queue x (List.mem_cons_of_mem _ hx),fun v h0 h1 hv=>?_⟩
    rcases hI.done v h0 h1 hv with h|h|h
    ·rcases List.mem_cons.1 h with rfl|h
     ·exact .inr (.inl rfl)
     ·exact .inl h
    ·exact h.elim
    ·exact .inr (.inr h)
   have hlen:(((next n E c)).length:Int)<big:=by
    have:=List.length_filter_le (fun i=>decide (zbf c i∈E)) (zdm n)
    have e:=zdO n
    have h8:=hE.2.1
    unfold big;unfold next;omega
   simp only[List.length_cons]at h1
   obtain⟨f',q',i1,i2,i3,i4,i5,i6⟩:=zkL n E a c hE.2.2.1 ⟨hc.1,hc.2.1⟩ hcc (next n E c) [] f q hlen (fun x hx=>(zdu hE.2.2.1).1 hx) (by omega) hI1
   have hI2:Inv n E a f' q' (fun _=>False):=by
    refine⟨i1.len,i1.start,i1.conn,i1.queue,fun v h0 h1 hv=>?_⟩
    rcases i1.done v h0 h1 hv with h|h|h
    ·exact .inl h
    ·refine .inr (.inr (fun w hw=>?_))
     subst h
     exact i2 w ((zdu hE.2.2.1).2 hw)
    ·exact .inr (.inr h)
   obtain⟨f2,j1,j2⟩:=ih f' q' (by omega) (by omega) hI2
   refine⟨f2,?_,j2⟩
   have g1:((c::q).length:Int)>0:=by rw[List.length_cons];omega
   have g2:(0:Int)<((c::q).length:Int):=g1
   have g3:(1:Int)<=((c::q).length:Int):=by omega
   have g4:rd (c::q) 0=c:=rfl
   have g5:(c::q).drop ((1:Int)).toNat=q:=rfl
   refine Ev.step (fun k=>by simp only[zaQ.l0,g1,g2,g3,g4,g5,if_true]<;>exact rfl) ?_
   refine Ev.bind (zf1 n c E hE) ?_
   exact i6 f2 j1
theorem zk_ (n:Int) (E:List S59) (a:Int) (hE:ok n E) (h0:0<=a) (h1:a<n):
  ∃f,Ev (fun k=>zaQ.f k n E a) f/\(f.length:Int)=n/\∀v,0<=v->v<n->(zcI false f v=true↔zd8 E a v):=by
 have h8:=hE.2.1
 have hb:(E.length:Int)<big:=by have:=zc2 hE;unfold big;omega
 have hn:n.toNat<=281474976710656:=by omega
 have hl:((List.replicate n.toNat false).length:Int)=n:=by rw[List.length_replicate];omega
 have hcnt:cnt (List.replicate n.toNat false)=n.toNat:=by simp[cnt]
 have hrep:∀v:Int,zcI false (List.replicate n.toNat false) v=false:=fun v=>by
  unfold zcI
  rw[List.getD_eq_getElem?_getD,List.getElem?_replicate]
  split<;>rfl
 have hs:=zh1 (f:=List.replicate n.toNat false) (i:=a.toNat) (hrep a) (by omega)
 have hset:∀v,0<=v->zcI false ((List.replicate n.toNat false).set a.toNat true) v=if a=v then true else false:=fun v hv=>by
  rw[ziP h0 (by omega) hv,hrep]
 have hI:Inv n E a ((List.replicate n.toNat false).set a.toNat true) [a] (fun _=>False):=by
  refine⟨by rw[List.length_set];exact hl,by rw[hset a h0];simp,?_,?_,?_⟩
  ·intro v v0 v1 hv
   rw[hset v v0]at hv
   by_cases e:a=v
   ·subst e;exact .refl _
   ·rw[if_neg e]at hv;simp at hv
  ·intro x hx
   rw[List.mem_singleton]at hx
   subst hx
   exact⟨h0,h1,by rw[hset _ h0];simp⟩
  ·intro v v0 v1 hv
   rw[hset v v0]at hv
   by_cases e:a=v
   ·subst e;exact .inl (by simp)
   ·rw[if_neg e]at hv;simp at hv
 obtain⟨f,r1,r2⟩:=zkB n E a hE 100 _ [a] (by simp only[List.length_singleton];omega) (by omega) hI
 refine⟨f,?_,r2⟩
 unfold zaQ.f
 refine Ev.bind (zci n a E hb) ?_
 have c:ok n E/\0<=a/\a<n:=⟨hE,h0,h1⟩
 have l2:a<((List.replicate n.toNat false).length:Int):=by omega
 simp only[c,and_self,decide_true,if_true,hE.1,hn,Option.bind_some,h0,l2]
 exact r1
theorem zkf (pre:List S59) (t:S59) (suf:List S59):zac (pre++t::suf) (pre.length:Int)=t:=by
 unfold zac;exact zdY pre t suf _
theorem zio (a b:Int) (t:Tie):(a==t.f0&&(b==t.f1))=decide ((⟨a,b⟩:Tie)=t):=by
 obtain⟨c,d⟩:=t
 simp only[Tie.mk.injEq]
 by_cases h:a=c<;>by_cases k:b=d<;>simp[h,k]
theorem zh5 (a b:Int):∀ (suf p:List S59),((p++suf).length:Int)<big->
  ∃r,Ev (fun k=>zaj.l0 k (p++suf) ((p++suf).length:Int) (p.length:Int) a b) r/\(r>=0↔(⟨a,b⟩:Tie)∈suf):=by
 intro suf
 induction suf with
 |nil=>
  intro p hb
  refine⟨-1,Ev.step (fun k=>by simp only[zaj.l0,zcp,if_false]<;>exact rfl) (Ev.val rfl),by simp⟩
 |cons t suf ih=>
  intro p hb
  have hp:(p.length:Int)<big:=zch hb
  by_cases c:(⟨a,b⟩:Tie)=t
  ·refine⟨p.length,?_,?_⟩
   ·refine Ev.step (fun k=>by simp only[zaj.l0,zbB,nn,if_true,zkf,zbZ (t:=t) hp,zio,decide_eq_true_eq,if_pos c]<;>exact rfl) ?_
    exact Ev.val rfl
   ·simp[c]
  ·obtain⟨r,hr,hi⟩:=ih (p++[t]) (zdJ hb)
   refine⟨r,?_,?_⟩
   ·refine Ev.step (fun k=>by simp only[zaj.l0,zbB,nn,if_true,zkf,zbZ (t:=t) hp,zio,decide_eq_true_eq,if_neg c]<;>exact rfl) ?_
    rw[zbL p t suf]
    exact hr
   ·rw[hi];simp[c]
theorem zgp (E:List S59) (a b:Int) (hb:(E.length:Int)<big):Ev (fun k=>zaO.f k E a b) (decide ((⟨a,b⟩:Tie)∈E)):=by
 unfold zaO.f zaj.f
 obtain⟨r,hr,hi⟩:=zh5 a b E [] hb
 refine Ev.bind hr (Ev.val ?_)
 exact congrArg some (decide_eq_decide.2 hi)
theorem zh_ (n a:Int) (E:List S59):zbk.f n E a=some (decide (0<=a/\a<n)):=by
 unfold zbk.f
 by_cases h:0<=a<;>simp[h]
theorem zjn (a b:Int):zce.f a b=some ((zbf a b).f0,(zbf a b).f1):=by
 unfold zce.f zbf mn mx
 rcases Int.lt_trichotomy a b with h|h|h
 ·simp[h];omega
 ·subst h;simp
 ·have:¬a<b:=by omega
  simp[this,h]
theorem zlz (n a b:Int) (E:List S59) (hE:(E.length:Int)<big):Ev (fun k=>zbw.f k n E a b) (decide (zbf a b∈E)):=by
 unfold zbw.f
 simp only[zjn,Option.bind_some]
 exact Ev.bind (zgp E _ _ hE) (Ev.val rfl)
end Go.Proofs.Ytgeonpciodepgaa.P
namespace Go.Proofs.Ytgeonpciodepgaa.G
open Go.RowKit Go.Proofs.YtgeonpciodepgaaW.PrintWords
theorem zjX {f:List Int}{u v x:Int}(hu:0<=u) (hu2:u<(f.length:Int)) (hv:0<=v):rd (f.set u.toNat x) v=if u=v then x else rd f v:=by
  unfold rd
  rw[List.getD_eq_getElem?_getD,List.getD_eq_getElem?_getD,List.getElem?_set]
  by_cases c:u=v
  · subst c
    rw[if_pos rfl,if_pos (by omega),if_pos rfl];rfl
  · rw[if_neg (by omega),if_neg c]
def tot (f:List Int):Nat:=(f.map Int.toNat).sum
structure Lab (n:Int) (E:List Tie) (f:List Int):Prop where
  len:(f.length:Int)=n
  low:∀v,0<=v->v<n->0<=rd f v/\rd f v<=v
  conn:∀v,0<=v->v<n->zd8 E v (rd f v)
structure Parts (n:Int) (E:List Tie) (f:List Int):Prop where
  len:(f.length:Int)=n
  low:∀v,0<=v->v<n->0<=rd f v/\rd f v<=v
  conn:∀v,0<=v->v<n->zd8 E v (rd f v)
  same:∀u v,0<=u->u<n->0<=v->v<n->zd8 E u v->rd f u=rd f v
theorem Lab.parts {n:Int}{E:List Tie}{f:List Int}(h:Lab n E f) (hE:∀t∈E,inr n t) (he:∀t∈E,rd f t.f0=rd f t.f1):Parts n E f:=by
  refine⟨h.len,h.low,h.conn,fun u v hu hu1 hv hv1 hc=>?_⟩
  refine hc.closed (fun x=>rd f u=rd f x) rfl (fun x y hx ht=>?_)
  have hr:=hE _ ht
  have e:=he _ ht
  rw[hx]
  unfold zbf at e
  by_cases c:x<y
  · rw[if_pos c]at e;exact e
  · rw[if_neg c]at e;exact e.symm
end Go.Proofs.Ytgeonpciodepgaa.G
namespace Go.Proofs.Ytgeonpciodepgaa.P
open Go.RowKit Go.Proofs.YtgeonpciodepgaaW.PrintWords Go.Proofs.Ytgeonpciodepgaa.G Go.Proofs.YtgeonpciodepgaaW.PrintWords.Kd
def PL (n:Int) (E:List Tie) (a:List Int):Prop:=∀v,0<=v->v<(a.length:Int)->0<=rd a v/\rd a v<=v/\zd8 E v (rd a v)/\∀u,0<=u->u<n->zd8 E v u->rd a v<=u
theorem zoa {a:List Int}{x v:Int}(h0:0<=v) (h1:v<(a.length:Int)):rd (a++[x]) v=rd a v:=by
 unfold rd
 rw[List.getD_eq_getElem?_getD,List.getD_eq_getElem?_getD,List.getElem?_append_left (by omega)]
theorem zmQ (a:List Int) (x:Int):rd (a++[x]) (a.length:Int)=x:=zcd a x []
theorem PL.parts {n:Int}{E:List Tie}{a:List Int}(h:PL n E a) (hl:(a.length:Int)=n):Parts n E a where
 len:=hl
 low:=fun v h0 h1=>⟨(h v h0 (by omega)).1,(h v h0 (by omega)).2.1⟩
 conn:=fun v h0 h1=>(h v h0 (by omega)).2.2.1
 same:=fun u v u0 u1 v0 v1 c=>by
  obtain⟨a1,a2,a3,a4⟩:=h u u0 (by omega)
  obtain⟨b1,b2,b3,b4⟩:=h v v0 (by omega)
  have:=a4 _ b1 (by omega) (c.trans b3)
  have:=b4 _ a1 (by omega) (c.symm.trans a3)
  omega
theorem zj6 (n i:Int) (E:List S59) (f:List Bool) (hf:(f.length:Int)=n) (h8:n<=8) (hfc:∀v,0<=v->v<n->(zcI false f v=true↔zd8 E i v)) (i0:0<=i) (i1:i<n) (a:List Int) (hal:(a.length:Int)=i):
  ∀ (d:Nat) (v:Int),0<=v->v+d=i->(∀u,0<=u->u<v->¬zd8 E i u)->∃x,0<=x/\x<=i/\zd8 E i x/\(∀u,0<=u->u<x->¬zd8 E i u)/\
   ∀r,Ev (fun k=>za4.l0 k (a++[x]) (i+1) n E) r->Ev (fun k=>za4.l1 k a i f v n E) r:=by
 intro d
 have wi:wrap64 (i+1)=i+1:=w64 (by omega) (by omega)
 have al:a.length<17592186044416:=by omega
 induction d with
 |zero=>
  intro v h0 hd hu
  obtain rfl:v=i:=by omega
  have c:zcI false f v=true:=(hfc v h0 i1).2 (.refl _)
  refine⟨v,h0,Int.le_refl _,.refl _,hu,fun r hr=>?_⟩
  have f1:v<(f.length:Int):=by omega
  refine Ev.step (fun k=>by simp only[za4.l1,if_pos h0,if_pos f1,if_pos c,if_pos al,wi]<;>exact rfl) hr
 |succ d ih=>
  intro v h0 hd hu
  have f1:v<(f.length:Int):=by omega
  have wv:wrap64 (v+1)=v+1:=w64 (by omega) (by omega)
  by_cases c:zcI false f v=true
  ·refine⟨v,h0,by omega,(hfc v h0 (by omega)).1 c,hu,fun r hr=>?_⟩
   refine Ev.step (fun k=>by simp only[za4.l1,if_pos h0,if_pos f1,if_pos c,if_pos al,wi]<;>exact rfl) hr
  ·have nc:¬zd8 E i v:=fun q=>c ((hfc v h0 (by omega)).2 q)
   obtain⟨x,x0,x1,x2,x3,x4⟩:=ih (v+1) (by omega) (by omega) (fun u u0 u1=>by
    by_cases e:u=v
    ·subst e;exact nc
    ·exact hu u u0 (by omega))
   refine⟨x,x0,x1,x2,x3,fun r hr=>?_⟩
   refine Ev.step (fun k=>by simp only[za4.l1,if_pos h0,if_pos f1,if_neg c,wv]<;>exact rfl) (x4 r hr)
theorem zjH (n:Int) (E:List S59) (hE:ok n E):∀ (d:Nat) (i:Int) (a:List Int),0<=i->i+d=n->(a.length:Int)=i->PL n E a->
  ∃f,Ev (fun k=>za4.l0 k a i n E) f/\Parts n E f:=by
 intro d
 induction d with
 |zero=>
  intro i a h0 h hl hp
  obtain rfl:i=n:=by omega
  exact⟨a,Ev.step (fun k=>by simp only[za4.l0,if_neg (Int.lt_irrefl _)]<;>exact rfl) (Ev.val rfl),hp.parts hl⟩
 |succ d ih=>
  intro i a h0 h hl hp
  have c:i<n:=by omega
  obtain⟨fl,e1,e2,e3⟩:=zk_ n E i hE h0 c
  obtain⟨x,x0,x1,x2,x3,x4⟩:=zj6 n i E fl e2 hE.2.1 e3 h0 c a hl i.toNat 0 (Int.le_refl _) (by omega) (fun u u0 u1=>by omega)
  obtain⟨f,f1,f2⟩:=ih (i+1) (a++[x]) (by omega) (by omega) (by simp;omega) (fun v v0 v1=>by
   by_cases e:v=i
   ·subst e
    have:rd (a++[x]) v=x:=by rw[←hl];exact zmQ a x
    rw[this]
    refine⟨x0,x1,x2,fun u u0 u1 cu=>?_⟩
    apply Classical.byContradiction
    intro q
    exact x3 u u0 (by omega) cu
   ·have v2:v<(a.length:Int):=by simp at v1;omega
    rw[zoa v0 v2]
    exact hp v v0 v2)
  exact⟨f,Ev.step (fun k=>by simp only[za4.l0,if_pos c]<;>exact rfl) (Ev.bind e1 (x4 f f1)),f2⟩
theorem zjr (n:Int) (E:List S59) (hE:ok n E):∃f,Ev (fun k=>za4.f k n E) f/\Parts n E f:=by
 have h0:=hE.1
 obtain⟨f,a,b⟩:=zjH n E hE n.toNat 0 [] (Int.le_refl _) (by omega) rfl (fun v v0 v1=>by simp at v1;omega)
 refine⟨f,?_,b⟩
 unfold za4.f
 simp only[Option.bind_some]
 refine Ev.bind (zfz n E (by have:=zc2 hE;unfold big;omega)) ?_
 simp only[decide_eq_true hE,if_true]
 exact a
theorem zl5 (s t:Tie):(!(s.f0==t.f0)||(!(s.f1==t.f1)))= !decide (s=t):=by
 obtain⟨a,b⟩:=s
 obtain⟨c,d⟩:=t
 simp only[Tie.mk.injEq]
 by_cases h:a=c<;>by_cases k:b=d<;>simp[h,k]
theorem ziW (n a b m:Int):∀ (suf p q:List S59),((p++suf).length:Int)<=1048576->q.length<=p.length->
  Ev (fun k=>zaR.l0 k a b (p.length:Int) n (p++suf) m q) (m,q++cut suf (zbf a b),true):=by
 intro suf
 induction suf with
 |nil=>
  intro p q hb hq
  refine Ev.step (fun k=>by simp only[zaR.l0,zcp,if_false]<;>exact rfl) ?_
  exact Ev.val (by simp[cut])
 |cons t suf ih=>
  intro p q hb hq
  have hb':((p++t::suf).length:Int)<big:=by unfold big;omega
  have hp:(p.length:Int)<big:=zch hb'
  have hq8:q.length<8796093022208:=by rw[List.length_append]at hb;omega
  refine Ev.step (fun k=>by simp only[zaR.l0,zbB,nn,if_true,zff,zbZ (t:=t) hp,zd5,Option.bind_some,zl5,hq8]<;>exact rfl) ?_
  by_cases c:t=zbf a b
  ·have c':(!decide (t=zbf a b))=false:=by rw[decide_eq_true c];rfl
   simp only[c',Bool.false_eq_true,if_false]
   rw[zbL p t suf]
   refine Ev.eq (ih (p++[t]) q (by rw[←zbL];exact hb) (by simp;omega)) ?_
   simp[cut,c]
  ·have c':(!decide (t=zbf a b))=true:=by rw[decide_eq_false c];rfl
   simp only[c',if_true]
   rw[zbL p t suf]
   refine Ev.eq (ih (p++[t]) (q++[t]) (by rw[←zbL];exact hb) (by simp;omega)) ?_
   simp[cut,c]
theorem zdS (n a b:Int) (E:List S59) (hE:(E.length:Int)<=1048576):
  Ev (fun k=>zaR.f k n E a b) (if ok n E/\zbf a b∈E then(n,cut E (zbf a b),true) else(0,[],false)):=by
 unfold zaR.f
 refine Ev.bind (zet n a b E (by unfold big;omega)) ?_
 by_cases c:ok n E/\zbf a b∈E
 ·simp only[if_pos c]
  simp only[c,and_self,decide_true,if_true]
  exact ziW n a b n E [] [] hE (Nat.le_refl _)
 ·simp only[if_neg c]
  simp only[c,decide_false,Bool.false_eq_true,if_false]
  exact Ev.val rfl
theorem zj_ (f:List Int) (hf:(f.length:Int)<=8):∀ (d:Nat) (i c:Int),0<=i->i+d=f.length->∃r,Ev (fun k=>zbe.l0 k f c i) r:=by
 intro d
 induction d with
 |zero=>
  intro i c h0 h
  have e:¬i<(f.length:Int):=by omega
  exact⟨c,Ev.step (fun k=>by simp only[zbe.l0,if_neg e]<;>exact rfl) (Ev.val rfl)⟩
 |succ d ih=>
  intro i c h0 h
  have e:i<(f.length:Int):=by omega
  have w:wrap64 (i+1)=i+1:=w64 (by omega) (by omega)
  by_cases q:rd f i=i
  ·obtain⟨r,hr⟩:=ih (i+1) (wrap64 (c+1)) (by omega) (by omega)
   exact⟨r,Ev.step (fun k=>by simp only[zbe.l0,if_pos e,if_pos h0,if_pos q,w]<;>exact rfl) hr⟩
  ·obtain⟨r,hr⟩:=ih (i+1) c (by omega) (by omega)
   exact⟨r,Ev.step (fun k=>by simp only[zbe.l0,if_pos e,if_pos h0,if_neg q,w]<;>exact rfl) hr⟩
theorem zeG (n:Int) (E:List S59) (hE:ok n E):∃r,Ev (fun k=>zbe.f k n E) r:=by
 obtain⟨f,f1,f2⟩:=zjr n E hE
 have hl:=f2.len
 have h8:=hE.2.1
 obtain⟨r,hr⟩:=zj_ f (by omega) f.length 0 0 (Int.le_refl _) (by omega)
 refine⟨r,?_⟩
 unfold zbe.f
 refine Ev.bind (zfz n E (by have:=zc2 hE;unfold big;omega)) ?_
 simp only[decide_eq_true hE,if_true]
 exact Ev.bind f1 hr
theorem zg1 (n a b:Int) (E:List S59) (hE:ok n E):∃r,Ev (fun k=>zbr.f k n E a b) r:=by
 have hl:=zc2 hE
 unfold zbr.f
 by_cases c:ok n E/\zbf a b∈E
 ·obtain⟨x,hx⟩:=zeG n (cut E (zbf a b)) (zhK _ hE)
  obtain⟨y,hy⟩:=zeG n E hE
  refine⟨decide (x>y),Ev.bind (zdS n a b E (by omega)) ?_⟩
  simp only[if_pos c,if_true]
  exact Ev.bind hx (Ev.bind hy (Ev.val rfl))
 ·refine⟨false,Ev.bind (zdS n a b E (by omega)) ?_⟩
  simp only[if_neg c,Bool.false_eq_true,if_false]
  exact Ev.val rfl
theorem zi4 (n:Int) (E:List S59) (hE:ok n E):∀ (suf p:List S59) (q:List S59),p++suf=E->q.length<=p.length->∃r,Ev (fun k=>zaN.l0 k q (p.length:Int) n E) r:=by
 have hl:=zc2 hE
 intro suf
 induction suf with
 |nil=>
  intro p q e hq
  rw[List.append_nil]at e
  subst e
  have c:¬ (p.length:Int)<(p.length:Int):=by omega
  exact⟨q,Ev.step (fun k=>by simp only[zaN.l0,if_neg c]<;>exact rfl) (Ev.val rfl)⟩
 |cons t suf ih=>
  intro p q e hq
  have c:(p.length:Int)<(E.length:Int):=by rw[←e];exact zbB p t suf
  have w:wrap64 ((p.length:Int)+1)=((p++[t]).length:Int):=zbZ (by unfold big;omega)
  have q8:q.length<8796093022208:=by omega
  obtain⟨b,hb⟩:=zg1 n ((zac E (p.length:Int)).f0) ((zac E (p.length:Int)).f1) E hE
  cases b with
  |true=>
   obtain⟨r,hr⟩:=ih (p++[t]) (q++[⟨(zac E (p.length:Int)).f0,(zac E (p.length:Int)).f1⟩]) (by rw[←e];simp) (by simp;omega)
   refine⟨r,Ev.step (fun k=>by simp only[zaN.l0,if_pos c,nn,if_true,w]<;>exact rfl) (Ev.bind hb ?_)⟩
   simp only[if_true,if_pos q8]
   exact hr
  |false=>
   obtain⟨r,hr⟩:=ih (p++[t]) q (by rw[←e];simp) (by simp;omega)
   refine⟨r,Ev.step (fun k=>by simp only[zaN.l0,if_pos c,nn,if_true,w]<;>exact rfl) (Ev.bind hb ?_)⟩
   simp only[Bool.false_eq_true,if_false]
   exact hr
theorem zhp (n:Int) (E:List S59) (hE:ok n E):∃r,Ev (fun k=>zaN.f k n E) r:=by
 obtain⟨r,hr⟩:=zi4 n E hE E [] [] rfl (Nat.le_refl _)
 refine⟨r,?_⟩
 unfold zaN.f
 simp only[Option.bind_some]
 refine Ev.bind (zfz n E (by have:=zc2 hE;unfold big;omega)) ?_
 simp only[decide_eq_true hE,if_true]
 exact hr
theorem zi7 (n a m:Int) (E:List S59) (hE:(E.length:Int)<=64):∀ (suf p:List S59) (q:List S59),p++suf=E->q.Sublist p->∃F,Ev (fun k=>zaS.l0 k a (p.length:Int) n E m q) (m,F)/\F.Sublist E:=by
 intro suf
 induction suf with
 |nil=>
  intro p q e hq
  rw[List.append_nil]at e
  subst e
  have c:¬ (p.length:Int)<(p.length:Int):=by omega
  exact⟨q,Ev.step (fun k=>by simp only[zaS.l0,if_neg c]<;>exact rfl) (Ev.val rfl),hq⟩
 |cons t suf ih=>
  intro p q e hq
  have c:(p.length:Int)<(E.length:Int):=by rw[←e];exact zbB p t suf
  have w:wrap64 ((p.length:Int)+1)=((p++[t]).length:Int):=zbZ (by unfold big;omega)
  have q8:q.length<8796093022208:=by have:=hq.length_le;omega
  have rt:zac E (p.length:Int)=t:=by unfold zac;rw[←e];exact zdY p t suf _
  have no:q.Sublist (p++[t]):=hq.trans (List.sublist_append_left _ _)
  by_cases c1:t.f0=a
  ·obtain⟨r,hr,hs⟩:=ih (p++[t]) q (by rw[←e];simp) no
   exact⟨r,Ev.step (fun k=>by simp only[zaS.l0,if_pos c,nn,if_true,w,rt,if_pos c1]<;>exact rfl) hr,hs⟩
  ·by_cases c2:t.f1=a
   ·obtain⟨r,hr,hs⟩:=ih (p++[t]) q (by rw[←e];simp) no
    exact⟨r,Ev.step (fun k=>by simp only[zaS.l0,if_pos c,nn,if_true,w,rt,if_neg c1,if_pos c2]<;>exact rfl) hr,hs⟩
   ·obtain⟨r,hr,hs⟩:=ih (p++[t]) (q++[⟨t.f0,t.f1⟩]) (by rw[←e];simp) (hq.append (List.Sublist.refl _))
    exact⟨r,Ev.step (fun k=>by simp only[zaS.l0,if_pos c,nn,if_true,w,rt,if_neg c1,if_neg c2,if_pos q8]<;>exact rfl) hr,hs⟩
theorem zhs (n a:Int) (E:List S59) (hE:ok n E):∃m F,Ev (fun k=>zaS.f k n E a) (m,F)/\ok m F:=by
 have hl:=zc2 hE
 unfold zaS.f
 by_cases c:ok n E/\0<=a/\a<n
 ·obtain⟨F,f1,f2⟩:=zi7 n a n E hl E [] [] rfl (List.Sublist.refl _)
  refine⟨n,F,Ev.bind (zci n a E (by unfold big;omega)) ?_,zgF hE f2⟩
  simp only[decide_eq_true c,if_true]
  exact f1
 ·refine⟨0,[],Ev.bind (zci n a E (by unfold big;omega)) ?_,⟨Int.le_refl _,by decide,by simp,by simp[asc]⟩⟩
  simp only[decide_eq_false c,Bool.false_eq_true,if_false]
  exact Ev.val rfl
theorem zkv (n v:Int) (E:List S59) (hE:ok n E):Ev (fun k=>zcj.f k n E v) (((next n E v).length:Int)==0):=by
 unfold zcj.f
 exact Ev.bind (zf1 n v E hE) (Ev.val rfl)
end Go.Proofs.Ytgeonpciodepgaa.P
namespace Go.Proofs.Ytgeonpciodepgaa.G
def ziR:List Int->List Int->Prop
 |[],[]=>False
 |[],_::_=>True
 |_::_,[]=>False
 |x::a,y::b=>x<y\/x=y/\ziR a b
instance zj7:(a b:List Int)->Decidable (ziR a b)
 |[],[]=>isFalse (fun h=>h)
 |[],_::_=>isTrue trivial
 |_::_,[]=>isFalse (fun h=>h)
 |x::a,y::b=>by
  have:=zj7 a b
  unfold ziR
  infer_instance
def wlt (a b:List Int):Prop:=a.length<b.length\/a.length=b.length/\ziR a b
instance(a b:List Int):Decidable (wlt a b):=by unfold wlt;infer_instance
structure zmk (E:List Tie) (a b:Int) (p:List Int):Prop where
 head:p.head? =some a
 last:p.getLast? =some b
 ties:∀t∈ties p,t∈E
 nodup:p.Nodup
theorem zjA {n a b:Int}{E:List Tie}{p:List Int}(h:zmk E a b p):zd8 E a b:=by
 obtain⟨h1,h2,h3,_⟩:=h
 have go:∀ (p:List Int) (a:Int),(a::p).getLast? =some b->(∀t∈ties (a::p),t∈E)->zd8 E a b:=by
  intro p
  induction p with
  |nil=>
   intro a h _
   have:a=b:=by simpa using h
   rw[this];exact .refl _
  |cons x p ih=>
   intro a h ht
   rw[List.getLast?_cons_cons]at h
   exact(zd8.one (ht _ (by simp[ties]))).trans (ih x h (fun t q=>ht t (by simp[ties,q])))
 cases p with
 |nil=>simp at h1
 |cons x r=>
  have:x=a:=by simpa using h1
  subst this
  exact go r x h2 h3
structure Far (n:Int) (E:List Tie) (b:Int) (f:Int->Int):Prop where
 zero:f b=0
 only:∀v,0<=v->v<n->f v=0->v=b
 down:∀v,0<=v->v<n->0<f v->∃w,zbf v w∈E/\f w=f v - 1
 near:∀v w,zbf v w∈E->0<=f v->0<=f w/\f w<=f v+1
 lo:∀v,0<=v->v<n-> -1<=f v
def down (n:Int) (E:List Tie) (f:Int->Int):Nat->Int->List Int
 |0,v=>[v]
 |d+1,v=>v::down n E f d (((next n E v).find? fun w=>decide (f w=d)).getD 0)
theorem zh3 (n v:Int) (E:List Tie):(next n E v).Pairwise (· <·):=by
 unfold next zdm
 refine List.Pairwise.sublist List.filter_sublist ?_
 rw[List.pairwise_map]
 exact List.pairwise_lt_range.imp (fun{a b} h=>by omega)
theorem Far.step {n b:Int}{E:List Tie}{f:Int->Int}(F:Far n E b f) (hE:∀t∈E,inr n t) {d:Nat}{v:Int}(hv:0<=v/\v<n) (hf:f v=(d+1:Nat)):
  ∃x,(next n E v).find? (fun w=>decide (f w=d))=some x/\zbf v x∈E/\f x=d/\(0<=x/\x<n)/\∀w,zbf v w∈E->f w=d->x<=w:=by
 obtain⟨w,h1,h2⟩:=F.down v hv.1 hv.2 (by omega)
 have hw:w∈next n E v:=(zdu hE).2 h1
 cases e:(next n E v).find? (fun w=>decide (f w=d)) with
 |none=>
  rw[List.find?_eq_none]at e
  have:=e w hw
  simp at this
  omega
 |some x=>
  have hx:=List.mem_of_find?_eq_some e
  have hx2:=List.find?_some e
  simp only[decide_eq_true_eq]at hx2
  have ht:=(zdu hE).1 hx
  refine⟨x,rfl,ht,hx2,(zbY (hE _ ht)).2.1,fun w h1 h2=>?_⟩
  obtain⟨_,ls,rs,e1,e2⟩:=List.find?_eq_some_iff_append.1 e
  have hw:w∈next n E v:=(zdu hE).2 h1
  rw[e1,List.mem_append]at hw
  rcases hw with q|q
  ·have:=e2 w q
   simp[h2]at this
  ·rcases List.mem_cons.1 q with q|q
   ·omega
   ·have hs:=zh3 n v E
    rw[e1,List.pairwise_append]at hs
    have:=(List.pairwise_cons.1 hs.2.1).1 w q
    omega
theorem ze3 {n b:Int}{E:List Tie}{f:Int->Int}(F:Far n E b f) (hE:∀t∈E,inr n t):∀ (d:Nat) (v:Int),0<=v/\v<n->f v=(d:Int)->
  ∃r,down n E f d v=v::r/\r.length=d/\(v::r).getLast? =some b/\(∀t∈ties (v::r),t∈E)/\(∀x∈r,f x<d)/\(v::r).Nodup
 |0,v,hv,hf=>⟨[],rfl,rfl,by rw[F.only v hv.1 hv.2 hf];rfl,by simp[ties],by simp,by simp⟩
 |d+1,v,hv,hf=>by
  obtain⟨x,e,ht,hx,hr,_⟩:=F.step hE hv hf
  obtain⟨r,e1,e2,e3,e4,e5,e6⟩:=ze3 F hE d x hr hx
  refine⟨x::r,?_,by simp[e2],?_,?_,?_,?_⟩
  ·unfold down
   rw[e]
   simp only[Option.getD_some,e1]
  ·rw[List.getLast?_cons_cons];exact e3
  ·intro t h
   simp only[ties,List.mem_cons]at h
   rcases h with rfl|h
   ·exact ht
   ·exact e4 t h
  ·intro y hy
   rcases List.mem_cons.1 hy with rfl|hy
   ·omega
   ·have:=e5 y hy;omega
  ·rw[List.nodup_cons]
   refine⟨fun h=>?_,e6⟩
   rcases List.mem_cons.1 h with q|q
   ·rw[q]at hf;omega
   ·have:=e5 v q;omega
theorem Far.walk {n b:Int}{E:List Tie}{f:Int->Int}(F:Far n E b f):∀ (r:List Int) (v:Int),(v::r).getLast? =some b->(∀t∈ties (v::r),t∈E)->0<=f v/\f v<=(r.length:Int)
 |[],v,h,_=>by
  have:v=b:=by simpa using h
  rw[this,F.zero];simp
 |w::r,v,h,ht=>by
  rw[List.getLast?_cons_cons]at h
  have:=F.walk r w h (fun t q=>ht t (by simp[ties,q]))
  have:=F.near w v (by rw[zdM];exact ht _ (by simp[ties])) (by omega)
  simp only[List.length_cons]
  omega
theorem zgy {n b:Int}{E:List Tie}{f:Int->Int}(F:Far n E b f) (hE:∀t∈E,inr n t):∀ (d:Nat) (v:Int) (q:List Int),0<=v/\v<n->f v=(d:Int)->(v::q).getLast? =some b->(∀t∈ties (v::q),t∈E)->q.length<=d->
  q.length=d/\¬ziR (v::q) (down n E f d v)
 |0,v,[],_,_,_,_,_=>⟨rfl,by simp[down,ziR]⟩
 |0,v,_::_,_,_,_,_,h=>by simp at h
 |d+1,v,[],hv,hf,h,_,_=>by
  have:v=b:=by simpa using h
  rw[this,F.zero]at hf;omega
 |d+1,v,w::q,hv,hf,h,ht,hl=>by
  obtain⟨x,e,htx,hx,hr,hmin⟩:=F.step hE hv hf
  rw[List.getLast?_cons_cons]at h
  have hw:=F.walk q w h (fun t k=>ht t (by simp[ties,k]))
  have htw:zbf v w∈E:=ht _ (by simp[ties])
  have h2:=F.near w v (by rw[zdM];exact htw) (by omega)
  have hfw:f w=(d:Int):=by simp only[List.length_cons]at hl;omega
  obtain⟨a,b2⟩:=zgy F hE d w q (zbY (hE _ htw)).2.1 hfw h (fun t k=>ht t (by simp[ties,k])) (by simp only[List.length_cons]at hl;omega)
  refine⟨by simp[a],?_⟩
  unfold down
  rw[e]
  simp only[Option.getD_some]
  intro k
  have hm:=hmin w htw hfw
  obtain⟨r,e1,_⟩:=ze3 F hE d x hr hx
  rcases k with k|⟨_,k⟩
  ·omega
  ·by_cases c:w=x
   ·subst c;exact b2 k
   ·rw[e1]at k
    rcases k with k|k
    ·omega
    ·exact c k.1
def zgO (n:Int) (E:List Tie) (f:Int->Int) (a:Int):List Int:=down n E f (f a).toNat a
theorem Far.first {n a b:Int}{E:List Tie}{f:Int->Int}(F:Far n E b f) (hE:∀t∈E,inr n t) (ha:0<=a/\a<n) (h:0<=f a):zmk E a b (zgO n E f a)/\∀q,zmk E a b q->¬wlt q (zgO n E f a):=by
 obtain⟨r,e1,e2,e3,e4,e5,e6⟩:=ze3 F hE (f a).toNat a ha (by omega)
 unfold zgO
 refine⟨⟨by rw[e1];rfl,by rw[e1];exact e3,by rw[e1];exact e4,by rw[e1];exact e6⟩,fun q hq k=>?_⟩
 cases q with
 |nil=>have:=hq.head;simp at this
 |cons x q=>
  have:x=a:=by have:=hq.head;simpa using this
  subst this
  have hl:q.length<=(f x).toNat:=by
   rw[e1]at k
   rcases k with k|k
   ·simp only[List.length_cons,e2]at k;omega
   ·have:=k.1;simp only[List.length_cons,e2]at this;omega
  obtain⟨l1,l2⟩:=zgy F hE (f x).toNat x q ha (by omega) hq.last hq.ties hl
  rcases k with k|k
  ·rw[e1]at k;simp only[List.length_cons,e2]at k;omega
  ·exact l2 k.2
theorem Far.conn {n a b:Int}{E:List Tie}{f:Int->Int}(F:Far n E b f) (hE:∀t∈E,inr n t) (ha:0<=a/\a<n):0<=f a↔zd8 E a b:=by
 constructor
 ·intro h;exact zjA (n:=n) (F.first hE ha h).1
 ·intro h
  refine h.symm.closed (fun x=>0<=f x) (by rw[F.zero];omega) (fun x y hx ht=>(F.near x y ht hx).1)
end Go.Proofs.Ytgeonpciodepgaa.G
namespace Go.Proofs.Ytgeonpciodepgaa.G
open Go.RowKit Go.Proofs.YtgeonpciodepgaaW.PrintWords
end Go.Proofs.Ytgeonpciodepgaa.G
namespace Go.Proofs.Ytgeonpciodepgaa.P
open Go.RowKit Go.Proofs.YtgeonpciodepgaaW.PrintWords Go.Proofs.Ytgeonpciodepgaa.G Go.Proofs.YtgeonpciodepgaaW.PrintWords.Kd
def zhb (f:List Int):Nat:=(f.filter fun x=>decide (x<0)).length
theorem zg8:∀ {f:List Int}{i:Nat}{x:Int},i<f.length->f.getD i 0<0->0<=x->zhb (f.set i x)+1=zhb f
 |[],i,_,h,_,_=>absurd h (Nat.not_lt_zero _)
 |b::f,0,x,_,h,hx=>by
  have h:b<0:=h
  have hx:¬x<0:=by omega
  simp[zhb,h,hx]
 |b::f,i+1,x,hl,h,hx=>by
  have ih:=zg8 (f:=f) (i:=i) (x:=x) (by simpa using hl) (by simpa using h) hx
  unfold zhb at*
  rw[List.set_cons_succ,List.filter_cons,List.filter_cons]
  by_cases c:b<0
  ·simp only[c,decide_true,if_true,List.length_cons];omega
  ·simp only[c,decide_false,Bool.false_eq_true,if_false];exact ih
structure FI (n:Int) (E:List Tie) (b:Int) (f q:List Int) (d:Int) (busy:Int->Prop):Prop where
 base:0<=b
 len:(f.length:Int)=n
 zero:rd f b=0
 only:∀v,0<=v->v<n->rd f v=0->v=b
 lo:∀v,0<=v->v<n-> -1<=rd f v
 hi:∀v,0<=v->v<n->rd f v<=d+1
 bd:∀v,0<=v->v<n->rd f v+zhb f+1<=n
 down:∀v,0<=v->v<n->0<rd f v->∃w,zbf v w∈E/\rd f w=rd f v - 1
 pos:0<=d
 queue:∀x∈q,0<=x/\x<n/\d<=rd f x
 sorted:q.Pairwise fun x y=>rd f x<=rd f y
 done:∀v,0<=v->v<n->0<=rd f v->v∈q\/busy v\/∀w,zbf v w∈E->0<=rd f w/\rd f w<=rd f v+1
theorem FI.see {n:Int}{E:List Tie}{b:Int}{f q:List Int}{d c t:Int}(hE:∀t∈E,inr n t) (h:FI n E b f q d (fun v=>v=c)) (hc:0<=c/\c<n) (hcd:rd f c=d) (ht:zbf c t∈E) (hn:rd f t<0):
  FI n E b (f.set t.toNat (d+1)) (q++[t]) d (fun v=>v=c)/\zhb (f.set t.toNat (d+1))+1=zhb f/\(∀x,0<=x->0<=rd f x->rd (f.set t.toNat (d+1)) x=rd f x)/\rd (f.set t.toNat (d+1)) t=d+1:=by
 have hr:=(zbY (hE _ ht)).2.1
 have hl:=h.len
 have rs:∀x,0<=x->rd (f.set t.toNat (d+1)) x=if t=x then d+1 else rd f x:=fun x hx=>zjX hr.1 (by omega) hx
 have cs:zhb (f.set t.toNat (d+1))+1=zhb f:=zg8 (by omega) (by unfold rd at hn;exact hn) (by have:=h.pos;omega)
 have keep:∀x,0<=x->0<=rd f x->rd (f.set t.toNat (d+1)) x=rd f x:=fun x hx h0=>by
  rw[rs x hx,if_neg (fun e=>by subst e;omega)]
 have b0:0<=b:=h.base
 have bt:b≠t:=fun e=>by have:=h.zero;rw[e]at this;omega
 refine⟨⟨h.base,by simp;exact hl,?_,?_,?_,?_,?_,?_,h.pos,?_,?_,?_⟩,cs,keep,by rw[rs t hr.1,if_pos rfl]⟩
 ·rw[rs b b0,if_neg (fun e=>bt e.symm)];exact h.zero
 ·intro v v0 v1 e
  rw[rs v v0]at e
  split at e
  ·have:=h.pos;omega
  ·exact h.only v v0 v1 e
 ·intro v v0 v1
  rw[rs v v0]
  split
  ·have:=h.pos;omega
  ·exact h.lo v v0 v1
 ·intro v v0 v1
  rw[rs v v0]
  split
  ·omega
  ·exact h.hi v v0 v1
 ·intro v v0 v1
  rw[rs v v0]
  split
  ·have:=h.bd c hc.1 hc.2;omega
  ·have:=h.bd v v0 v1;omega
 ·intro v v0 v1 e
  rw[rs v v0]at e⊢
  split at e
  ·rename_i q
   subst q
   refine⟨c,by rw[zdM];exact ht,?_⟩
   rw[if_pos rfl,keep c hc.1 (by have:=h.pos;omega),hcd];omega
  ·rename_i q
   rw[if_neg q]
   obtain⟨w,w1,w2⟩:=h.down v v0 v1 e
   exact⟨w,w1,by rw[keep w (zbY (hE _ w1)).2.1.1 (by omega),w2]⟩
 ·intro x hx
  rcases List.mem_append.1 hx with hx|hx
  ·obtain⟨a1,a2,a3⟩:=h.queue x hx
   exact⟨a1,a2,by rw[keep x a1 (by have:=h.pos;omega)];exact a3⟩
  ·rw[List.mem_singleton]at hx
   subst hx
   exact⟨hr.1,hr.2,by rw[rs x hr.1,if_pos rfl];omega⟩
 ·rw[List.pairwise_append]
  refine⟨?_,by simp,?_⟩
  ·refine List.Pairwise.imp_of_mem ?_ h.sorted
   intro x y hx hy e
   obtain⟨a1,a2,a3⟩:=h.queue x hx
   obtain⟨b1,b2,b3⟩:=h.queue y hy
   have:=h.pos
   rw[keep x a1 (by omega),keep y b1 (by omega)];exact e
  ·intro x hx y hy
   rw[List.mem_singleton]at hy
   subst hy
   obtain⟨a1,a2,a3⟩:=h.queue x hx
   have:=h.pos
   have:=h.hi x a1 a2
   rw[keep x a1 (by omega),rs y hr.1,if_pos rfl];omega
 ·intro v v0 v1 e
  by_cases q:t=v
  ·subst q;exact .inl (by simp)
  ·rw[rs v v0,if_neg q]at e⊢
   rcases h.done v v0 v1 e with k|k|k
   ·exact .inl (by simp[k])
   ·exact .inr (.inl k)
   ·refine .inr (.inr fun w hw=>?_)
    have:=k w hw
    rw[keep w (zbY (hE _ hw)).2.1.1 this.1];exact this
theorem znF (n:Int) (E:List S59) (b c d:Int) (hE:∀t∈E,inr n t) (h8:n<=8) (hc:0<=c/\c<n):∀ (suf p f q:List Int),((p++suf).length:Int)<big->(∀x∈suf,zbf c x∈E)->q.length+zhb f<=1000->rd f c=d->FI n E b f q d (fun v=>v=c)->
  ∃f' q',FI n E b f' q' d (fun v=>v=c)/\rd f' c=d/\(∀x∈suf,0<=rd f' x)/\(∀x,0<=x->0<=rd f x->0<=rd f' x)/\q'.length+zhb f'=q.length+zhb f/\zhb f'<=zhb f/\
   ∀r,Ev (fun k=>zaK.l1 k f' q' n E) r->Ev (fun k=>zaK.l2 k f q c (p++suf) (p.length:Int) n E) r:=by
 intro suf
 induction suf with
 |nil=>
  intro p f q hb hs hm hcd hI
  exact⟨f,q,hI,hcd,by simp,fun x _ h=>h,rfl,Nat.le_refl _,fun r hr=>Ev.step (fun k=>by simp only[zaK.l2,zcp,if_false]<;>exact rfl) hr⟩
 |cons t suf ih=>
  intro p f q hb hs hm hcd hI
  have hp:(p.length:Int)<big:=zch hb
  have htE:=hs t (by simp)
  have hr:=(zbY (hE _ htE)).2.1
  have hl:=hI.len
  have g0:0<=t:=hr.1
  have g1:t<(f.length:Int):=by omega
  have k0:0<=c:=hc.1
  have k1:c<(f.length:Int):=by omega
  have ql:q.length<17592186044416:=by omega
  have hs':∀x∈suf,zbf c x∈E:=fun x hx=>hs x (List.mem_cons_of_mem _ hx)
  have hb':(((p++[t])++suf).length:Int)<big:=by rw[←zbL];exact hb
  by_cases u:rd f t<0
  ·obtain⟨s1,s2,s3,s4⟩:=hI.see hE hc hcd htE u
   have bdc:=hI.bd c hc.1 hc.2
   have dp:=hI.pos
   have wd:wrap64 (rd f c+1)=d+1:=by rw[hcd];exact w64 (by omega) (by omega)
   obtain⟨f',q',i1,i2,i3,i4,i5,i6,i7⟩:=ih (p++[t]) _ (q++[t]) hb' hs' (by simp;omega) (by rw[s3 c hc.1 (by omega)];exact hcd) s1
   refine⟨f',q',i1,i2,fun x hx=>?_,fun x x0 hx=>i4 x x0 (by rw[s3 x x0 hx];exact hx),by simp at i5;omega,by omega,fun r hr2=>?_⟩
   ·rcases List.mem_cons.1 hx with rfl|hx
    ·exact i4 x g0 (by rw[s4];omega)
    ·exact i3 x hx
   ·have:=i7 r hr2
    rw[←zbL]at this
    exact Ev.step (fun k=>by simp only[zaK.l2,zbB,nn,if_true,zcd,if_pos g0,if_pos g1,if_pos u,if_pos k0,if_pos k1,if_pos ql,wd,zbZ (t:=t) hp]<;>exact rfl) this
  ·obtain⟨f',q',i1,i2,i3,i4,i5,i6,i7⟩:=ih (p++[t]) f q hb' hs' hm hcd hI
   refine⟨f',q',i1,i2,fun x hx=>?_,i4,i5,i6,fun r hr2=>?_⟩
   ·rcases List.mem_cons.1 hx with rfl|hx
    ·exact i4 x g0 (by omega)
    ·exact i3 x hx
   ·have:=i7 r hr2
    rw[←zbL]at this
    exact Ev.step (fun k=>by simp only[zaK.l2,zbB,nn,if_true,zcd,if_pos g0,if_pos g1,if_neg u,zbZ (t:=t) hp]<;>exact rfl) this
theorem znS (n:Int) (E:List S59) (b:Int) (hE:ok n E):∀ (m:Nat) (f q:List Int) (d:Int),2*zhb f+q.length<=m->m<=900->FI n E b f q d (fun _=>False)->
  ∃f',Ev (fun k=>zaK.l1 k f q n E) f'/\(f'.length:Int)=n/\(∀v,0<=v->v<n->rd f' v<=n)/\Far n E b (rd f'):=by
 intro m
 induction m with
 |zero=>
  intro f q d hm h9 hI
  have e:q=[]:=List.eq_nil_of_length_eq_zero (by omega)
  subst e
  have c:¬ (([]:List Int).length:Int)>0:=by simp
  refine⟨f,Ev.step (fun k=>by simp only[zaK.l1,if_neg c]<;>exact rfl) (Ev.val rfl),hI.len,fun v v0 v1=>by have:=hI.bd v v0 v1;omega,?_⟩
  exact⟨hI.zero,hI.only,hI.down,fun v w ht h0=>by
   have:=(zbY (hE.2.2.1 _ ht)).1
   rcases hI.done v this.1 this.2 h0 with k|k|k
   ·simp at k
   ·exact k.elim
   ·exact k w ht,hI.lo⟩
 |succ m ih=>
  intro f q d hm h9 hI
  cases q with
  |nil=>
   have c:¬ (([]:List Int).length:Int)>0:=by simp
   refine⟨f,Ev.step (fun k=>by simp only[zaK.l1,if_neg c]<;>exact rfl) (Ev.val rfl),hI.len,fun v v0 v1=>by have:=hI.bd v v0 v1;omega,?_⟩
   exact⟨hI.zero,hI.only,hI.down,fun v w ht h0=>by
    have:=(zbY (hE.2.2.1 _ ht)).1
    rcases hI.done v this.1 this.2 h0 with k|k|k
    ·simp at k
    ·exact k.elim
    ·exact k w ht,hI.lo⟩
  |cons x q=>
   obtain⟨x0,x1,x2⟩:=hI.queue x (by simp)
   have hs:=List.pairwise_cons.1 hI.sorted
   have dp:=hI.pos
   have I2:FI n E b f q (rd f x) (fun v=>v=x):=⟨hI.base,hI.len,hI.zero,hI.only,hI.lo,fun v v0 v1=>by have:=hI.hi v v0 v1;omega,hI.bd,hI.down,by omega,fun y hy=>⟨(hI.queue y (by simp[hy])).1,(hI.queue y (by simp[hy])).2.1,hs.1 y hy⟩,hs.2,fun v v0 v1 h0=>by
    rcases hI.done v v0 v1 h0 with k|k|k
    ·rcases List.mem_cons.1 k with k|k
     ·exact .inr (.inl k)
     ·exact .inl k
    ·exact k.elim
    ·exact .inr (.inr k)⟩
   have nl:((next n E x).length:Int)<big:=by
    have:=List.length_filter_le (fun i=>decide (zbf x i∈E)) (zdm n)
    rw[zdO]at this
    have:=hE.2.1
    unfold next big
    omega
   obtain⟨f',q',i1,i2,i3,i4,i5,i6,i7⟩:=znF n E b x (rd f x) hE.2.2.1 hE.2.1 ⟨x0,x1⟩ (next n E x) [] f q (by simpa using nl) (fun y hy=>(zdu hE.2.2.1).1 hy) (by simp at hm;omega) rfl I2
   have I3:FI n E b f' q' (rd f x) (fun _=>False):=⟨i1.base,i1.len,i1.zero,i1.only,i1.lo,i1.hi,i1.bd,i1.down,i1.pos,i1.queue,i1.sorted,fun v v0 v1 h0=>by
    rcases i1.done v v0 v1 h0 with k|k|k
    ·exact .inl k
    ·subst k
     refine .inr (.inr fun w hw=>?_)
     have wr:=(zbY (hE.2.2.1 _ hw)).2.1
     exact⟨i3 w ((zdu hE.2.2.1).2 hw),by have:=i1.hi w wr.1 wr.2;omega⟩
    ·exact .inr (.inr k)⟩
   obtain⟨f2,e1,e2,e3,e4⟩:=ih f' q' (rd f x) (by simp at hm;omega) (by omega) I3
   refine⟨f2,?_,e2,e3,e4⟩
   have c1:((x::q).length:Int)>0:=by rw[List.length_cons];omega
   have c2:0<((x::q).length:Int):=c1
   have c3:1<=((x::q).length:Int):=by omega
   have er:rd (x::q) 0=x:=rfl
   refine Ev.step (fun k=>by simp only[zaK.l1,if_pos c1,if_pos c2,er]<;>exact rfl) ?_
   refine Ev.bind (zf1 n x E hE) ?_
   simp only[if_pos c3]
   have ed:(x::q).drop (1:Int).toNat=q:=rfl
   rw[ed]
   exact i7 _ e1
theorem zlO (m:Nat) (v:Int):rd (List.replicate m (-1)) v=if v.toNat<m then -1 else 0:=by
 unfold rd
 rw[List.getD_eq_getElem?_getD]
 by_cases c:v.toNat<m
 ·rw[if_pos c,List.getElem?_replicate,if_pos c];rfl
 ·rw[if_neg c,List.getElem?_replicate,if_neg c];rfl
theorem znx (n:Int) (E:List S59) (b:Int) (hE:ok n E) (hb:0<=b/\b<n):∃f,Ev (fun k=>zaK.f k n E b) f/\(f.length:Int)=n/\(∀v,0<=v->v<n->rd f v<=n)/\Far n E b (rd f):=by
 have h8:=hE.2.1
 have hl:((List.replicate n.toNat (-1:Int)).length:Int)=n:=by simp;omega
 have rs:∀v,0<=v->v<n->rd ((List.replicate n.toNat (-1)).set b.toNat 0) v=if b=v then 0 else -1:=fun v v0 v1=>by
  rw[zjX hb.1 (by omega) v0]
  by_cases q:b=v
  ·rw[if_pos q,if_pos q]
  ·rw[if_neg q,if_neg q,zlO,if_pos (by omega)]
 have c0:zhb (List.replicate n.toNat (-1:Int))=n.toNat:=by
  unfold zhb
  rw[List.filter_eq_self.2]
  ·simp
  ·intro x hx;rw[List.eq_of_mem_replicate hx];rfl
 have cs:zhb ((List.replicate n.toNat (-1:Int)).set b.toNat 0)+1=n.toNat:=by
  rw[zg8 (by simp;omega) (by have:=zlO n.toNat b;unfold rd at this;rw[this,if_pos (by omega)];omega) (by omega),c0]
 have I:FI n E b ((List.replicate n.toNat (-1)).set b.toNat 0) [b] 0 (fun _=>False):=by
  refine⟨hb.1,by simp;omega,by rw[rs b hb.1 hb.2,if_pos rfl],fun v v0 v1 e=>?_,fun v v0 v1=>?_,fun v v0 v1=>?_,fun v v0 v1=>?_,fun v v0 v1 e=>?_,Int.le_refl _,fun x hx=>?_,by simp,fun v v0 v1 e=>?_⟩
  ·rw[rs v v0 v1]at e
   split at e
   ·rename_i q;exact q.symm
   ·omega
  ·rw[rs v v0 v1];split<;>omega
  ·rw[rs v v0 v1];split<;>omega
  ·rw[rs v v0 v1];split<;>omega
  ·rw[rs v v0 v1]at e
   split at e<;>omega
  ·rw[List.mem_singleton]at hx
   subst hx
   exact⟨hb.1,hb.2,by rw[rs x hb.1 hb.2,if_pos rfl];omega⟩
  ·rw[rs v v0 v1]at e
   split at e
   ·rename_i q;exact .inl (by simp[q])
   ·omega
 obtain⟨f',e1,e2,e3,e4⟩:=znS n E b hE 100 _ [b] 0 (by simp;omega) (by omega) I
 refine⟨f',?_,e2,e3,e4⟩
 unfold zaK.f
 have go:∀ (d:Nat) (i:Int),0<=i->i+d=n->Ev (fun k=>zaK.l0 k b (List.replicate i.toNat (-1)) i n E) f':=by
  intro d
  induction d with
  |zero=>
   intro i i0 hi
   have e:i=n:=by omega
   subst e
   have c:¬i<i:=by omega
   have b1:b<((List.replicate i.toNat (-1:Int)).length:Int):=by omega
   have b0:0<=b:=hb.1
   exact Ev.step (fun k=>by simp only[zaK.l0,if_neg c,if_pos b0,if_pos b1]<;>exact rfl) e1
  |succ d ih=>
   intro i i0 hi
   have c:i<n:=by omega
   have l:(List.replicate i.toNat (-1:Int)).length<17592186044416:=by simp;omega
   have w:wrap64 (i+1)=i+1:=w64 (by omega) (by omega)
   have:=ih (i+1) (by omega) (by omega)
   have e:List.replicate (i+1).toNat (-1:Int)=List.replicate i.toNat (-1)++[-1]:=by
    rw[show(i+1).toNat=i.toNat+1 by omega,List.replicate_succ']
   rw[e]at this
   exact Ev.step (fun k=>by simp only[zaK.l0,if_pos c,if_pos l,w]<;>exact rfl) this
 exact go n.toNat 0 (by omega) (by have:=hE.1;omega)
theorem zmO (n b v x:Int) (E:List S59) (f out:List Int) (d:Nat) (hf:(f.length:Int)=n) (h8:n<=8) (hv:0<=v/\v<n) (hd:rd f v=(d+1:Nat)) (hd8:d<=100) (ho:out.length<=1000):∀ (suf p:List Int),((p++suf).length:Int)<big->(∀y∈suf,0<=y/\y<n)->suf.find? (fun w=>decide (rd f w=d))=some x->
  ∀r,Ev (fun k=>zaL.l0 k b (out++[x]) f x n E) r->Ev (fun k=>zaL.l1 k b out f v (p++suf) (p.length:Int) n E) r:=by
 intro suf
 induction suf with
 |nil=>intro p _ _ h;simp at h
 |cons t suf ih=>
  intro p hb hs h r hr
  have hp:(p.length:Int)<big:=zch hb
  obtain⟨t0,t1⟩:=hs t (by simp)
  have t2:t<(f.length:Int):=by omega
  have v0:0<=v:=hv.1
  have v1:v<(f.length:Int):=by omega
  have w:wrap64 (rd f v - 1)=d:=by rw[hd];rw[w64 (by omega) (by omega)];omega
  have lo:out.length<17592186044416:=by omega
  rw[List.find?_cons]at h
  by_cases c:rd f t=d
  ·simp only[c,decide_true]at h
   injection h with h
   subst h
   exact Ev.step (fun k=>by simp only[zaL.l1,zbB,nn,if_true,zcd,if_pos t0,if_pos t2,if_pos v0,if_pos v1,w,if_pos c,if_pos lo]<;>exact rfl) hr
  ·simp only[c,decide_false]at h
   have:=ih (p++[t]) (by rw[←zbL];exact hb) (fun y hy=>hs y (by simp[hy])) h r hr
   rw[←zbL]at this
   exact Ev.step (fun k=>by simp only[zaL.l1,zbB,nn,if_true,zcd,if_pos t0,if_pos t2,if_pos v0,if_pos v1,w,if_neg c,zbZ (t:=t) hp]<;>exact rfl) this
theorem zmd (n b:Int) (E:List S59) (hE:ok n E) (f:List Int) (hf:(f.length:Int)=n) (F:Far n E b (rd f)):∀ (d:Nat) (v:Int) (out:List Int),d<=100->out.length+d<=1000->0<=v/\v<n->rd f v=(d:Int)->
  Ev (fun k=>zaL.l0 k b out f v n E) (out++(down n E (rd f) d v).tail,true):=by
 intro d
 induction d with
 |zero=>
  intro v out _ _ hv hd
  have e:v=b:=F.only v hv.1 hv.2 hd
  exact Ev.step (fun k=>by simp only[zaL.l0,if_pos e]<;>exact rfl) (Ev.val (by simp[down]))
 |succ d ih=>
  intro v out hd8 ho hv hd
  have c:v≠b:=fun e=>by rw[e,F.zero]at hd;omega
  obtain⟨x,ex,ht,hx,hr,_⟩:=F.step hE.2.2.1 hv hd
  refine Ev.step (fun k=>by simp only[zaL.l0,if_neg c]<;>exact rfl) ?_
  refine Ev.bind (zf1 n v E hE) ?_
  have nl:((next n E v).length:Int)<big:=by
   have:=List.length_filter_le (fun i=>decide (zbf v i∈E)) (zdm n)
   rw[zdO]at this
   have:=hE.2.1
   unfold next big
   omega
  refine zmO n b v x E f out d hf hE.2.1 hv hd (by omega) (by omega) (next n E v) [] (by simpa using nl) (fun y hy=>(zbY (hE.2.2.1 _ ((zdu hE.2.2.1).1 hy))).2.1) ex _ ?_
  have:=ih x (out++[x]) (by omega) (by simp;omega) hr hx
  obtain⟨r,e1,_⟩:=ze3 F hE.2.2.1 d x hr hx
  have e2:(down n E (rd f) (d+1) v).tail=x::r:=by
   rw[down,ex]
   exact e1
  rw[e1]at this
  rw[e2]
  simpa using this
end Go.Proofs.Ytgeonpciodepgaa.P
namespace Go.Proofs.Ytgeonpciodepgaa.G
theorem zeW:∀ (xs:List Int) (y a:Int),ties (xs++[y,a])=ties (xs++[y])++[zbf y a]
 |[],y,a=>rfl
 |[x],y,a=>rfl
 |x::z::r,y,a=>by
  have:=zeW (z::r) y a
  show zbf x z::ties (z::r++[y,a])=zbf x z::ties (z::r++[y])++[zbf y a]
  rw[this];rfl
def zha (ks:List Int) (v:Int):List Int:=if v∈ks then ks else ks++[v]
def zbQ (ks:List Int) (row:List Int):List Int:=row.foldl zha ks
theorem ze7 (ks:List Int) (v x:Int):x∈zha ks v↔x∈ks\/x=v:=by
 unfold zha;split
 ·rename_i h;exact⟨Or.inl,fun k=>k.elim id (fun e=>e▸h)⟩
 ·simp
theorem ziZ {ks:List Int}(v:Int) (h:ks.Nodup):(zha ks v).Nodup:=by
 unfold zha;split
 ·exact h
 ·rename_i k
  rw[List.nodup_append]
  exact⟨h,by simp,fun x hx y hy e=>by rw[List.mem_singleton]at hy;subst hy;subst e;exact k hx⟩
theorem zdP:∀ (row ks:List Int) (x:Int),x∈zbQ ks row↔x∈ks\/x∈row
 |[],ks,x=>by simp[zbQ]
 |v::r,ks,x=>by
  show x∈zbQ (zha ks v) r↔_
  rw[zdP r,ze7];simp[or_assoc]
theorem zeh:∀ (row:List Int) {ks:List Int},ks.Nodup->(zbQ ks row).Nodup
 |[],_,h=>h
 |v::r,_,h=>zeh r (ziZ v h)
theorem zgJ (ks p q:List Int):zbQ ks (p++q)=zbQ (zbQ ks p) q:=by unfold zbQ;rw[List.foldl_append]
theorem zd3:∀ (row ks:List Int),(zbQ ks row).length<=ks.length+row.length
 |[],ks=>by simp[zbQ]
 |v::r,ks=>by
  have h:=zd3 r (zha ks v)
  have:(zha ks v).length<=ks.length+1:=by unfold zha;split<;>simp
  show(zbQ (zha ks v) r).length<=_
  simp only[List.length_cons];omega
def zfa (row:List Int):List Int:=(row.drop 1).dropLast
def zgd (row:List Int):Int:=row.getD 0 0
def zdB (row:List Int):Int:=row.getLastD 0
structure zhY (n:Int) (E taken:List Tie) (ks:List Int) (first:Bool) (row:List Int):Prop where
 len:2<=row.length
 zdm:∀v∈row,0<=v/\v<n
 tied:∀t∈ties row,t∈E
 ring:first=true->zgd row=zdB row
 ends:first=false->zgd row∈ks/\zdB row∈ks
 long:zgd row=zdB row->4<=row.length
 mid:(zfa row).Nodup
 apart:∀v∈zfa row,v∉ks/\v≠zgd row
 new:∀t∈ties row,t∉taken
def zcE (n:Int) (E:List Tie):Bool->List Tie->List Int->List (List Int)->Prop
 |_,taken,ks,[]=>taken.length=E.length/\(ks.length:Int)=n
 |first,taken,ks,row::rest=>zhY n E taken ks first row/\zcE n E false (taken++ties row) (zbQ ks row) rest
theorem zit {n:Int}{E:List Tie}:∀ (rest:List (List Int)) (first:Bool) (taken:List Tie) (ks:List Int),zcE n E first taken ks rest->taken.length+rest.length<=E.length
 |[],_,_,_,h=>by have:=h.1;simp;omega
 |row::rest,first,taken,ks,h=>by
  have h1:=zit rest false _ _ h.2
  have h2:=h.1.len
  rw[List.length_append,zd4]at h1
  simp only[List.length_cons]
  omega
theorem zen {row:List Int}(h:2<=row.length):∃a m z,row=a::(m++[z]):=by
 cases row with
 |nil=>simp at h
 |cons a r=>
  have hr:r≠[]:=fun e=>by rw[e]at h;simp at h
  exact⟨a,r.dropLast,r.getLast hr,by rw[List.dropLast_concat_getLast]⟩
theorem zey (a:Int) (m:List Int) (z:Int):zgd (a::(m++[z]))=a:=rfl
theorem zdN (a:Int) (m:List Int) (z:Int):zdB (a::(m++[z]))=z:=by
 unfold zdB
 rw[show a::(m++[z])=(a::m)++[z] from rfl,List.getLastD_concat]
theorem zdV (a:Int) (m:List Int) (z:Int):zfa (a::(m++[z]))=m:=by
 unfold zfa
 simp
theorem zfG {t:Tie}:∀ (r:List Int),t∈ties r->t.f0∈r/\t.f1∈r
 |[],h=>by simp[ties]at h
 |[a],h=>by simp[ties]at h
 |a::b::r,h=>by
  simp only[ties,List.mem_cons]at h
  rcases h with rfl|h
  ·unfold zbf;split<;>simp
  ·have:=zfG (b::r) h
   exact⟨List.mem_cons_of_mem _ this.1,List.mem_cons_of_mem _ this.2⟩
theorem zib:∀ (p:List Int) (v w:Int) (s:List Int),ties (p++v::w::s)=ties (p++[v])++zbf v w::ties (w::s)
 |[],v,w,s=>by simp[ties]
 |[a],v,w,s=>by simp[ties]
 |a::b::r,v,w,s=>by
  have:=zib (b::r) v w s
  simp only[List.cons_append,ties]at this⊢
  rw[this]
theorem zil {a b c d:Int}(h:zbf a b=zbf c d):a=c/\b=d\/a=d/\b=c:=by
 unfold zbf at h
 split at h<;>split at h<;>simp only[Tie.mk.injEq]at h<;>omega
theorem zfo:∀ (r:List Int),r.Nodup->(ties r).Nodup
 |[],_=>by simp[ties]
 |[a],_=>by simp[ties]
 |a::b::r,h=>by
  rw[List.nodup_cons]at h
  simp only[ties,List.nodup_cons]
  refine⟨fun k=>?_,zfo (b::r) h.2⟩
  have:=zfG (b::r) k
  unfold zbf at this
  split at this
  ·exact h.1 this.1
  ·exact h.1 this.2
theorem zfR (a:Int) (m:List Int) (h:(a::m).Nodup) (hl:2<=m.length):(ties (a::m++[a])).Nodup:=by
 obtain⟨p,y,rfl⟩:∃p y,m=p++[y]:=⟨m.dropLast,m.getLast (fun e=>by rw[e]at hl;simp at hl),(List.dropLast_concat_getLast _).symm⟩
 have e:a::(p++[y])++[a]=(a::p)++[y,a]:=by simp
 rw[e,zeW,List.nodup_append]
 have hn:=zfo _ h
 refine⟨by simpa using hn,by simp,fun x hx z hz e2=>?_⟩
 rw[List.mem_singleton]at hz
 subst hz;subst e2
 cases p with
 |nil=>simp at hl
 |cons b q=>
  simp only[List.cons_append,ties,List.mem_cons]at hx
  simp only[List.cons_append,List.nodup_cons,List.mem_cons,List.mem_append,not_or]at h
  rcases hx with hx|hx
  ·rcases zil hx with⟨h1,h2⟩|⟨h1,h2⟩
   ·exact h.1.1 h2
   ·exact h.2.1.2.1 h1.symm
  ·have hm:=zfG (b::(q++[y])) (by simpa using hx)
   have ha:a∉b::(q++[y]):=by simp;exact⟨h.1.1,h.1.2.1,h.1.2.2.1⟩
   unfold zbf at hm
   split at hm
   ·exact ha hm.2
   ·exact ha hm.1
theorem zdI {n:Int}{E taken:List Tie}{ks:List Int}{first:Bool}{row:List Int}(hl:2<=row.length) (hlong:zgd row=zdB row->4<=row.length) (hm:(zfa row).Nodup) (ha:zgd row∉zfa row) (hz:zdB row∉zfa row):(ties row).Nodup:=by
 obtain⟨a,m,z,rfl⟩:=zen hl
 rw[zey]at hlong ha
 rw[zdN]at hlong hz
 rw[zdV]at hm ha hz
 by_cases c:a=z
 ·subst c
  have:=hlong rfl
  simp at this
  exact zfR a m (List.nodup_cons.2 ⟨ha,hm⟩) (by omega)
 ·refine zfo _ (List.nodup_cons.2 ⟨?_,?_⟩)
  ·simp;exact⟨ha,c⟩
  ·rw[List.nodup_append]
   exact⟨hm,by simp,fun x hx y hy e=>by rw[List.mem_singleton]at hy;subst hy;subst e;exact hz hx⟩
end Go.Proofs.Ytgeonpciodepgaa.G
namespace Go.Proofs.Ytgeonpciodepgaa.P
open Go.RowKit Go.Proofs.YtgeonpciodepgaaW.PrintWords Go.Proofs.Ytgeonpciodepgaa.G Go.Proofs.YtgeonpciodepgaaW.PrintWords.Kd
theorem zk2 (a:Int):∀ (suf p:List Int),((p++suf).length:Int)<big->a∉p->Ev (fun k=>zaM.l0 k (p++suf) a (p.length:Int)) (decide (a∈p++suf)):=by
 intro suf
 induction suf with
 |nil=>
  intro p hb hp
  refine Ev.step (fun k=>by simp only[zaM.l0,zcp,if_false]<;>exact rfl) (Ev.val ?_)
  rw[decide_eq_false (by simpa using hp)]
 |cons t suf ih=>
  intro p hb hp
  have hl:(p.length:Int)<big:=zch hb
  by_cases c:t=a
  ·refine Ev.step (fun k=>by simp only[zaM.l0,zbB,nn,if_true,zcd,if_pos c]<;>exact rfl) (Ev.val ?_)
   rw[decide_eq_true (by simp[c])]
  ·refine Ev.step (fun k=>by simp only[zaM.l0,zbB,nn,if_true,zcd,if_neg c,zbZ (t:=t) hl]<;>exact rfl) ?_
   rw[zbL p t suf]
   exact ih (p++[t]) (by rw[←zbL];exact hb) (fun q=>by
    rcases List.mem_append.1 q with q|q
    ·exact hp q
    ·exact c (List.mem_singleton.1 q).symm)
theorem zcn (S:List Int) (a:Int) (hb:(S.length:Int)<big):Ev (fun k=>zaM.f k S a) (decide (a∈S)):=by
 unfold zaM.f
 exact zk2 a S [] hb (by simp)
def scan (n:Int) (E taken:List Tie) (ks:List Int):List Int->List Int->Prop
 |_,[]=>True
 |pre,v::suf=>(0<=v/\v<n)/\(pre≠[]->suf≠[]->v∉ks/\v∉pre)/\(∀p u,pre=p++[u]->zbf u v∈E/\zbf u v∉taken)/\scan n E taken ks (pre++[v]) suf
theorem zkU (n:Int) (E taken:List S59) (ks p:List Int) (u v:Int) (suf:List Int) (b':Bool) (hb:(((p++[u])++v::suf).length:Int)<big)
  (h:Ev (fun k=>zae.l0 k taken ks ((p++[u])++v::suf) (((p++[u])++[v]).length:Int) n E) b'):∀ (rest q:List S59),taken=q++rest->(taken.length:Int)<big->
  Ev (fun k=>zae.l1 k taken ks ((p++[u])++v::suf) ((p++[u]).length:Int) (q.length:Int) n E) (!decide (zbf u v∈rest)&&b'):=by
 have hl:((p++[u]).length:Int)<big:=zch hb
 intro rest
 induction rest with
 |nil=>
  intro q e ht
  subst e
  refine Ev.step (fun k=>by simp only[zae.l1,zcp,if_false,zbZ (t:=v) hl]<;>exact rfl) (Ev.eq h (by simp))
 |cons t rest ih=>
  intro q e ht
  subst e
  have hq:(q.length:Int)<big:=zch ht
  have c1:0<=wrap64 (((p++[u]).length:Int) - 1):=by rw[zcb p u hl];exact nn _
  have c2:wrap64 (((p++[u]).length:Int) - 1)<(((p++[u])++v::suf).length:Int):=by rw[zcb p u hl];exact zgN p u (v::suf)
  have r1:rd ((p++[u])++v::suf) (wrap64 (((p++[u]).length:Int) - 1))=u:=by rw[zcb p u hl,zeF];exact zcd p u (v::suf)
  refine Ev.step (fun k=>by simp only[zae.l1,zbB,nn,if_true,if_pos c1,if_pos c2,r1,zcd,zd5,Option.bind_some,zff,zkn,decide_eq_true_eq,zbZ (t:=t) hq]<;>exact rfl) ?_
  by_cases c:t=zbf u v
  ·simp only[if_pos c]
   exact Ev.val (by simp[c])
  ·simp only[if_neg c]
   have:=ih (q++[t]) (by simp) (by simpa using ht)
   refine Ev.eq (by simpa using this) ?_
   have c':¬zbf u v=t:=fun e=>c e.symm
   simp[c']
theorem zkQ (n:Int) (E taken:List S59) (ks:List Int) (hok:ok n E) (ht:(taken.length:Int)<big) (hk:(ks.length:Int)<big):∀ (suf p:List Int),((p++suf).length:Int)<big->
  ∃b,Ev (fun k=>zae.l0 k taken ks (p++suf) (p.length:Int) n E) b/\(b=true↔scan n E taken ks p suf):=by
 have hE:(E.length:Int)<big:=by have:=zc2 hok;unfold big;omega
 intro suf
 induction suf with
 |nil=>
  intro p hb
  exact⟨true,Ev.step (fun k=>by simp only[zae.l0,zcp,if_false]<;>exact rfl) (Ev.val rfl),by simp[scan]⟩
 |cons v suf ih=>
  intro p hb
  have hl:(p.length:Int)<big:=zch hb
  have hs:wrap64 ((p.length:Int)+1)=((p++[v]).length:Int):=zbZ hl
  obtain⟨b1,e1,h1⟩:=ih (p++[v]) (zdJ hb)
  rw[←zbL]at e1
  -- behind the test of what is between the ends
  have J3:∃b,Ev (fun k=>zae.j3 k taken ks (p++v::suf) (p.length:Int) false n E) b/\(b=true↔(∀q u,p=q++[u]->zbf u v∈E/\zbf u v∉taken)/\scan n E taken ks (p++[v]) suf):=by
   rcases List.eq_nil_or_concat p with rfl|⟨q,u,rfl⟩
   ·refine⟨b1,Ev.step (fun k=>by simp only[zae.j3,Bool.false_eq_true,if_false,List.length_nil,Int.natCast_zero,if_true]<;>exact rfl) ?_,?_⟩
    ·have:=hs
     simp only[List.length_nil,Int.natCast_zero]at this
     rw[this];exact e1
    ·rw[h1]
     exact⟨fun x=>⟨fun q u e=>by simp at e,x⟩,fun x=>x.2⟩
   ·rw[List.concat_eq_append]at*
    have c0:¬ ((q++[u]).length:Int)=0:=by simp;omega
    have c1:0<=wrap64 (((q++[u]).length:Int) - 1):=by rw[zcb q u hl];exact nn _
    have c2:wrap64 (((q++[u]).length:Int) - 1)<(((q++[u])++v::suf).length:Int):=by rw[zcb q u hl];exact zgN q u (v::suf)
    have r1:rd ((q++[u])++v::suf) (wrap64 (((q++[u]).length:Int) - 1))=u:=by rw[zcb q u hl,zeF];exact zcd q u (v::suf)
    have L1:=zkU n E taken ks q u v suf b1 hb e1 taken [] rfl ht
    have base:∀k,zae.j3 (k+1) taken ks ((q++[u])++v::suf) ((q++[u]).length:Int) false n E=(zbU.f k n E u v).bind fun t=>if t=true then zae.l1 k taken ks ((q++[u])++v::suf) ((q++[u]).length:Int) 0 n E else some false:=fun k=>by
     simp only[zae.j3,Bool.false_eq_true,if_false,if_neg c0,if_pos c1,if_pos c2,nn,zbB,if_true,r1,zcd]
    by_cases c:zbf u v∈E
    ·refine⟨!decide (zbf u v∈taken)&&b1,Ev.step base (Ev.bind (zet n u v E hE) ?_),?_⟩
     ·rw[decide_eq_true (⟨hok,c⟩:ok n E/\zbf u v∈E)]
      exact L1
     ·simp only[Bool.and_eq_true,Bool.not_eq_true',decide_eq_false_iff_not,h1]
      constructor
      ·rintro⟨x,y⟩
       refine⟨fun q' u' e=>?_,y⟩
       obtain⟨rfl,e2⟩:=List.append_inj' e rfl
       injection e2 with e2
       subst e2
       exact⟨c,x⟩
      ·rintro⟨x,y⟩
       exact⟨(x q u rfl).2,y⟩
    ·refine⟨false,Ev.step base (Ev.bind (zet n u v E hE) ?_),?_⟩
     ·rw[decide_eq_false (fun h=>c h.2)]
      exact Ev.val rfl
     ·simp only[Bool.false_eq_true,false_iff]
      exact fun h=>c (h.1 q u rfl).1
  have J3t:Ev (fun k=>zae.j3 k taken ks (p++v::suf) (p.length:Int) true n E) false:=Ev.step (fun k=>by simp only[zae.j3,if_true]<;>exact rfl) (Ev.val rfl)
  obtain⟨b3,e3,h3⟩:=J3
  -- whether it is between the ends
  have J2:∀d:Bool,(d=true↔p≠[]/\suf≠[])->∃b,Ev (fun k=>zae.j2 k taken ks (p++v::suf) (p.length:Int) d n E) b/\(b=true↔scan n E taken ks p (v::suf)):=by
   intro d hd
   have base:∀k,zae.j2 (k+1) taken ks (p++v::suf) (p.length:Int) d n E=(za5.f k n E v).bind fun t=>(if t=true then(if d=true then((zaM.f k ks v).bind fun t2=>(if t2=true then(zae.j3 k taken ks (p++v::suf) (p.length:Int) true n E) else(if(p.length:Int)<=((p++v::suf).length:Int) then((zaM.f k ((p++v::suf).take ((p.length:Int)).toNat) v).bind fun t3=>(zae.j3 k taken ks (p++v::suf) (p.length:Int) t3 n E)) else(none)))) else(zae.j3 k taken ks (p++v::suf) (p.length:Int) false n E)) else(zae.j3 k taken ks (p++v::suf) (p.length:Int) true n E)):=fun k=>by
    simp only[zae.j2,nn,zbB,if_true,zcd]
   have cl:(p.length:Int)<=((p++v::suf).length:Int):=Int.le_of_lt (zbB p v suf)
   have et:(p++v::suf).take ((p.length:Int)).toNat=p:=by simp
   by_cases k1:0<=v/\v<n
   ·have K:=Ev.eq (zci n v E hE) (decide_eq_true (⟨hok,k1⟩:ok n E/\0<=v/\v<n))
    cases d with
    |false=>
     have hd':¬ (p≠[]/\suf≠[]):=fun x=>Bool.noConfusion (hd.2 x)
     refine⟨b3,Ev.step base (Ev.bind K (by simp only[if_true,Bool.false_eq_true,if_false];exact e3)),?_⟩
     rw[h3]
     simp only[scan]
     exact⟨fun x=>⟨k1,fun a b=>absurd ⟨a,b⟩ hd',x.1,x.2⟩,fun x=>⟨x.2.2.1,x.2.2.2⟩⟩
    |true=>
     have hd':=hd.1 rfl
     by_cases k2:v∈ks
     ·refine⟨false,Ev.step base (Ev.bind K ?_),?_⟩
      ·simp only[if_true]
       exact Ev.bind (Ev.eq (zcn ks v hk) (decide_eq_true k2)) (by simp only[if_true];exact J3t)
      ·simp only[scan,Bool.false_eq_true,false_iff]
       exact fun x=>(x.2.1 hd'.1 hd'.2).1 k2
     ·by_cases k3:v∈p
      ·refine⟨false,Ev.step base (Ev.bind K ?_),?_⟩
       ·simp only[if_true]
        refine Ev.bind (Ev.eq (zcn ks v hk) (decide_eq_false k2)) ?_
        simp only[Bool.false_eq_true,if_false,if_pos cl,et]
        exact Ev.bind (Ev.eq (zcn p v hl) (decide_eq_true k3)) J3t
       ·simp only[scan,Bool.false_eq_true,false_iff]
        exact fun x=>(x.2.1 hd'.1 hd'.2).2 k3
      ·refine⟨b3,Ev.step base (Ev.bind K ?_),?_⟩
       ·simp only[if_true]
        refine Ev.bind (Ev.eq (zcn ks v hk) (decide_eq_false k2)) ?_
        simp only[Bool.false_eq_true,if_false,if_pos cl,et]
        exact Ev.bind (Ev.eq (zcn p v hl) (decide_eq_false k3)) e3
       ·rw[h3]
        simp only[scan]
        exact⟨fun x=>⟨k1,fun _ _=>⟨k2,k3⟩,x.1,x.2⟩,fun x=>⟨x.2.2.1,x.2.2.2⟩⟩
   ·refine⟨false,Ev.step base (Ev.bind (Ev.eq (zci n v E hE) (decide_eq_false (fun x=>k1 x.2))) (by simp only[Bool.false_eq_true,if_false];exact J3t)),?_⟩
    simp only[scan,Bool.false_eq_true,false_iff]
    exact fun x=>k1 x.1
  by_cases cp:(p.length:Int)>0
  ·have cp':p≠[]:=fun e=>by rw[e]at cp;simp at cp
   obtain⟨b,e2,h2⟩:=J2 (decide (wrap64 ((p.length:Int)+1)<((p++v::suf).length:Int))) (by
    rw[hs,decide_eq_true_eq]
    constructor
    ·intro x;refine⟨cp',fun e=>?_⟩;subst e;simp at x
    ·rintro⟨_,x⟩
     have:0<suf.length:=List.length_pos_iff.2 x
     simp;omega)
   exact⟨b,Ev.step (fun k=>by simp only[zae.l0,zbB,if_true,if_pos cp]<;>exact rfl) e2,h2⟩
  ·have cp':p=[]:=List.eq_nil_of_length_eq_zero (by omega)
   obtain⟨b,e2,h2⟩:=J2 false (by simp[cp'])
   exact⟨b,Ev.step (fun k=>by simp only[zae.l0,zbB,if_true,if_neg cp]<;>exact rfl) e2,h2⟩
theorem ziL (n:Int) (E taken:List Tie) (ks:List Int) (z:Int):∀ (mid p:List Int) (u:Int),scan n E taken ks (p++[u]) (mid++[z])↔
  (∀v∈mid++[z],0<=v/\v<n)/\(∀t∈ties (u::(mid++[z])),t∈E/\t∉taken)/\(∀v∈mid,v∉ks/\v∉p++[u])/\mid.Nodup
 |[],p,u=>by
  simp only[List.nil_append,scan,List.mem_singleton,ties,forall_eq,List.not_mem_nil,false_implies,implies_true,List.nodup_nil,and_true,ne_eq,not_true_eq_false]
  constructor
  ·rintro⟨h1,_,h2⟩
   exact⟨h1,by simpa using h2 p u rfl⟩
  ·rintro⟨h1,h2⟩
   refine⟨h1,trivial,fun q u' e=>?_⟩
   obtain⟨rfl,e2⟩:=List.append_inj' e rfl
   injection e2 with e2
   subst e2
   simpa using h2
 |v::mid,p,u=>by
  have ih:=ziL n E taken ks z mid (p++[u]) v
  simp only[List.cons_append,scan,ih]
  constructor
  ·rintro⟨h1,h2,h3,h4,h5,h6,h7⟩
   have h2':=h2 (by simp) (by simp)
   refine⟨?_,?_,?_,?_⟩
   ·intro w hw
    rcases List.mem_cons.1 hw with rfl|hw
    ·exact h1
    ·exact h4 w hw
   ·intro t ht
    simp only[ties,List.mem_cons]at ht
    rcases ht with rfl|ht
    ·exact h3 p u rfl
    ·exact h5 t ht
   ·intro w hw
    rcases List.mem_cons.1 hw with rfl|hw
    ·exact h2'
    ·exact⟨(h6 w hw).1,fun k=>(h6 w hw).2 (List.mem_append_left _ k)⟩
   ·refine List.nodup_cons.2 ⟨fun k=>(h6 v k).2 (by simp),h7⟩
  ·rintro⟨h1,h2,h3,h4⟩
   rw[List.nodup_cons]at h4
   refine⟨h1 v (by simp),fun _ _=>h3 v (by simp),fun q u' e=>?_,fun w hw=>h1 w (List.mem_cons_of_mem _ hw),fun t ht=>h2 t (by simp only[ties,List.mem_cons];exact Or.inr ht),fun w hw=>⟨(h3 w (by simp[hw])).1,fun k=>?_⟩,h4.2⟩
   ·obtain⟨rfl,e2⟩:=List.append_inj' e rfl
    injection e2 with e2
    subst e2
    exact h2 _ (by simp[ties])
   ·rcases List.mem_append.1 k with k|k
    ·exact(h3 w (by simp[hw])).2 k
    ·rw[List.mem_singleton]at k
     subst k
     exact h4.1 hw
theorem zlp (n:Int) (E taken:List Tie) (ks:List Int) (a:Int) (m:List Int) (z:Int):scan n E taken ks [] (a::(m++[z]))↔
  (∀v∈a::(m++[z]),0<=v/\v<n)/\(∀t∈ties (a::(m++[z])),t∈E/\t∉taken)/\(∀v∈m,v∉ks/\v≠a)/\m.Nodup:=by
 have h:=ziL n E taken ks z m [] a
 simp only[List.nil_append]at h
 simp only[scan,List.nil_append,h]
 constructor
 ·rintro⟨h1,_,_,h2,h3,h4,h5⟩
  exact⟨fun v hv=>(List.mem_cons.1 hv).elim (fun e=>e▸h1) (h2 v),h3,fun v hv=>⟨(h4 v hv).1,fun e=>(h4 v hv).2 (by simp[e])⟩,h5⟩
 ·rintro⟨h1,h2,h3,h4⟩
  exact⟨h1 a (by simp),fun h=>absurd rfl h,fun p u e=>by simp at e,fun v hv=>h1 v (List.mem_cons_of_mem _ hv),h2,fun v hv=>⟨(h3 v hv).1,fun k=>(h3 v hv).2 (List.mem_singleton.1 k)⟩,h4⟩
theorem zpm (row:List Int):rd row 0=zgd row:=rfl
theorem zjz {row:List Int}(h:0<row.length) (hb:(row.length:Int)<big):rd row (wrap64 ((row.length:Int) - 1))=zdB row/\0<=wrap64 ((row.length:Int) - 1)/\wrap64 ((row.length:Int) - 1)<(row.length:Int):=by
 rcases List.eq_nil_or_concat row with rfl|⟨q,u,rfl⟩
 ·simp at h
 ·rw[List.concat_eq_append]at*
  have hl:((q++[u]).length:Int)<big:=hb
  rw[zcb q u hl]
  refine⟨?_,nn _,by simp;omega⟩
  have:=zcd q u []
  unfold zdB
  rw[List.getLastD_concat]
  exact this
theorem zi0 (row:List Int) (h:0<row.length) (hb:(row.length:Int)<big):zbD.f row=some (zgd row !=zdB row):=by
 obtain⟨h1,h2,h3⟩:=zjz h hb
 have c:(row.length:Int)>0:=by omega
 have c':0<(row.length:Int):=by omega
 unfold zbD.f
 rw[if_pos c,if_pos c',if_pos h2,if_pos h3,h1]
 rfl
theorem zkw (n:Int) (E taken:List S59) (ks row:List Int) (first:Bool) (hok:ok n E) (ht:(taken.length:Int)<big) (hk:(ks.length:Int)<big) (hb:(row.length:Int)<big):
  ∃b,Ev (fun k=>zae.f k n E taken ks row first) b/\(b=true↔zhY n E taken ks first row):=by
 have F:Ev (fun k=>zae.j0 k taken ks row true n E) false:=Ev.step (fun k=>by simp only[zae.j0,if_true]<;>exact rfl) (Ev.val rfl)
 unfold zae.f
 by_cases c:(row.length:Int)<2
 ·simp only[if_pos c]
  exact⟨false,F,by simp only[Bool.false_eq_true,false_iff];intro h;have:=h.len;omega⟩
 ·have hl:2<=row.length:=by omega
  have h0:0<row.length:=by omega
  obtain⟨b0,e0,hs⟩:=zkQ n E taken ks hok ht hk row [] (by simpa using hb)
  simp only[List.nil_append,List.length_nil,Int.natCast_zero]at e0
  have G:Ev (fun k=>zae.j0 k taken ks row false n E) b0:=Ev.step (fun k=>by simp only[zae.j0,Bool.false_eq_true,if_false]<;>exact rfl) e0
  obtain⟨r1,r2,r3⟩:=zjz h0 hb
  have hp:0<(row.length:Int):=by omega
  have op:=zi0 row h0 hb
  have main:b0=true↔(∀v∈row,0<=v/\v<n)/\(∀t∈ties row,t∈E/\t∉taken)/\(∀v∈zfa row,v∉ks/\v≠zgd row)/\(zfa row).Nodup:=by
   rw[hs]
   obtain⟨a,m,z,rfl⟩:=zen hl
   rw[zdV,zey]
   exact zlp n E taken ks a m z
  simp only[if_neg c]
  -- the test of the ends
  have ends:∀good:Prop,∀ (x:Bool),(x=false↔good)->(∀b:Bool,(b=true↔good/\b0=true)->Ev (fun k=>zae.j0 k taken ks row x n E) b):=by
   intro good x hx b hb'
   cases x with
   |true=>
    have:¬good:=fun g=>Bool.noConfusion (hx.2 g)
    have e:b=false:=Bool.eq_false_iff.2 (fun e=>this (hb'.1 e).1)
    rw[e];exact F
   |false=>
    have g:=hx.1 rfl
    have e:b=b0:=by
     cases b0
     ·exact Bool.eq_false_iff.2 (fun e=>Bool.noConfusion (hb'.1 e).2)
     ·exact hb'.2 ⟨g,rfl⟩
    rw[e];exact G
  cases first with
  |true=>
   simp only[if_true]
   by_cases o:zgd row=zdB row
   ·have ob:(zgd row !=zdB row)=false:=by simp[o]
    refine⟨decide (4<=row.length)&&b0,?_,?_⟩
    ·refine Ev.const op ?_
     simp only[ob,Bool.false_eq_true,if_false]
     by_cases l4:(row.length:Int)<4
     ·simp only[if_pos l4]
      refine Ev.eq F ?_
      rw[decide_eq_false (by omega)];rfl
     ·simp only[if_neg l4]
      refine Ev.const op ?_
      simp only[ob,Bool.false_eq_true,if_false]
      refine ends True _ (by simp[l4]) _ ?_
      simp;omega
    ·rw[Bool.and_eq_true,main,decide_eq_true_eq]
     constructor
     ·rintro⟨l4,h1,h2,h3,h4⟩
      exact⟨hl,h1,fun t h=>(h2 t h).1,fun _=>o,fun h=>Bool.noConfusion h,fun _=>l4,h4,h3,fun t h=>(h2 t h).2⟩
     ·intro h
      exact⟨h.long o,h.zdm,fun t k=>⟨h.tied t k,h.new t k⟩,h.apart,h.mid⟩
   ·have ob:(zgd row !=zdB row)=true:=by simp[o]
    refine⟨false,?_,?_⟩
    ·refine Ev.const op ?_
     simp only[ob,if_true]
     exact F
    ·simp only[Bool.false_eq_true,false_iff]
     exact fun h=>o (h.ring rfl)
  |false=>
   simp only[Bool.false_eq_true,if_false,if_pos hp,if_pos r2,if_pos r3,r1,zpm]
   by_cases k1:zgd row∈ks
   ·by_cases k2:zdB row∈ks
    ·refine⟨decide (zgd row=zdB row->4<=row.length)&&b0,?_,?_⟩
     ·refine Ev.bind (Ev.eq (zcn ks _ hk) (decide_eq_true k1)) ?_
      simp only[if_true]
      refine Ev.bind (Ev.eq (zcn ks _ hk) (decide_eq_true k2)) ?_
      simp only[if_true]
      refine Ev.const op ?_
      by_cases o:zgd row=zdB row
      ·have ob:(zgd row !=zdB row)=false:=by simp[o]
       simp only[ob,Bool.false_eq_true,if_false]
       exact ends (4<=row.length) _ (by rw[decide_eq_false_iff_not];omega) _ (by rw[Bool.and_eq_true,decide_eq_true_eq];exact⟨fun h=>⟨h.1 o,h.2⟩,fun h=>⟨fun _=>h.1,h.2⟩⟩)
      ·have ob:(zgd row !=zdB row)=true:=by simp[o]
       simp only[ob,if_true]
       exact ends True _ (by simp) _ (by rw[Bool.and_eq_true,decide_eq_true_eq];exact⟨fun h=>⟨trivial,h.2⟩,fun h=>⟨fun e=>absurd e o,h.2⟩⟩)
     ·rw[Bool.and_eq_true,main,decide_eq_true_eq]
      constructor
      ·rintro⟨l4,h1,h2,h3,h4⟩
       exact⟨hl,h1,fun t h=>(h2 t h).1,fun h=>Bool.noConfusion h,fun _=>⟨k1,k2⟩,l4,h4,h3,fun t h=>(h2 t h).2⟩
      ·intro h
       exact⟨h.long,h.zdm,fun t k=>⟨h.tied t k,h.new t k⟩,h.apart,h.mid⟩
    ·refine⟨false,?_,?_⟩
     ·refine Ev.bind (Ev.eq (zcn ks _ hk) (decide_eq_true k1)) ?_
      simp only[if_true]
      refine Ev.bind (Ev.eq (zcn ks _ hk) (decide_eq_false k2)) ?_
      simp only[Bool.false_eq_true,if_false]
      exact F
     ·simp only[Bool.false_eq_true,false_iff]
      exact fun h=>k2 (h.ends rfl).2
   ·refine⟨false,?_,?_⟩
    ·refine Ev.bind (Ev.eq (zcn ks _ hk) (decide_eq_false k1)) ?_
     simp only[Bool.false_eq_true,if_false]
     exact F
    ·simp only[Bool.false_eq_true,false_iff]
     exact fun h=>k1 (h.ends rfl).1
theorem zcZ (pre:List (List Int)) (t:List Int) (suf:List (List Int)):zax (pre++t::suf) (pre.length:Int)=t:=by
 unfold zax
 exact zdY pre t suf _
def tot:List (List Int)->Nat
 |[]=>0
 |r::rs=>r.length+tot rs
theorem zew (ks p:List Int) (v:Int):zbQ ks (p++[v])=if v∈zbQ ks p then zbQ ks p else zbQ ks p++[v]:=by rw[zgJ];rfl
theorem zgY (q:List Int) (u v:Int):ties (q++[u])++[zbf u v]=ties ((q++[u])++[v]):=by
 rw[show(q++[u])++[v]=q++[u,v] by simp,zeW]
theorem zm2 (n:Int) (E T:List S59) (pe se:List (List Int)) (row ks:List Int) (b:Bool) (hpe:((pe++row::se).length:Int)<big) (hT:T.length+row.length<4000000) (hk:ks.length+row.length<4000000)
  (h:Ev (fun k=>zaD.l0 k (pe++row::se) (T++ties row) (zbQ ks row) ((pe++[row]).length:Int) n E) b):∀ (suf p:List Int),row=p++suf->
  Ev (fun k=>zaD.l1 k (pe++row::se) (T++ties p) (zbQ ks p) (pe.length:Int) (p.length:Int) n E) b:=by
 have hpl:(pe.length:Int)<big:=zch hpe
 intro suf
 induction suf with
 |nil=>
  intro p e
  rw[List.append_nil]at e
  subst e
  have c:¬ (row.length:Int)<(row.length:Int):=by omega
  exact Ev.step (fun k=>by simp only[zaD.l1,nn,zbB,if_true,zcZ,if_neg c,zbZ (t:=row) hpl]<;>exact rfl) h
 |cons v suf ih=>
  intro p e
  have c1:(p.length:Int)<(row.length:Int):=by rw[e];exact zbB p v suf
  have rv:rd row (p.length:Int)=v:=by rw[e];exact zcd p v suf
  have hpb:(p.length:Int)<big:=by unfold big;omega
  have hs:wrap64 ((p.length:Int)+1)=((p++[v]).length:Int):=zbZ hpb
  have nxt:=ih (p++[v]) (by rw[e];simp)
  have hl:=zd3 p ks
  have hkb:((zbQ ks p).length:Int)<big:=by unfold big;omega
  have hk8:(zbQ ks p).length<17592186044416:=by omega
  rcases List.eq_nil_or_concat p with rfl|⟨q,u,rfl⟩
  ·have c0:¬ (([]:List Int).length:Int)>0:=by simp
   have et:T++ties []=T++ties ([]++[v]):=by simp[ties]
   refine Ev.step (fun k=>by simp only[zaD.l1,nn,zbB,if_true,zcZ,if_pos c1,if_neg c0,rv,hs]<;>exact rfl) (Ev.bind (zcn _ v hkb) ?_)
   by_cases m:v∈zbQ ks []
   ·rw[decide_eq_true m]
    simp only[if_true]
    rw[zew,if_pos m]at nxt
    rw[et]
    exact nxt
   ·rw[decide_eq_false m]
    simp only[Bool.false_eq_true,if_false,if_pos hk8]
    rw[zew,if_neg m]at nxt
    rw[et]
    exact nxt
  ·rw[List.concat_eq_append]at*
   have c0:((q++[u]).length:Int)>0:=by simp
   have c2:0<=wrap64 (((q++[u]).length:Int) - 1):=by rw[zcb q u hpb];exact nn _
   have c3:wrap64 (((q++[u]).length:Int) - 1)<(row.length:Int):=by rw[zcb q u hpb];simp at c1;omega
   have ru:rd row (wrap64 (((q++[u]).length:Int) - 1))=u:=by rw[zcb q u hpb,e,zeF];exact zcd q u (v::suf)
   have h5:(T++ties (q++[u])).length<8796093022208:=by rw[List.length_append,zd4];omega
   have et:(T++ties (q++[u]))++[(⟨(zbf u v).f0,(zbf u v).f1⟩:S59)]=T++ties ((q++[u])++[v]):=by rw[List.append_assoc,←zgY]
   refine Ev.step (fun k=>by simp only[zaD.l1,nn,zbB,if_true,zcZ,if_pos c1,if_pos c0,if_pos c2,if_pos c3,ru,rv,hs,zd5,Option.bind_some,if_pos h5,et]<;>exact rfl) (Ev.bind (zcn _ v hkb) ?_)
   by_cases m:v∈zbQ ks (q++[u])
   ·rw[decide_eq_true m]
    simp only[if_true]
    rw[zew,if_pos m]at nxt
    exact nxt
   ·rw[decide_eq_false m]
    simp only[Bool.false_eq_true,if_false,if_pos hk8]
    rw[zew,if_neg m]at nxt
    exact nxt
theorem zl4 (n:Int) (E:List S59) (hok:ok n E):∀ (se pe:List (List Int)) (T:List S59) (ks:List Int),((pe++se).length:Int)<big->T.length+tot se<4000000->ks.length+tot se<4000000->
  ∃b,Ev (fun k=>zaD.l0 k (pe++se) T ks (pe.length:Int) n E) b/\(b=true↔zcE n E ((pe.length:Int)==0) T ks se):=by
 intro se
 induction se with
 |nil=>
  intro pe T ks hb hT hk
  by_cases c:(T.length:Int)=(E.length:Int)
  ·refine⟨(ks.length:Int)==n,Ev.step (fun k=>by simp only[zaD.l0,zcp,if_false,if_pos c]<;>exact rfl) (Ev.val rfl),?_⟩
   simp only[zcE,beq_iff_eq]
   exact⟨fun h=>⟨by omega,h⟩,fun h=>h.2⟩
  ·refine⟨false,Ev.step (fun k=>by simp only[zaD.l0,zcp,if_false,if_neg c]<;>exact rfl) (Ev.val rfl),?_⟩
   simp only[zcE,Bool.false_eq_true,false_iff]
   exact fun h=>c (by omega)
 |cons row se ih=>
  intro pe T ks hb hT hk
  simp only[tot]at hT hk
  obtain⟨b1,e1,h1⟩:=zkw n E T ks row ((pe.length:Int)==0) hok (by unfold big;omega) (by unfold big;omega) (by unfold big;omega)
  have base:∀k,zaD.l0 (k+1) (pe++row::se) T ks (pe.length:Int) n E=(zae.f k n E T ks row ((pe.length:Int)==0)).bind fun t=>if t=true then zaD.l1 k (pe++row::se) T ks (pe.length:Int) 0 n E else some false:=fun k=>by
   simp only[zaD.l0,zbB,nn,if_true,zcZ]
  cases b1 with
  |false=>
   refine⟨false,Ev.step base (Ev.bind e1 (by simp only[Bool.false_eq_true,if_false];exact Ev.val rfl)),?_⟩
   simp only[zcE,Bool.false_eq_true,false_iff]
   exact fun h=>Bool.noConfusion (h1.2 h.1)
  |true=>
   have hl:=zd3 row ks
   obtain⟨b2,e2,h2⟩:=ih (pe++[row]) (T++ties row) (zbQ ks row) (by simpa using hb) (by rw[List.length_append,zd4];omega) (by omega)
   rw[show(pe++[row])++se=pe++row::se by simp]at e2
   have f:((((pe++[row]).length:Nat):Int)==0)=false:=by rw[beq_eq_false_iff_ne];simp;omega
   rw[f]at h2
   have L:=zm2 n E T pe se row ks b2 hb (by omega) (by omega) e2 row [] rfl
   refine⟨b2,Ev.step base (Ev.bind e1 ?_),?_⟩
   ·simp only[if_true]
    simpa [ties,zbQ] using L
   ·simp only[zcE,h2]
    exact⟨fun h=>⟨h1.1 rfl,h⟩,fun h=>h.2⟩
def zjW (n:Int) (E:List Tie) (ears:List (List Int)):Prop:=ok n E/\ears≠[]/\zcE n E true [] [] ears
theorem zhD (n:Int) (E:List S59) (ears:List (List Int)) (hE:(E.length:Int)<big) (hb:(ears.length:Int)<big) (hT:tot ears<4000000):
  ∃b,Ev (fun k=>zaD.f k n E ears) b/\(b=true↔zjW n E ears):=by
 have F:Ev (fun k=>zaD.j0 k ears true n E) false:=Ev.step (fun k=>by simp only[zaD.j0,if_true]<;>exact rfl) (Ev.val rfl)
 unfold zaD.f
 by_cases c:ok n E
 ·have K:=Ev.eq (zfz n E hE) (decide_eq_true c)
  by_cases c1:(ears.length:Int)<1
  ·refine⟨false,Ev.bind K (by simp only[if_true,if_pos c1];exact F),?_⟩
   simp only[Bool.false_eq_true,false_iff]
   exact fun h=>h.2.1 (List.eq_nil_of_length_eq_zero (by omega))
  ·obtain⟨b,e,h⟩:=zl4 n E c ears [] [] [] (by simpa using hb) (by simpa using hT) (by simpa using hT)
   simp only[List.nil_append,List.length_nil,Int.natCast_zero,beq_self_eq_true]at e h
   have ne:ears≠[]:=fun x=>c1 (by rw[x];simp)
   by_cases c2:(ears.length:Int)> (E.length:Int)
   ·refine⟨false,Ev.bind K (by simp only[if_true,if_neg c1,decide_eq_true c2];exact F),?_⟩
    simp only[Bool.false_eq_true,false_iff]
    intro x
    have:=zit _ _ _ _ x.2.2
    simp at this
    omega
   ·refine⟨b,Ev.bind K ?_,?_⟩
    ·simp only[if_true,if_neg c1,decide_eq_false c2]
     exact Ev.step (fun k=>by simp only[zaD.j0,Bool.false_eq_true,if_false]<;>exact rfl) e
    ·rw[h]
     exact⟨fun x=>⟨c,ne,x⟩,fun x=>x.2.2⟩
 ·refine⟨false,Ev.bind (Ev.eq (zfz n E hE) (decide_eq_false c)) (by simp only[Bool.false_eq_true,if_false];exact F),?_⟩
  simp only[Bool.false_eq_true,false_iff]
  exact fun x=>c x.1
def begins (x:Int) (b:List Int):Prop:=b.length<=9/\(b≠[]->∃r,b=x::r)
def zfM (E:List Tie) (a:Int) (r:List Int×Bool):Prop:=r.1.length<=10/\(r.2=true->∃x s,r.1=a::x::s/\zbf a x∈E)
theorem zjR (n a b:Int) (E:List S59) (hl:(E.length:Int)<big):∃w,Ev (fun k=>zaL.f k n E a b) w/\(w.2=true->begins a w.1):=by
 have no:Ev (fun k=>zaL.j0 k a b [] true n E) ([],false):=Ev.step (fun k=>by simp only[zaL.j0,if_true]<;>exact rfl) (Ev.val rfl)
 unfold zaL.f
 simp only[Option.bind_some]
 have ka:=zci n a E hl
 have kb:=zci n b E hl
 by_cases ca:ok n E/\0<=a/\a<n
 ·rw[decide_eq_true ca]at ka
  by_cases cc:ok n E/\0<=b/\b<n
  ·rw[decide_eq_true cc]at kb
   obtain⟨f,f1,f2,f3,F⟩:=znx n E b ca.1 cc.2
   have a0:0<=a:=ca.2.1
   have a1:a<(f.length:Int):=by omega
   have fa:=f3 a ca.2.1 ca.2.2
   have h8:=ca.1.2.1
   by_cases c:rd f a<0
   ·refine⟨([],false),Ev.bind ka ?_,by simp⟩
    simp only[if_true]
    refine Ev.bind kb (Ev.step (fun k=>by simp only[zaL.j0,Bool.not_true,Bool.false_eq_true,if_false]<;>exact rfl) (Ev.bind f1 ?_))
    simp only[if_pos a0,if_pos a1,if_pos c]
    exact Ev.val rfl
   ·have hw:=zmd n b E ca.1 f f2 F (rd f a).toNat a [a] (by omega) (by simp;omega) ca.2 (by omega)
    obtain⟨r,e1,e2,_⟩:=ze3 F ca.1.2.2.1 (rd f a).toNat a ca.2 (by omega)
    rw[e1]at hw
    refine⟨([a]++(a::r).tail,true),Ev.bind ka ?_,?_⟩
    ·simp only[if_true]
     refine Ev.bind kb (Ev.step (fun k=>by simp only[zaL.j0,Bool.not_true,Bool.false_eq_true,if_false]<;>exact rfl) (Ev.bind f1 ?_))
     simp only[if_pos a0,if_pos a1,if_neg c,List.nil_append,List.length_nil,Nat.reduceLT,if_true]
     exact hw
    ·intro _
     exact⟨by simp;omega,fun _=>⟨r,by simp⟩⟩
  ·rw[decide_eq_false cc]at kb
   refine⟨([],false),Ev.bind ka ?_,by simp⟩
   simp only[if_true]
   exact Ev.bind kb no
 ·rw[decide_eq_false ca]at ka
  refine⟨([],false),Ev.bind ka ?_,by simp⟩
  simp only[Bool.false_eq_true,if_false]
  exact no
theorem zm4 (n a x:Int) (E C:List S59) (ks:List Int) (i:Int) (best:List Int) (hk:ks.length<=1000) (hb:begins x best)
  (next:∀b,begins x b->∃r,Ev (fun k=>zaU.l0 k ks a x b (wrap64 (i+1)) n E n C) r/\zfM E a r):∀ (suf p:List Int) (m:Int) (F:List S59),p++suf=ks->ok m F->
  ∃r,Ev (fun k=>zaU.l1 k ks a x best i (p.length:Int) n E n C m F) r/\zfM E a r:=by
 intro suf
 induction suf with
 |nil=>
  intro p m F e hF
  rw[List.append_nil]at e
  subst e
  have c:¬ (p.length:Int)<(p.length:Int):=by omega
  have hl:=zc2 hF
  obtain⟨w,wf,wb⟩:=zjR m x i F (by unfold big;omega)
  obtain⟨r0,g1,g2⟩:=next best hb
  by_cases t:w.2=true
  ·have hbw:=wb t
   obtain⟨r1,h1,h2⟩:=next w.1 hbw
   by_cases z:(best.length:Int)=0
   ·refine⟨r1,Ev.step (fun k=>by simp only[zaU.l1,if_neg c]<;>exact rfl) (Ev.bind wf ?_),h2⟩
    simp only[if_pos t,if_pos z];exact h1
   ·by_cases y:(w.1.length:Int)<(best.length:Int)
    ·refine⟨r1,Ev.step (fun k=>by simp only[zaU.l1,if_neg c]<;>exact rfl) (Ev.bind wf ?_),h2⟩
     simp only[if_pos t,if_neg z,if_pos y];exact h1
    ·refine⟨r0,Ev.step (fun k=>by simp only[zaU.l1,if_neg c]<;>exact rfl) (Ev.bind wf ?_),g2⟩
     simp only[if_pos t,if_neg z,if_neg y];exact g1
  ·refine⟨r0,Ev.step (fun k=>by simp only[zaU.l1,if_neg c]<;>exact rfl) (Ev.bind wf ?_),g2⟩
   simp only[if_neg t];exact g1
 |cons v suf ih=>
  intro p m F e hF
  have c:(p.length:Int)<(ks.length:Int):=by rw[←e];exact zbB p v suf
  have w:wrap64 ((p.length:Int)+1)=((p++[v]).length:Int):=zbZ (by unfold big;omega)
  by_cases q:rd ks (p.length:Int)=i
  ·obtain⟨r,h1,h2⟩:=ih (p++[v]) m F (by rw[←e];simp) hF
   exact⟨r,Ev.step (fun k=>by simp only[zaU.l1,if_pos c,nn,if_true,if_pos q,w]<;>exact rfl) h1,h2⟩
  ·obtain⟨m',F',f1,f2⟩:=zhs m (rd ks (p.length:Int)) F hF
   obtain⟨r,h1,h2⟩:=ih (p++[v]) m' F' (by rw[←e];simp) f2
   exact⟨r,Ev.step (fun k=>by simp only[zaU.l1,if_pos c,nn,if_true,if_neg q,w]<;>exact rfl) (Ev.bind f1 h1),h2⟩
theorem zm_ (n a x:Int) (E C:List S59) (hE:ok n E) (ks:List Int) (hk:ks.length<=1000) (hC:ok n C) (ht:zbf a x∈E):∀ (d:Nat) (i:Int) (best:List Int),0<=i->i+d=n->begins x best->
  ∃r,Ev (fun k=>zaU.l0 k ks a x best i n E n C) r/\zfM E a r:=by
 intro d
 induction d with
 |zero=>
  intro i best h0 h hb
  have c:¬i<n:=by omega
  by_cases z:(best.length:Int)=0
  ·exact⟨([],false),Ev.step (fun k=>by simp only[zaU.l0,if_neg c,if_pos z]<;>exact rfl) (Ev.val rfl),by simp[zfM]⟩
  ·obtain⟨s,hs⟩:=hb.2 (fun e=>z (by rw[e];rfl))
   have hl:=hb.1
   have g:([a]:List Int).length+best.length<17592186044416:=by simp;omega
   refine⟨(a::best,true),Ev.step (fun k=>by simp only[zaU.l0,if_neg c,if_neg z,Option.bind_some,if_pos g]<;>exact rfl) (Ev.val rfl),?_,fun _=>⟨x,s,by rw[hs],ht⟩⟩
   simp;omega
 |succ d ih=>
  intro i best h0 h hb
  have c:i<n:=by omega
  have h8:=hE.2.1
  have w:wrap64 (i+1)=i+1:=w64 (by omega) (by omega)
  have hh:=zcn ks i (by unfold big;omega)
  have nxt:∀b,begins x b->∃r,Ev (fun k=>zaU.l0 k ks a x b (wrap64 (i+1)) n E n C) r/\zfM E a r:=fun b hb=>by rw[w];exact ih (i+1) b (by omega) (by omega) hb
  by_cases q:i∈ks
  ·rw[decide_eq_true q]at hh
   obtain⟨r,h1,h2⟩:=zm4 n a x E C ks i best hk hb nxt ks [] n C rfl hC
   exact⟨r,Ev.step (fun k=>by simp only[zaU.l0,if_pos c]<;>exact rfl) (Ev.bind hh (by simp only[if_true];exact h1)),h2⟩
  ·rw[decide_eq_false q]at hh
   obtain⟨r,h1,h2⟩:=nxt best hb
   exact⟨r,Ev.step (fun k=>by simp only[zaU.l0,if_pos c]<;>exact rfl) (Ev.bind hh (by simp only[Bool.false_eq_true,if_false];exact h1)),h2⟩
theorem zj1 (n a:Int) (E:List S59) (hE:ok n E) (ks:List Int) (hk:ks.length<=1000):∃r,Ev (fun k=>zaU.f k n E ks a) r/\zfM E a r:=by
 have hl:=zc2 hE
 unfold zaU.f
 have hn:=zf1 n a E hE
 cases e:next n E a with
 |nil=>
  rw[e]at hn
  exact⟨([],false),Ev.bind hn (by simp only[List.length_nil,Int.natCast_zero,if_true];exact Ev.val rfl),by simp[zfM]⟩
 |cons x s=>
  rw[e]at hn
  have ht:zbf a x∈E:=(zdu hE.2.2.1).1 (by rw[e];simp)
  have c0:¬ ((x::s).length:Int)=0:=by simp only[List.length_cons];omega
  have c1:0<((x::s).length:Int):=by simp only[List.length_cons];omega
  have r0:rd (x::s) 0=x:=rfl
  have hh:=zcn ks x (by unfold big;omega)
  by_cases q:x∈ks
  ·rw[decide_eq_true q]at hh
   refine⟨([a,x],true),Ev.bind hn ?_,by simp,fun _=>⟨x,[],rfl,ht⟩⟩
   simp only[if_neg c0,if_pos c1,r0]
   exact Ev.bind hh (by simp only[if_true];exact Ev.val rfl)
  ·rw[decide_eq_false q]at hh
   obtain⟨r,h1,h2⟩:=zm_ n a x E (cut E (zbf a x)) hE ks hk (zhK _ hE) ht n.toNat 0 [] (Int.le_refl _) (by have:=hE.1;omega) ⟨by simp,by simp⟩
   refine⟨r,Ev.bind hn ?_,h2⟩
   simp only[if_neg c0,if_pos c1,r0]
   refine Ev.bind hh ?_
   simp only[Bool.false_eq_true,if_false]
   have hc:=zdS n a x E (by omega)
   rw[if_pos ⟨hE,ht⟩]at hc
   exact Ev.bind hc h1
theorem zkY (n:Int) (T:List S59) (hT:(T.length:Int)<=1000):∀ (suf p:List S59) (X:List S59),p++suf=T->ok n X->∃F,Ev (fun k=>za8.l0 k T (p.length:Int) n X) (n,F)/\F.Sublist X:=by
 intro suf
 induction suf with
 |nil=>
  intro p X e hX
  rw[List.append_nil]at e
  subst e
  have c:¬ (p.length:Int)<(p.length:Int):=by omega
  exact⟨X,Ev.step (fun k=>by simp only[za8.l0,if_neg c]<;>exact rfl) (Ev.val rfl),List.Sublist.refl _⟩
 |cons t suf ih=>
  intro p X e hX
  have hl:=zc2 hX
  have c:(p.length:Int)<(T.length:Int):=by rw[←e];exact zbB p t suf
  have w:wrap64 ((p.length:Int)+1)=((p++[t]).length:Int):=zbZ (by unfold big;omega)
  obtain⟨a,ha⟩:∃a,a=(zac T (p.length:Int)).f0:=⟨_,rfl⟩
  obtain⟨b,hb⟩:∃b,b=(zac T (p.length:Int)).f1:=⟨_,rfl⟩
  have hc:=zdS n a b X (by omega)
  by_cases q:ok n X/\zbf a b∈X
  ·rw[if_pos q]at hc
   obtain⟨F,h1,h2⟩:=ih (p++[t]) (cut X (zbf a b)) (by rw[←e];simp) (zhK _ hX)
   refine⟨F,Ev.step (fun k=>by simp only[za8.l0,if_pos c,nn,if_true,w,←ha,←hb]<;>exact rfl) (Ev.bind hc (by simp only[if_true];exact h1)),h2.trans List.filter_sublist⟩
  ·rw[if_neg q]at hc
   obtain⟨F,h1,h2⟩:=ih (p++[t]) X (by rw[←e];simp) hX
   exact⟨F,Ev.step (fun k=>by simp only[za8.l0,if_pos c,nn,if_true,w,←ha,←hb]<;>exact rfl) (Ev.bind hc (by simp only[Bool.false_eq_true,if_false];exact h1)),h2⟩
theorem zi6 {n:Int}{t:Tie}(h:inr n t):zbf t.f0 t.f1=t:=by
 have:=h.2.1
 unfold zbf
 split
 ·rfl
 ·exact absurd this (by omega)
theorem ziS (n:Int) (E:List S59) (hE:ok n E) (t:Tie) (ht:t∈E) (T:List S59) (hT:(T.length:Int)<=900):∃F,Ev (fun k=>za8.f k n E (t::T)) (n,F)/\ok n F/\F.length<E.length:=by
 have hl:=zc2 hE
 have ts:=zi6 (hE.2.2.1 t ht)
 have hc:=zdS n t.f0 t.f1 E (by omega)
 rw[ts,if_pos ⟨hE,ht⟩]at hc
 obtain⟨F,h1,h2⟩:=zkY n (t::T) (by simp;omega) T [t] (cut E t) rfl (zhK _ hE)
 have cl:=zmr (zhy hE.2.2.2) t
 rw[if_pos ht]at cl
 have hle:=h2.length_le
 refine⟨F,?_,zgF (zhK t hE) h2,by omega⟩
 unfold za8.f
 rw[zhR n E (by omega)]
 simp only[Option.bind_some]
 have c:(0:Int)<((t::T).length:Int):=by simp only[List.length_cons];omega
 have r0:zac (t::T) 0=t:=rfl
 have w:wrap64 ((0:Int)+1)=(([t]:List S59).length:Int):=by rw[w64 (by omega) (by omega)];rfl
 exact Ev.step (fun k=>by simp only[za8.l0,if_pos c,Int.le_refl,if_true,r0,w]<;>exact rfl) (Ev.bind hc (by simp only[if_true];exact h1))
def few (r:List (List Int)×Bool):Prop:=r.1.length<=64/\∀x∈r.1,2<=x.length/\x.length<=10
theorem zln (n:Int) (E X:List S59) (out:List (List Int)) (ear:List Int) (he:ear.length<=10) (m:Nat) (hm:m<=900)
  (next:∀ks:List Int,ks.length<=m->∃r,Ev (fun k=>(za8.f k n X (ties ear)).bind fun bt=>if out.length<5864062014805 then zaq.l0 k (out++[ear]) ks n E bt.1 bt.2 else none) r/\few r):
  ∀ (suf p:List Int) (ks:List Int),p++suf=ear->ks.length+suf.length<=m->∃r,Ev (fun k=>zaq.l2 k out ks ear (ties p) (p.length:Int) n E n X) r/\few r:=by
 intro suf
 induction suf with
 |nil=>
  intro p ks e hk
  rw[List.append_nil]at e
  subst e
  have c:¬ (p.length:Int)<(p.length:Int):=by omega
  obtain⟨r,h1,h2⟩:=next ks (by simpa using hk)
  exact⟨r,Ev.step (fun k=>by simp only[zaq.l2,if_neg c]<;>exact rfl) h1,h2⟩
 |cons v suf ih=>
  intro p ks e hk
  simp only[List.length_cons]at hk
  have c1:(p.length:Int)<(ear.length:Int):=by rw[←e];exact zbB p v suf
  have rv:rd ear (p.length:Int)=v:=by rw[←e];exact zcd p v suf
  have hpb:(p.length:Int)<big:=by unfold big;omega
  have hs:wrap64 ((p.length:Int)+1)=((p++[v]).length:Int):=zbZ hpb
  have hh:=zcn ks v (by unfold big;omega)
  have hk8:ks.length<17592186044416:=by omega
  have e':(p++[v])++suf=ear:=by rw[←e];simp
  rcases List.eq_nil_or_concat p with rfl|⟨q,u,rfl⟩
  ·have c0:¬ (([]:List Int).length:Int)>0:=by simp
   have et:ties ([]:List Int)=ties ([]++[v]):=by simp[ties]
   by_cases m:v∈ks
   ·rw[decide_eq_true m]at hh
    obtain⟨r,h1,h2⟩:=ih ([]++[v]) ks e' (by omega)
    refine⟨r,Ev.step (fun k=>by simp only[zaq.l2,if_pos c1,if_neg c0,nn,if_true,rv,hs]<;>exact rfl) (Ev.bind hh ?_),h2⟩
    simp only[if_true];rw[et];exact h1
   ·rw[decide_eq_false m]at hh
    obtain⟨r,h1,h2⟩:=ih ([]++[v]) (ks++[v]) e' (by simp;omega)
    refine⟨r,Ev.step (fun k=>by simp only[zaq.l2,if_pos c1,if_neg c0,nn,if_true,rv,hs]<;>exact rfl) (Ev.bind hh ?_),h2⟩
    simp only[Bool.false_eq_true,if_false,if_pos hk8];rw[et];exact h1
  ·rw[List.concat_eq_append]at*
   have c0:((q++[u]).length:Int)>0:=by simp
   have c2:0<=wrap64 (((q++[u]).length:Int) - 1):=by rw[zcb q u hpb];exact nn _
   have c3:wrap64 (((q++[u]).length:Int) - 1)<(ear.length:Int):=by rw[zcb q u hpb];simp at c1;omega
   have ru:rd ear (wrap64 (((q++[u]).length:Int) - 1))=u:=by rw[zcb q u hpb,←e,zeF];exact zcd q u (v::suf)
   have h5:(ties (q++[u])).length<8796093022208:=by rw[zd4];omega
   have et:ties (q++[u])++[(⟨(zbf u v).f0,(zbf u v).f1⟩:S59)]=ties ((q++[u])++[v]):=by rw[←zgY]
   by_cases m:v∈ks
   ·rw[decide_eq_true m]at hh
    obtain⟨r,h1,h2⟩:=ih ((q++[u])++[v]) ks e' (by omega)
    refine⟨r,Ev.step (fun k=>by simp only[zaq.l2,if_pos c1,if_pos c0,if_pos c2,if_pos c3,nn,if_true,ru,rv,hs,zd5,Option.bind_some,if_pos h5,et]<;>exact rfl) (Ev.bind hh ?_),h2⟩
    simp only[if_true];exact h1
   ·rw[decide_eq_false m]at hh
    obtain⟨r,h1,h2⟩:=ih ((q++[u])++[v]) (ks++[v]) e' (by simp;omega)
    refine⟨r,Ev.step (fun k=>by simp only[zaq.l2,if_pos c1,if_pos c0,if_pos c2,if_pos c3,nn,if_true,ru,rv,hs,zd5,Option.bind_some,if_pos h5,et]<;>exact rfl) (Ev.bind hh ?_),h2⟩
    simp only[Bool.false_eq_true,if_false,if_pos hk8];exact h1
theorem zkz (n:Int) (E X:List S59) (hX:ok n X) (out:List (List Int)) (ks:List Int) (hk:ks.length<=900) (next:∀at_:Int,∃r,Ev (fun k=>zaq.j3 k out ks at_ n E n X) r/\few r):∀ (d:Nat) (i:Int),0<=i->i+d=n->
  ∃r,Ev (fun k=>zaq.l1 k out ks i n E n X) r/\few r:=by
 have h8:=hX.2.1
 intro d
 induction d with
 |zero=>
  intro i h0 h
  have c:¬i<n:=by omega
  obtain⟨r,h1,h2⟩:=next i
  exact⟨r,Ev.step (fun k=>by simp only[zaq.l1,if_neg c]<;>exact rfl) h1,h2⟩
 |succ d ih=>
  intro i h0 h
  have c:i<n:=by omega
  have w:wrap64 (i+1)=i+1:=w64 (by omega) (by omega)
  have hh:=zcn ks i (by unfold big;omega)
  obtain⟨r,h1,h2⟩:=ih (i+1) (by omega) (by omega)
  by_cases q:i∈ks
  ·rw[decide_eq_true q]at hh
   have ha:=zkv n i X hX
   obtain⟨b,hb⟩:∃b,b=(((G.next n X i).length:Int)==0):=⟨_,rfl⟩
   rw[←hb]at ha
   cases b with
   |true=>exact⟨r,Ev.step (fun k=>by simp only[zaq.l1,if_pos c]<;>exact rfl) (Ev.bind hh (by simp only[if_true];exact Ev.bind ha (by simp only[if_true,w];exact h1))),h2⟩
   |false=>
    obtain⟨r',g1,g2⟩:=next i
    exact⟨r',Ev.step (fun k=>by simp only[zaq.l1,if_pos c]<;>exact rfl) (Ev.bind hh (by simp only[if_true];exact Ev.bind ha (by simp only[Bool.false_eq_true,if_false];exact g1))),g2⟩
  ·rw[decide_eq_false q]at hh
   exact⟨r,Ev.step (fun k=>by simp only[zaq.l1,if_pos c]<;>exact rfl) (Ev.bind hh (by simp only[Bool.false_eq_true,if_false,w];exact h1)),h2⟩
theorem zlm (n:Int) (E:List S59):∀ (m:Nat) (X:List S59) (ks:List Int) (out:List (List Int)),X.length<=m->ok n X->ks.length+10*m<=800->out.length+m<=64->(∀x∈out,2<=x.length/\x.length<=10)->
  ∃r,Ev (fun k=>zaq.l0 k out ks n E n X) r/\few r:=by
 intro m
 induction m with
 |zero=>
  intro X ks out hm hX hk ho hr
  have c:¬ (X.length:Int)>0:=by omega
  exact⟨(out,true),Ev.step (fun k=>by simp only[zaq.l0,if_neg c]<;>exact rfl) (Ev.val rfl),by simpa using ho,hr⟩
 |succ m ih=>
  intro X ks out hm hX hk ho hr
  by_cases c:(X.length:Int)>0
  ·have nxt:∀at_:Int,∃r,Ev (fun k=>zaq.j3 k out ks at_ n E n X) r/\few r:=by
    intro at_
    obtain⟨⟨ear,t⟩,f1,f2,f3⟩:=zj1 n at_ X hX ks (by omega)
    cases t with
    |false=>exact⟨([],false),Ev.step (fun k=>by simp only[zaq.j3]<;>exact rfl) (Ev.bind f1 (by simp only[Bool.false_eq_true,if_false];exact Ev.val rfl)),by simp[few]⟩
    |true=>
     obtain⟨x,s,e,ht⟩:=f3 rfl
     simp only at e f2
     obtain⟨F,g1,g2,g3⟩:=ziS n X hX (zbf at_ x) ht (ties (x::s)) (by rw[zd4];rw[e]at f2;simp only[List.length_cons]at*;omega)
     have te:ties ear=zbf at_ x::ties (x::s):=by rw[e];rfl
     rw[←te]at g1
     have o5:out.length<5864062014805:=by omega
     obtain⟨r,h1,h2⟩:=zln n E X out ear f2 (ks.length+10) (by omega) (fun ks' hk'=>by
      obtain⟨r,h1,h2⟩:=ih F ks' (out++[ear]) (by omega) g2 (by omega) (by simp;omega) (fun y hy=>by
       rcases List.mem_append.1 hy with hy|hy
       ·exact hr y hy
       ·rw[List.mem_singleton]at hy;rw[hy];exact⟨by rw[e];simp,f2⟩)
      exact⟨r,Ev.bind g1 (by simp only[if_pos o5];exact h1),h2⟩) ear [] ks rfl (by omega)
     exact⟨r,Ev.step (fun k=>by simp only[zaq.j3]<;>exact rfl) (Ev.bind f1 (by simp only[if_true];exact h1)),h2⟩
   obtain⟨r,h1,h2⟩:=zkz n E X hX out ks (by omega) nxt n.toNat 0 (Int.le_refl _) (by have:=hX.1;omega)
   exact⟨r,Ev.step (fun k=>by simp only[zaq.l0,if_pos c]<;>exact rfl) h1,h2⟩
  ·exact⟨(out,true),Ev.step (fun k=>by simp only[zaq.l0,if_neg c]<;>exact rfl) (Ev.val rfl),by simp only;omega,hr⟩
theorem ziY (n:Int) (E:List S59) (hb:(E.length:Int)<big):∃r,Ev (fun k=>zaq.f k n E) r/\few r:=by
 have no:Ev (fun k=>zaq.j0 k [] true n E) ([],false):=Ev.step (fun k=>by simp only[zaq.j0,if_true]<;>exact rfl) (Ev.val rfl)
 have fw:few ([],false):=by simp[few]
 unfold zaq.f
 simp only[Option.bind_some]
 have hk:=zfz n E hb
 by_cases c:ok n E
 ·rw[decide_eq_true c]at hk
  have hl:=zc2 c
  by_cases d:n<3
  ·exact⟨_,Ev.bind hk (by simp only[if_true,if_pos d];exact no),fw⟩
  ·obtain⟨w,hw⟩:=zeG n E c
   by_cases e:w=1
   ·obtain⟨L,hL⟩:=zhp n E c
    obtain⟨b,hb'⟩:∃b,b=decide ((L.length:Int)>0):=⟨_,rfl⟩
    cases b with
    |true=>exact⟨_,Ev.bind hk (by simp only[if_true,if_neg d];exact Ev.bind hw (by simp only[if_pos e];exact Ev.bind hL (by rw[←hb'];exact no))),fw⟩
    |false=>
     obtain⟨r,h1,h2⟩:=zlm n E E.length E [0] [] (Nat.le_refl _) c (by simp;omega) (by simp;omega) (by simp)
     refine⟨r,Ev.bind hk (by simp only[if_true,if_neg d];exact Ev.bind hw (by simp only[if_pos e];exact Ev.bind hL (by rw[←hb'];exact Ev.step (fun k=>by simp only[zaq.j0,Bool.false_eq_true,if_false,zhR n E (by omega),Option.bind_some]<;>exact rfl) h1))),h2⟩
   ·exact⟨_,Ev.bind hk (by simp only[if_true,if_neg d];exact Ev.bind hw (by simp only[if_neg e];exact no)),fw⟩
 ·rw[decide_eq_false c]at hk
  exact⟨_,Ev.bind hk (by simp only[Bool.false_eq_true,if_false];exact no),fw⟩
theorem zl_ (s:List Int) (hs:zhB s) (hl:s.length<=2000):∀ (d:Nat) (p n:Int) (E:List S59),d<=20->0<=p->p<=50000 - 2*d->0<=n->n<=8->E.length+d<=55->
  ∃r,Ev (fun k=>zar.l2 k (d:Int) s p n E) r/\zca (-1) 9 60 (100+2*d) p r:=by
 intro d
 induction d with
 |zero=>
  intro p n E hd h0 h1 n0 n1 hE
  have c:¬ (0:Int)>0:=by omega
  obtain⟨v,v1,v2,v3⟩:=zcc s hs hl p 8 h0 (by omega)
  by_cases z:v=0
  ·obtain⟨⟨m,F,q⟩,r1,r2⟩:=znR s hs hl (p+1) (by omega) (by omega)
   refine⟨(m,F,q),Ev.step (fun k=>by simp only[zar.l2,Int.natCast_zero,if_neg c]<;>exact rfl) (Ev.bind v1 ?_),by unfold zca at*;omega⟩
   simp only[if_pos z]
   exact Ev.bind r1 (Ev.val rfl)
  ·refine⟨(n,E,p+1),Ev.step (fun k=>by simp only[zar.l2,Int.natCast_zero,if_neg c]<;>exact rfl) (Ev.bind v1 ?_),by simp[zca];omega⟩
   simp only[if_neg z]
   exact Ev.val rfl
 |succ d ih=>
  intro p n E hd h0 h1 n0 n1 hE
  have c:((d+1:Nat):Int)>0:=by omega
  have w:wrap64 (((d+1:Nat):Int) - 1)=(d:Int):=by rw[w64 (by omega) (by omega)];omega
  obtain⟨v,v1,_⟩:=zcc s hs hl p n h0 (by omega)
  obtain⟨u,u1,_⟩:=zcc s hs hl (p+1) n (by omega) (by omega)
  obtain⟨m',F,t,a1,a2,a3⟩:=zf_ n v u E (by omega)
  cases t with
  |true=>
   obtain⟨r,r1,r2⟩:=ih (p+1+1) m' F (by omega) (by omega) (by omega) (by omega) (by omega) (by omega)
   refine⟨r,Ev.step (fun k=>by simp only[zar.l2,if_pos c,w]<;>exact rfl) (Ev.bind v1 (Ev.bind u1 (Ev.bind a1 ?_))),by unfold zca at*;omega⟩
   simp only[if_true];exact r1
  |false=>
   obtain⟨r,r1,r2⟩:=ih (p+1+1) n E (by omega) (by omega) (by omega) (by omega) (by omega) (by omega)
   refine⟨r,Ev.step (fun k=>by simp only[zar.l2,if_pos c,w]<;>exact rfl) (Ev.bind v1 (Ev.bind u1 (Ev.bind a1 ?_))),by unfold zca at*;omega⟩
   simp only[Bool.false_eq_true,if_false];exact r1
theorem zmE (s:List Int) (hs:zhB s) (hl:s.length<=2000):∀ (d:Nat) (i p n:Int) (E:List S59),i+d=9->1<=i->0<=p->p<=40000 - 2*d->0<=n->n<=8->(E.length:Int)<=2*i->
  ∃r,Ev (fun k=>zar.l1 k i s p n E) r/\zca (-1) 9 60 (120+2*d) p r:=by
 have done:∀ (i p n:Int) (E:List S59),¬i<n->i<=9->0<=p->p<=40000->0<=n->n<=8->(E.length:Int)<=2*i->∃r,Ev (fun k=>zar.l1 k i s p n E) r/\zca (-1) 9 60 120 p r:=by
  intro i p n E c i9 h0 h1 n0 n1 hE
  obtain⟨v,v1,v2,v3⟩:=zcc s hs hl p 5 h0 (by omega)
  obtain⟨r,r1,r2⟩:=zl_ s hs hl v.toNat (p+1) n E (by omega) (by omega) (by omega) n0 n1 (by omega)
  rw[Int.toNat_of_nonneg v2]at r1
  exact⟨r,Ev.step (fun k=>by simp only[zar.l1,if_neg c]<;>exact rfl) (Ev.bind v1 r1),by unfold zca at*;omega⟩
 intro d
 induction d with
 |zero=>
  intro i p n E hi i1 h0 h1 n0 n1 hE
  obtain⟨r,r1,r2⟩:=done i p n E (by omega) (by omega) h0 (by omega) n0 n1 hE
  exact⟨r,r1,by unfold zca at*;omega⟩
 |succ d ih=>
  intro i p n E hi i1 h0 h1 n0 n1 hE
  by_cases c:i<n
  ·obtain⟨v,v1,v2,v3⟩:=zcc s hs hl p i h0 (by omega)
   obtain⟨m',F,t,a1,a2,a3⟩:=zf_ n i v E (by omega)
   obtain⟨u,u1,u2,u3⟩:=zcc s hs hl (p+1) (wrap64 (i - 1)) (by omega) (by omega)
   have i0:¬i=0:=by omega
   obtain⟨m2,F2,t2,b1,b2,b3⟩:=zf_ m' i (Int.tmod (wrap64 ((wrap64 (v+1))+u)) i) F (by omega)
   have w:wrap64 (i+1)=i+1:=w64 (by omega) (by omega)
   obtain⟨r,r1,r2⟩:=ih (i+1) (p+1+1) m2 F2 (by omega) (by omega) (by omega) (by omega) (by omega) (by omega) (by omega)
   refine⟨r,Ev.step (fun k=>by simp only[zar.l1,if_pos c]<;>exact rfl) (Ev.bind v1 (Ev.bind a1 (Ev.bind u1 ?_))),by unfold zca at*;omega⟩
   simp only[if_neg i0,w]
   exact Ev.bind b1 r1
  ·obtain⟨r,r1,r2⟩:=done i p n E c (by omega) h0 (by omega) n0 n1 hE
   exact⟨r,r1,by unfold zca at*;omega⟩
theorem zmL (s:List Int) (hs:zhB s) (hl:s.length<=2000) (m:Int) (m1:1<=m) (m8:m<=8) (p:Int) (h0:0<=p) (h1:p<=30000):∀ (d:Nat) (i n:Int) (E:List S59),i+d=m->0<=i->0<=n->n<=8->(E.length:Int)<=i->
  ∃r,Ev (fun k=>zar.l0 k m i s p n E) r/\zca (-1) 9 60 150 p r:=by
 intro d
 induction d with
 |zero=>
  intro i n E hi i0 n0 n1 hE
  have c:¬i<m:=by omega
  obtain⟨r,r1,r2⟩:=zmE s hs hl (9 - m).toNat m p n E (by omega) m1 h0 (by omega) n0 n1 (by omega)
  exact⟨r,Ev.step (fun k=>by simp only[zar.l0,if_neg c]<;>exact rfl) r1,by unfold zca at*;omega⟩
 |succ d ih=>
  intro i n E hi i0 n0 n1 hE
  have c:i<m:=by omega
  have mz:¬m=0:=by omega
  have w:wrap64 (i+1)=i+1:=w64 (by omega) (by omega)
  obtain⟨m',F,t,a1,a2,a3⟩:=zf_ n i (Int.tmod (i+1) m) E (by omega)
  obtain⟨r,r1,r2⟩:=ih (i+1) m' F (by omega) (by omega) (by omega) (by omega) (by omega)
  exact⟨r,Ev.step (fun k=>by simp only[zar.l0,if_pos c,if_neg mz,w]<;>exact rfl) (Ev.bind a1 r1),r2⟩
theorem zmy (s:List Int) (hs:zhB s) (hl:s.length<=2000) (p:Int) (h0:0<=p) (h1:p<=20000):∃r,Ev (fun k=>zar.f k s p) r/\zca (-1) 9 60 160 p r:=by
 obtain⟨v,v1,v2,v3⟩:=zcc s hs hl p 6 h0 (by omega)
 have w1:wrap64 (3+v)=3+v:=w64 (by omega) (by omega)
 have w2:wrap64 ((3+v) - 2)=3+v - 2:=w64 (by omega) (by omega)
 obtain⟨u,u1,u2,u3⟩:=zcc s hs hl (p+1) (3+v - 2) (by omega) (by omega)
 have w3:wrap64 (3+u)=3+u:=w64 (by omega) (by omega)
 obtain⟨r,r1,r2⟩:=zmL s hs hl (3+u) (by omega) (by omega) (p+1+1) (by omega) (by omega) (3+u).toNat 0 (3+v) [] (by omega) (Int.le_refl _) (by omega) (by omega) (by simp)
 refine⟨r,?_,by unfold zca at*;omega⟩
 unfold zar.f
 refine Ev.bind v1 ?_
 simp only[w1,w2]
 refine Ev.bind u1 ?_
 simp only[w3]
 exact r1
def short (r:List (List Int)):Prop:=r.length<=70/\∀x∈r,x.length<=12
theorem zfC {r:List (List Int)}(h:short r) (i:Int):(zax r i).length<=12:=by
 unfold zax
 rw[List.getD_eq_getElem?_getD]
 cases e:r[i.toNat]? with
 |none=>simp
 |some x=>exact h.2 x (List.mem_of_getElem? e)
theorem zf8 {r:List (List Int)}(h:short r) (i:Nat) {x:List Int}(hx:x.length<=12):short (r.set i x):=
 ⟨by rw[List.length_set];exact h.1,fun y hy=>(List.mem_or_eq_of_mem_set hy).elim (fun q=>h.2 y q) (fun q=>by rw[q];exact hx)⟩
theorem zjb (s:List Int) (q n:Int) (E:List S59) (r:List (List Int)) (hr:short r) (i:Int) (h0:0<=i) (h1:i<(r.length:Int)):∀ (d:Nat) (x:List Int),d<=(zax r i).length->x.length+d<=12->
  ∃z,Ev (fun k=>za0.l0 k r i x ((d:Int) - 1) s q n E) (n,E,z,q)/\short z:=by
 intro d
 induction d with
 |zero=>
  intro x hd hx
  have c:¬ ((0:Nat):Int) - 1>=0:=by omega
  exact⟨_,Ev.step (fun k=>by simp only[za0.l0,if_neg c,if_pos h0,if_pos h1]<;>exact rfl) (Ev.val rfl),zf8 hr _ (by omega)⟩
 |succ d ih=>
  intro x hd hx
  have hl:=zfC hr i
  have c:((d+1:Nat):Int) - 1>=0:=by omega
  have c2:0<=((d+1:Nat):Int) - 1:=by omega
  have c3:((d+1:Nat):Int) - 1<((zax r i).length:Int):=by omega
  have x8:x.length<17592186044416:=by omega
  have w:wrap64 (((d+1:Nat):Int) - 1 - 1)=(d:Int) - 1:=by rw[w64 (by omega) (by omega)];omega
  obtain⟨z,h2,h3⟩:=ih (x++[rd (zax r i) (((d+1:Nat):Int) - 1)]) (by omega) (by simp;omega)
  exact⟨z,Ev.step (fun k=>by simp only[za0.l0,if_pos c,if_pos h0,if_pos h1,if_pos c2,if_pos c3,if_pos x8,w]<;>exact rfl) h2,h3⟩
theorem zkg {r:List (List Int)×Bool}(h:few r):short r.1:=⟨by have:=h.1;omega,fun x hx=>by have:=h.2 x hx;omega⟩
theorem zix {r:List (List Int)}{b:Bool}(h:few (r,b)) {i:Int}(h0:0<=i) (h1:i<(r.length:Int)):2<=(zax r i).length:=by
 unfold zax
 rw[List.getD_eq_getElem?_getD,List.getElem?_eq_getElem (by omega)]
 exact(h.2 _ (List.getElem_mem _)).1
theorem zmK (s:List Int) (hs:zhB s) (hl:s.length<=2000) (p:Int) (h0:0<=p) (h1:p<=20000):∃n E r q,Ev (fun k=>za0.f k s p) (n,E,r,q)/\E.length<=60/\short r:=by
 obtain⟨⟨n,E,q⟩,r1,r2⟩:=zmy s hs hl p h0 h1
 simp only[zca]at r2
 obtain⟨⟨r,b⟩,e1,e2⟩:=ziY n E (by unfold big;omega)
 have hr:=zkg e2
 simp only at hr
 have hr70:=hr.1
 have h60:E.length<=60:=by omega
 unfold za0.f
 by_cases c:(r.length:Int)=0
 ·exact⟨n,E,[[0,1,2,0]],q,Ev.bind r1 (Ev.bind e1 (by simp only[if_pos c];exact Ev.val rfl)),h60,by simp[short]⟩
 obtain⟨i,i1,i2,i3⟩:=zcc s hs hl q (r.length:Int) (by omega) (by omega)
 obtain⟨v,v1,v2,v3⟩:=zcc s hs hl (q+1) 8 (by omega) (by omega)
 have ir:i<(r.length:Int):=by omega
 have ile:i<=(r.length:Int):=by omega
 have o5:r.length<5864062014805:=by omega
 have core:∀ (g:Nat->Option (Int×List S59×List (List Int)×Int)) (z:List (List Int)) (q':Int),Ev g (n,E,z,q')->short z->∃n' E' z' q'',Ev g (n',E',z',q'')/\E'.length<=60/\short z':=fun g z q' hg hz=>⟨n,E,z,q',hg,h60,hz⟩
 by_cases v0:v=0
 ·have a1:([]:List (List Int)).length+(r.take i.toNat).length<5864062014805:=by simp;omega
  have w:wrap64 (i+1)=i+1:=w64 (by omega) (by omega)
  have a2:0<=i+1:=by omega
  have a3:i+1<=(r.length:Int):=by omega
  have a4:([]++r.take i.toNat:List (List Int)).length+(r.drop (i+1).toNat).length<5864062014805:=by simp;omega
  refine core _ ([]++r.take i.toNat++r.drop (i+1).toNat) (q+1+1) (Ev.bind r1 (Ev.bind e1 ?_)) ⟨by simp;omega,fun x hx=>?_⟩
  ·simp only[if_neg c]
   refine Ev.bind i1 (Ev.bind v1 ?_)
   simp only[if_pos v0,if_pos i2,if_pos ile,Option.bind_some,if_pos a1,w,if_pos a2,if_pos a3,if_pos a4]
   exact Ev.val rfl
  ·rcases List.mem_append.1 hx with hx|hx
   ·exact hr.2 x (List.mem_of_mem_take (by simpa using hx))
   ·exact hr.2 x (List.mem_of_mem_drop hx)
 by_cases v1':v=1
 ·by_cases g:1<=((zax r i).length:Int)
  ·refine core _ (r.set i.toNat ((zax r i).drop 1)) (q+1+1) (Ev.bind r1 (Ev.bind e1 ?_)) (zf8 hr _ (by have:=zfC hr i;rw[List.length_drop];omega))
   simp only[if_neg c]
   refine Ev.bind i1 (Ev.bind v1 ?_)
   simp only[if_neg v0,if_pos v1',if_pos i2,if_pos ir,if_pos g]
   exact Ev.val rfl
  ·exact absurd (by have:=zix e2 i2 ir;omega) g
 by_cases v2':v=2
 ·refine core _ (r++[[0,1]]) (q+1+1) (Ev.bind r1 (Ev.bind e1 ?_)) ⟨by have:=e2.1;simp at*;omega,fun x hx=>?_⟩
  ·simp only[if_neg c]
   refine Ev.bind i1 (Ev.bind v1 ?_)
   simp only[if_neg v0,if_neg v1',if_pos v2',if_pos o5]
   exact Ev.val rfl
  ·rcases List.mem_append.1 hx with hx|hx
   ·exact hr.2 x hx
   ·rw[List.mem_singleton]at hx;subst hx;decide
 by_cases v3':v=3
 ·obtain⟨j,j1,j2,j3⟩:=zcc s hs hl (q+1+1) ((zax r i).length:Int) (by omega) (by omega)
  obtain⟨u,u1,u2,u3⟩:=zcc s hs hl (q+1+1+1) 9 (by omega) (by omega)
  by_cases g:j<((zax r i).length:Int)
  ·refine core _ (r.set i.toNat ((zax r i).set j.toNat u)) (q+1+1+1+1) (Ev.bind r1 (Ev.bind e1 ?_)) (zf8 hr _ (by rw[List.length_set];exact zfC hr i))
   simp only[if_neg c]
   refine Ev.bind i1 (Ev.bind v1 ?_)
   simp only[if_neg v0,if_neg v1',if_neg v2',if_pos v3',if_pos i2,if_pos ir]
   refine Ev.bind j1 (Ev.bind u1 ?_)
   simp only[if_pos j2,if_pos g]
   exact Ev.val rfl
  ·exact absurd (by have:=zix e2 i2 ir;omega) g
 by_cases v4':v=4
 ·have hln:=zfC hr i
  have w:wrap64 (((zax r i).length:Int) - 1)=((zax r i).length:Int) - 1:=w64 (by omega) (by omega)
  obtain⟨z,z1,z2⟩:=zjb s (q+1+1) n E r hr i i2 ir (zax r i).length [] (Nat.le_refl _) (by simp;omega)
  refine core _ z (q+1+1) (Ev.bind r1 (Ev.bind e1 ?_)) z2
  simp only[if_neg c]
  refine Ev.bind i1 (Ev.bind v1 ?_)
  simp only[if_neg v0,if_neg v1',if_neg v2',if_neg v3',if_pos v4',if_pos i2,if_pos ir,w]
  exact z1
 ·refine core _ r (q+1+1) (Ev.bind r1 (Ev.bind e1 ?_)) hr
  simp only[if_neg c]
  refine Ev.bind i1 (Ev.bind v1 ?_)
  simp only[if_neg v0,if_neg v1',if_neg v2',if_neg v3',if_neg v4']
  exact Ev.val rfl
theorem zfQ:∀ {r:List (List Int)}(h:∀x∈r,x.length<=12),tot r<=12*r.length
 |[],_=>by simp[tot]
 |x::r,h=>by
  have h1:=h x List.mem_cons_self
  have h2:=zfQ (r:=r) (fun y hy=>h y (List.mem_cons_of_mem _ hy))
  simp only[tot,List.length_cons]
  omega
theorem zhH (l:List Int) (h:zhB l):∃n E r,Ev (fun k=>zcm.f k l) (n,E,r)/\E.length<=60/\short r:=by
 obtain⟨s,o1,o2,o3⟩:=zna l h
 obtain⟨n,E,r,q,r1,r2,r3⟩:=zmK s o2 o3 0 (by omega) (by omega)
 refine⟨n,E,r,?_,r2,r3⟩
 unfold zcm.f
 simp only[o1,Option.bind_some]
 exact Ev.bind r1 (Ev.val rfl)
def zhI (n:Int) (E:List Tie) (row:List Int):Prop:=(∀v∈row,0<=v/\v<n)/\∀t∈ties row,t∈E
instance(n:Int) (E:List Tie) (row:List Int):Decidable (zhI n E row):=by unfold zhI;infer_instance
theorem zmx (n:Int) (E:List S59) (hE:(E.length:Int)<big):∀ (suf q:List Int) (a:Int),((q++a::suf).length:Int)<big->
  Ev (fun k=>zaF.l0 k (q++a::suf) (q++a::suf) ((q++a::suf).length:Int) ((q.length:Int)+1) n E) (decide ((∀v∈suf,0<=v/\v<n)/\∀t∈ties (a::suf),t∈E)):=by
 intro suf
 induction suf with
 |nil=>
  intro q a hb
  have c:¬ (q.length:Int)+1<((q++[a]).length:Int):=by simp
  refine Ev.step (fun k=>by simp only[zaF.l0,if_neg c]<;>exact rfl) (Ev.val ?_)
  simp[ties]
 |cons t suf ih=>
  intro q a hb
  have hl:(q++a::t::suf).length=q.length+(suf.length+2):=by simp
  have hb2:(q.length:Int)+(suf.length+2)<4611686018427387904:=by unfold big at hb;omega
  have c1:(q.length:Int)+1<((q++a::t::suf).length:Int):=by omega
  have c2:0<=(q.length:Int)+1:=by omega
  have c3:(q.length:Int)+1>0:=by omega
  have w1:wrap64 ((q.length:Int)+1 - 1)=(q.length:Int):=by rw[w64 (by omega) (by omega)];omega
  have c4:0<=(q.length:Int):=nn _
  have c5:(q.length:Int)<((q++a::t::suf).length:Int):=by omega
  have r1:rd (q++a::t::suf) ((q.length:Int)+1)=t:=by
   have:=zcd (q++[a]) t suf
   simpa using this
  have r2:rd (q++a::t::suf) (q.length:Int)=a:=zcd q a (t::suf)
  have w2:wrap64 ((q.length:Int)+1+1)=((q++[a]).length:Int)+1:=by rw[w64 (by omega) (by omega)];simp
  refine Ev.step (fun k=>by simp only[zaF.l0,if_pos c1,if_pos c2,r1,zh_,Option.bind_some]<;>exact rfl) ?_
  by_cases k1:0<=t/\t<n
  ·rw[decide_eq_true k1]
   simp only[if_true,if_pos c3,w1,if_pos c4,if_pos c5,r2]
   refine Ev.bind (zlz n a t E hE) ?_
   by_cases k2:zbf a t∈E
   ·rw[decide_eq_true k2]
    simp only[if_true,w2]
    have:=ih (q++[a]) t (by simpa using hb)
    have e:(q++[a])++t::suf=q++a::t::suf:=by simp
    rw[e]at this
    refine Ev.eq this ?_
    refine decide_eq_decide.2 ⟨fun h=>⟨fun v hv=>?_,fun s hs=>?_⟩,fun h=>⟨fun v hv=>h.1 v (by simp[hv]),fun s hs=>h.2 s (by simp[ties,hs])⟩⟩
    ·rcases List.mem_cons.1 hv with rfl|hv
     ·exact k1
     ·exact h.1 v hv
    ·simp only[ties,List.mem_cons]at hs
     rcases hs with rfl|hs
     ·exact k2
     ·exact h.2 s hs
   ·rw[decide_eq_false k2]
    simp only[Bool.false_eq_true,if_false]
    exact Ev.val (congrArg some (decide_eq_false (fun h=>k2 (h.2 _ (by simp[ties])))).symm)
  ·rw[decide_eq_false k1]
   simp only[Bool.false_eq_true,if_false]
   exact Ev.val (congrArg some (decide_eq_false (fun h=>k1 (h.1 t (by simp)))).symm)
theorem zjS (n:Int) (E:List S59) (row:List Int) (hE:(E.length:Int)<big) (hr:(row.length:Int)<big):Ev (fun k=>zaF.f k n E row) (decide (zhI n E row)):=by
 unfold zaF.f zhI
 cases row with
 |nil=>
  have c:¬ (0:Int)<(([]:List Int).length:Int):=by simp
  exact Ev.step (fun k=>by simp only[zaF.l0,if_neg c]<;>exact rfl) (Ev.val (by simp[ties]))
 |cons a suf=>
  have c1:(0:Int)<((a::suf).length:Int):=by rw[List.length_cons];omega
  have c3:¬ (0:Int)>0:=by omega
  have r1:rd (a::suf) 0=a:=rfl
  have w2:wrap64 (0+1)=1:=by rw[w64 (by omega) (by omega)];rfl
  refine Ev.step (fun k=>by simp only[zaF.l0,if_pos c1,Int.le_refl,if_true,r1,zh_,Option.bind_some]<;>exact rfl) ?_
  by_cases k1:0<=a/\a<n
  ·rw[decide_eq_true k1]
   simp only[if_true,if_neg c3,w2]
   have:=zmx n E hE suf [] a (by simpa using hr)
   simp only[List.nil_append,List.length_nil]at this
   refine Ev.eq this ?_
   refine decide_eq_decide.2 ⟨fun h=>⟨fun v hv=>?_,h.2⟩,fun h=>⟨fun v hv=>h.1 v (by simp[hv]),h.2⟩⟩
   rcases List.mem_cons.1 hv with rfl|hv
   ·exact k1
   ·exact h.1 v hv
  ·rw[decide_eq_false k1]
   simp only[Bool.false_eq_true,if_false]
   exact Ev.val (congrArg some (decide_eq_false (fun h=>k1 (h.1 a (by simp)))).symm)
theorem zhV (a:Int):∀ (suf p:List Int),((p++suf).length:Int)<big->
  ∃r,Ev (fun k=>zaG.l0 k (p++suf) a ((p++suf).length:Int) (p.length:Int)) r/\(r>=0↔a∈suf):=by
 intro suf
 induction suf with
 |nil=>
  intro p hb
  refine⟨-1,Ev.step (fun k=>by simp only[zaG.l0,zcp,if_false]<;>exact rfl) (Ev.val rfl),by simp⟩
 |cons t suf ih=>
  intro p hb
  have hp:(p.length:Int)<big:=zch hb
  by_cases c:a=t
  ·refine⟨p.length,?_,?_⟩
   ·refine Ev.step (fun k=>by simp only[zaG.l0,zbB,nn,if_true,zcd,zbZ (t:=t) hp,if_pos c]<;>exact rfl) ?_
    exact Ev.val rfl
   ·simp[c]
  ·obtain⟨r,hr,hi⟩:=ih (p++[t]) (zdJ hb)
   refine⟨r,?_,?_⟩
   ·refine Ev.step (fun k=>by simp only[zaG.l0,zbB,nn,if_true,zcd,zbZ (t:=t) hp,if_neg c]<;>exact rfl) ?_
    rw[zbL p t suf]
    exact hr
   ·rw[hi];simp[c]
theorem zgq (l:List Int) (a:Int) (hb:(l.length:Int)<big):Ev (fun k=>za3.f k l a) (decide (a∈l)):=by
 unfold za3.f zaG.f
 obtain⟨r,hr,hi⟩:=zhV a l [] hb
 refine Ev.bind hr (Ev.val ?_)
 exact congrArg some (decide_eq_decide.2 hi)
def fresh:List Int->List Int->Prop
 |_,[]=>True
 |vs,x::r=>x∉vs/\fresh (vs++[x]) r
instance zkk:(vs l:List Int)->Decidable (fresh vs l)
 |_,[]=>isTrue trivial
 |vs,x::r=>by
  have:=zkk (vs++[x]) r
  unfold fresh
  infer_instance
theorem zjU (l:List Int):∀vs:List Int,fresh vs l↔l.Nodup/\∀x∈l,x∉vs:=by
 induction l with
 |nil=>intro vs;simp[fresh]
 |cons x r ih=>
  intro vs
  unfold fresh
  rw[ih,List.nodup_cons]
  constructor
  ·rintro⟨h1,h2,h3⟩
   refine⟨⟨fun hx=>?_,h2⟩,fun y hy=>?_⟩
   ·exact h3 x hx (by simp)
   ·rcases List.mem_cons.1 hy with rfl|hy
    ·exact h1
    ·exact fun hv=>h3 y hy (by simp[hv])
  ·rintro⟨⟨h1,h2⟩,h3⟩
   refine⟨h3 x (by simp),h2,fun y hy hv=>?_⟩
   rcases List.mem_append.1 hv with hv|hv
   ·exact h3 y (by simp[hy]) hv
   ·rw[List.mem_singleton]at hv
    subst hv
    exact h1 hy
theorem zhG:∀ (suf p:List Int),((p++suf).length:Int)<big->
  Ev (fun k=>zaX.l0 k (p++suf) (p++suf) ((p++suf).length:Int) (p.length:Int)) (decide (fresh p suf)):=by
 intro suf
 induction suf with
 |nil=>
  intro p hb
  refine Ev.step (fun k=>by simp only[zaX.l0,zcp,if_false]<;>exact rfl) ?_
  exact Ev.val (congrArg some (decide_eq_true (by simp[fresh])).symm)
 |cons t suf ih=>
  intro p hb
  have hp:(p.length:Int)<big:=zch hb
  have hle:(p.length:Int)<=((p++t::suf).length:Int):=Int.le_of_lt (zbB _ _ _)
  have htk:(p++t::suf).take ((p.length:Int)).toNat=p:=by simp
  refine Ev.step (fun k=>by simp only[zaX.l0,zbB,nn,if_true,zcd,zbZ (t:=t) hp,hle,htk]<;>exact rfl) ?_
  refine Ev.bind (zgq p t hp) ?_
  by_cases c:t∈p
  ·simp only[c,decide_true,if_true]
   exact Ev.val (congrArg some (decide_eq_false (by simp[fresh,c])).symm)
  ·simp only[c,decide_false,Bool.false_eq_true,if_false]
   rw[zbL p t suf]
   refine Ev.eq (ih (p++[t]) (zdJ hb)) ?_
   rw[decide_eq_decide]
   simp[fresh,c]
theorem zfw (l:List Int) (hb:(l.length:Int)<big):Ev (fun k=>zaX.f k l) (decide l.Nodup):=by
 unfold zaX.f
 refine Ev.eq (zhG l [] hb) ?_
 rw[decide_eq_decide,zjU]
 simp
theorem zkh (a b:Int):∀l:List Tie,zg5 l a b=decide ((⟨a,b⟩:Tie)∈l)
  |[]=>by simp[zg5]
  |t::r=>by
    rw[zg5,zkh a b r]
    obtain⟨x,y⟩:=t
    by_cases h:a=x<;>by_cases k:b=y<;>simp[h,k]
def kn (n:Int) (K:List Bool) (ks:List Int):Prop:=(K.length:Int)=n/\∀v,0<=v->v<n->zcI false K v=decide (v∈ks)
theorem zh8 (K:List Bool) (v x:Int) (h0:0<=v) (h1:v<(K.length:Int)) (x0:0<=x):zcI false (K.set v.toNat true) x=if x=v then true else zcI false K x:=by
  unfold zcI
  simp only[List.getD_eq_getElem?_getD,List.getElem?_set]
  by_cases c:x=v
  · subst c
    have:x.toNat<K.length:=by omega
    simp[this]
  · have c':¬v.toNat=x.toNat:=fun e=>c (by omega)
    simp[c,c']
theorem zlM {n:Int}{K:List Bool}{ks:List Int}{v:Int}(h:kn n K ks) (h0:0<=v) (h1:v<n):kn n (K.set v.toNat true) (zha ks v):=by
  refine⟨by rw[List.length_set];exact h.1,fun x x0 x1=>?_⟩
  rw[zh8 K v x h0 (by rw[h.1];exact h1) x0,h.2 x x0 x1]
  by_cases c:x=v
  · rw[if_pos c];exact(decide_eq_true ((ze7 ks v x).2 (Or.inr c))).symm
  · rw[if_neg c]
    exact decide_eq_decide.2 ⟨fun y=>(ze7 ks v x).2 (Or.inl y),fun y=>((ze7 ks v x).1 y).resolve_right c⟩
theorem zmq {n:Int}{K:List Bool}{ks:List Int}(h:kn n K ks) (hn:ks.Nodup) (hr:∀v∈ks,0<=v/\v<n):false∉K↔(ks.length:Int)=n:=by
  have hall:false∉K↔∀v:Int,0<=v->v<n->v∈ks:=by
    constructor
    · intro hf v h0 h1
      have e:=h.2 v h0 h1
      by_cases c:v∈ks
      · exact c
      · rw[decide_eq_false c]at e
        exfalso
        apply hf
        have hl:v.toNat<K.length:=by have:=h.1;omega
        unfold zcI at e
        rw[List.getD_eq_getElem?_getD,List.getElem?_eq_getElem hl]at e
        simp at e
        rw[←e]
        exact List.getElem_mem hl
    · intro hv hf
      obtain⟨i,hi,e⟩:=List.getElem_of_mem hf
      have e2:=h.2 (i:Int) (nn i) (by rw[←h.1];omega)
      unfold zcI at e2
      rw[List.getD_eq_getElem?_getD,Int.toNat_natCast,List.getElem?_eq_getElem hi,e]at e2
      simp at e2
      exact e2 (hv i (nn i) (by rw[←h.1];omega))
  rw[hall]
  have hn0:0<=n:=by rw[←h.1];exact nn _
  have rl:((List.range n.toNat).map (fun i:Nat=>(i:Int))).length=n.toNat:=by simp
  have rn:((List.range n.toNat).map (fun i:Nat=>(i:Int))).Nodup:=by
    rw[List.Nodup,List.pairwise_map]
    exact List.nodup_range.imp (fun hne e=>hne (by exact_mod_cast e))
  constructor
  · intro hv
    have:=zfx hn rn (fun x=>⟨fun hx=>by
      have:=hr x hx
      exact List.mem_map.2 ⟨x.toNat,List.mem_range.2 (by omega),by omega⟩,fun hx=>by
      obtain⟨i,hi,rfl⟩:=List.mem_map.1 hx
      have:=List.mem_range.1 hi
      exact hv i (nn i) (by omega)⟩)
    rw[rl]at this
    omega
  · intro hlen v h0 h1
    by_cases c:v∈ks
    · exact c
    · exfalso
      have:(v::ks).length<=((List.range n.toNat).map (fun i:Nat=>(i:Int))).length:=zdg (List.nodup_cons.2 ⟨c,hn⟩) (fun x hx=>by
        rcases List.mem_cons.1 hx with rfl|hx
        · exact List.mem_map.2 ⟨x.toNat,List.mem_range.2 (by omega),by omega⟩
        · have:=hr x hx
          exact List.mem_map.2 ⟨x.toNat,List.mem_range.2 (by omega),by omega⟩)
      rw[rl]at this
      simp at this
      omega
theorem zhx (a:Bool):∀ (suf p:List Bool),((p++suf).length:Int)<big->a∉p->
    ∃r,Ev (fun k=>zaA.l0 k (p++suf) a ((p++suf).length:Int) (p.length:Int)) r/\(r>=0↔a∈p++suf):=by
  intro suf
  induction suf with
  |nil=>
    intro p hb hp
    refine⟨-1,Ev.step (fun k=>by simp only[zaA.l0,zcp,if_false]<;>exact rfl) (Ev.val rfl),?_⟩
    simp[hp]
  |cons t suf ih=>
    intro p hb hp
    have hl:(p.length:Int)<big:=zch hb
    by_cases c:a=t
    · refine⟨(p.length:Int),Ev.step (fun k=>by simp only[zaA.l0,zbB,nn,if_true,ziC,if_pos (show(a==t)=true by simp[c])]<;>exact rfl) (Ev.val rfl),?_⟩
      simp[c]
    · obtain⟨r,h1,h2⟩:=ih (p++[t]) (by rw[←zbL];exact hb) (by simp[hp,c])
      rw[←zbL]at h1 h2
      exact⟨r,Ev.step (fun k=>by simp only[zaA.l0,zbB,nn,if_true,ziC,if_neg (show¬ (a==t)=true by simp[c]),zbZ (t:=t) hl]<;>exact rfl) h1,h2⟩
theorem zfO (l:List Bool) (a:Bool) (hb:(l.length:Int)<big):Ev (fun k=>za7.f k l a) (decide (a∈l)):=by
  unfold za7.f zaA.f
  obtain⟨r,h1,h2⟩:=zhx a l [] hb (by simp)
  refine Ev.bind h1 (Ev.val ?_)
  rw[decide_eq_decide.2 h2];rfl
section
variable {n:Int}{E T:List S59}{D:List Int}{ears:List (List Int)}{len at_:Int}{row ks:List Int}{P:Prop}
theorem zm7 (U:List S59) (hr:∀v∈row,0<=v/\v<n) (hb:(row.length:Int)<big)
    (H:∀K,kn n K (zbQ ks row)->∃b,Ev (fun k=>zaC.l0 k D K ears len (wrap64 (at_+1)) n E U 0) b/\(b=true↔P)):∀ (suf p:List Int) (K:List Bool),row=p++suf->kn n K (zbQ ks p)->
    ∃b,Ev (fun k=>zaC.l3 k D K ears len at_ row (row.length:Int) (p.length:Int) n E U 0) b/\(b=true↔P):=by
  intro suf
  induction suf with
  |nil=>
    intro p K e hK
    rw[List.append_nil]at e
    subst e
    obtain⟨b,e1,h1⟩:=H K hK
    have c:¬ (row.length:Int)<(row.length:Int):=by omega
    exact⟨b,Ev.step (fun k=>by simp only[zaC.l3,if_neg c]<;>exact rfl) e1,h1⟩
  |cons v suf ih=>
    intro p K e hK
    have c1:(p.length:Int)<(row.length:Int):=by rw[e];exact zbB p v suf
    have rv:rd row (p.length:Int)=v:=by rw[e];exact zcd p v suf
    have hv:=hr v (by rw[e];simp)
    have hs:wrap64 ((p.length:Int)+1)=((p++[v]).length:Int):=zbZ (by omega)
    have c2:v<(K.length:Int):=by rw[hK.1];exact hv.2
    obtain⟨b,e1,h1⟩:=ih (p++[v]) (K.set v.toNat true) (by rw[e];simp) (by rw[zgJ];exact zlM hK hv.1 hv.2)
    exact⟨b,Ev.step (fun k=>by simp only[zaC.l3,nn,if_true,if_pos c1,rv,if_pos hv.1,if_pos c2,hs]<;>exact rfl) e1,h1⟩
theorem zmN (K:List Bool) (hnd:(ties row).Nodup) (hb:(row.length:Int)<big)
    (H:∃b,Ev (fun k=>zaC.l3 k D K ears len at_ row (row.length:Int) 0 n E (T++ties row) 0) b/\(b=true↔P)):∀ (suf p:List Int) (u:Int),row=(p++[u])++suf->
    ∃b,Ev (fun k=>zaC.l2 k D K row ((p++[u]).length:Int) ears len at_ n E (T++ties (p++[u])) 0) b/\(b=true↔(∀t∈ties (u::suf),t∉T)/\P):=by
  intro suf
  induction suf with
  |nil=>
    intro p u e
    rw[List.append_nil]at e
    subst e
    obtain⟨b,e1,h1⟩:=H
    have c:¬ ((p++[u]).length:Int)<((p++[u]).length:Int):=by omega
    exact⟨b,Ev.step (fun k=>by simp only[zaC.l2,if_neg c]<;>exact rfl) e1,by simp[ties,h1]⟩
  |cons v suf ih=>
    intro p u e
    have hpb:((p++[u]).length:Int)<big:=by rw[e]at hb;exact zch hb
    have c1:((p++[u]).length:Int)<(row.length:Int):=by rw[e];exact zbB (p++[u]) v suf
    have c2:0<=wrap64 (((p++[u]).length:Int) - 1):=by rw[zcb p u hpb];exact nn _
    have c3:wrap64 (((p++[u]).length:Int) - 1)<(row.length:Int):=by rw[zcb p u hpb];simp at c1;omega
    have rv:rd row ((p++[u]).length:Int)=v:=by rw[e];exact zcd (p++[u]) v suf
    have ru:rd row (wrap64 (((p++[u]).length:Int) - 1))=u:=by rw[zcb p u hpb,e,zeF];exact zcd p u (v::suf)
    have hs:wrap64 (((p++[u]).length:Int)+1)=(((p++[u])++[v]).length:Int):=zbZ hpb
    have er:ties row=ties (p++[u])++zbf u v::ties (v::suf):=by
      rw[e,show(p++[u])++v::suf=p++u::v::suf by simp];exact zib p u v suf
    have hni:zbf u v∉ties (p++[u]):=fun h=>by
      rw[er,List.nodup_append]at hnd
      exact hnd.2.2 _ h _ (by simp) rfl
    have et:(T++ties (p++[u]))++[(⟨(zbf u v).f0,(zbf u v).f1⟩:S59)]=T++ties ((p++[u])++[v]):=by rw[List.append_assoc,←zgY]
    have ed:decide ((⟨(zbf u v).f0,(zbf u v).f1⟩:Tie)∈T++ties (p++[u]))=decide (zbf u v∈T++ties (p++[u])):=rfl
    have base:∀k,zaC.l2 (k+1) D K row ((p++[u]).length:Int) ears len at_ n E (T++ties (p++[u])) 0=if decide (zbf u v∈T++ties (p++[u]))=true then some false else zaC.l2 k D K row (((p++[u])++[v]).length:Int) ears len at_ n E (T++ties ((p++[u])++[v])) 0:=fun k=>by
      simp only[zaC.l2,nn,if_true,if_pos c1,if_pos c2,if_pos c3,ru,rv,hs,zjn,Option.bind_some,zkh,et,ed]
    by_cases m:zbf u v∈T
    · refine⟨false,Ev.step base (by rw[decide_eq_true (List.mem_append_left _ m)];exact Ev.val rfl),?_⟩
      simp only[Bool.false_eq_true,false_iff]
      exact fun h=>h.1 (zbf u v) (by simp[ties]) m
    · obtain⟨b,e1,h1⟩:=ih (p++[u]) v (by rw[e];simp)
      refine⟨b,Ev.step base (by rw[decide_eq_false (fun h=>(List.mem_append.1 h).elim m hni)];simpa using e1),?_⟩
      rw[h1]
      simp only[ties,List.mem_cons,forall_eq_or_imp]
      exact⟨fun h=>⟨⟨m,h.1⟩,h.2⟩,fun h=>⟨h.1.2,h.2⟩⟩
theorem znU (K:List Bool) (U:List S59) (inner:List Int) (hK:kn n K ks) (hi:∀v∈inner,0<=v/\v<n) (hb:(inner.length:Int)<big)
    (H:(∀v∈inner,v∉ks)->∃b,Ev (fun k=>zaC.l2 k D K row 1 ears len at_ n E U 0) b/\(b=true↔P)):∀ (suf p:List Int),inner=p++suf->(∀v∈p,v∉ks)->
    ∃b,Ev (fun k=>zaC.l1 k D K row ears len at_ inner (inner.length:Int) (p.length:Int) n E U 0) b/\(b=true↔(∀v∈suf,v∉ks)/\P):=by
  intro suf
  induction suf with
  |nil=>
    intro p e hp
    rw[List.append_nil]at e
    subst e
    obtain⟨b,e1,h1⟩:=H hp
    have c:¬ (inner.length:Int)<(inner.length:Int):=by omega
    exact⟨b,Ev.step (fun k=>by simp only[zaC.l1,if_neg c]<;>exact rfl) e1,by simp[h1]⟩
  |cons v suf ih=>
    intro p e hp
    have c1:(p.length:Int)<(inner.length:Int):=by rw[e];exact zbB p v suf
    have rv:rd inner (p.length:Int)=v:=by rw[e];exact zcd p v suf
    have hv:=hi v (by rw[e];simp)
    have hs:wrap64 ((p.length:Int)+1)=((p++[v]).length:Int):=zbZ (by omega)
    have c2:v<(K.length:Int):=by rw[hK.1];exact hv.2
    have base:∀k,zaC.l1 (k+1) D K row ears len at_ inner (inner.length:Int) (p.length:Int) n E U 0=if decide (v∈ks)=true then some false else zaC.l1 k D K row ears len at_ inner (inner.length:Int) ((p++[v]).length:Int) n E U 0:=fun k=>by
      simp only[zaC.l1,nn,if_true,if_pos c1,rv,if_pos hv.1,if_pos c2,hs,hK.2 v hv.1 hv.2]
    by_cases m:v∈ks
    · refine⟨false,Ev.step base (by rw[decide_eq_true m];exact Ev.val rfl),?_⟩
      simp only[Bool.false_eq_true,false_iff]
      exact fun h=>h.1 v (by simp) m
    · obtain⟨b,e1,h1⟩:=ih (p++[v]) (by rw[e];simp) (fun x hx=>(List.mem_append.1 hx).elim (hp x) (fun h=>by rw[List.mem_singleton]at h;subst h;exact m))
      refine⟨b,Ev.step base (by rw[decide_eq_false m];simpa using e1),?_⟩
      rw[h1]
      simp only[List.mem_cons,forall_eq_or_imp]
      exact⟨fun h=>⟨⟨m,h.1⟩,h.2⟩,fun h=>⟨h.1.2,h.2⟩⟩
end
theorem ziX (a:Int) (m:List Int) (z:Int):(a::(m++[z])).drop 1=m++[z]/\((a::(m++[z])).take ((a::(m++[z])).length - 1)).drop 1=m:=by
  refine⟨rfl,?_⟩
  simp
theorem zkW (n:Int) (E:List S59) (hok:ok n E) (D:List Int):∀ (se pe:List (List Int)) (T:List S59) (ks:List Int) (K:List Bool),((pe++se).length:Int)<big->T.length+tot se<4000000->kn n K ks->ks.Nodup->(∀v∈ks,0<=v/\v<n)->(pe=[]->ks=[])->
    ∃b,Ev (fun k=>zaC.l0 k D K (pe++se) ((pe++se).length:Int) (pe.length:Int) n E T 0) b/\(b=true↔zcE n E ((pe.length:Int)==0) T ks se):=by
  have hE:(E.length:Int)<big:=by have:=zc2 hok;unfold big;omega
  intro se
  induction se with
  |nil=>
    intro pe T ks K hb hT hK hn hr h0
    by_cases c:(T.length:Int)=(E.length:Int)
    · refine⟨!decide (false∈K),Ev.step (fun k=>by simp only[zaC.l0,zcp,if_false,if_pos c]<;>exact rfl) (Ev.bind (zfO K false (by have:=hK.1;have:=hok.2.1;unfold big;omega)) (Ev.val rfl)),?_⟩
      simp only[zcE,Bool.not_eq_true',decide_eq_false_iff_not]
      rw[zmq hK hn hr]
      exact⟨fun h=>⟨by omega,h⟩,fun h=>h.2⟩
    · refine⟨false,Ev.step (fun k=>by simp only[zaC.l0,zcp,if_false,if_neg c]<;>exact rfl) (Ev.val rfl),?_⟩
      simp only[zcE,Bool.false_eq_true,false_iff]
      exact fun h=>c (by omega)
  |cons row se ih=>
    intro pe T ks K hb hT hK hn hr h0
    simp only[tot]at hT
    have hrb:(row.length:Int)<big:=by unfold big;omega
    have hpl:(pe.length:Int)<big:=zch hb
    have fst:(((pe.length:Int)==0)=true)↔pe=[]:=by rw[beq_iff_eq];exact⟨fun h=>List.eq_nil_of_length_eq_zero (by omega),fun h=>by rw[h];rfl⟩
    have J2f:Ev (fun k=>zaC.j2 k D K (pe.length:Int) row (pe++row::se) ((pe++row::se).length:Int) (pe.length:Int) true n E T 0) false:=Ev.step (fun k=>by simp only[zaC.j2,if_true]<;>exact rfl) (Ev.val rfl)
    have bad:¬zhY n E T ks ((pe.length:Int)==0) row->(false=true↔zcE n E ((pe.length:Int)==0) T ks (row::se)):=fun h=>by
      simp only[zcE,Bool.false_eq_true,false_iff];exact fun x=>h x.1
    by_cases cl:(row.length:Int)<2
    · exact⟨false,Ev.step (fun k=>by simp only[zaC.l0,zbB,nn,if_true,zcZ,if_pos cl]<;>exact rfl) J2f,bad (fun h=>by have:=h.len;omega)⟩
    · have hl:2<=row.length:=by omega
      have base:∀k,zaC.l0 (k+1) D K (pe++row::se) ((pe++row::se).length:Int) (pe.length:Int) n E T 0=(zaF.f k n E row).bind fun t=>zaC.j2 k D K (pe.length:Int) row (pe++row::se) ((pe++row::se).length:Int) (pe.length:Int) (!t) n E T 0:=fun k=>by
        simp only[zaC.l0,zbB,nn,if_true,zcZ,if_neg cl]
      by_cases hw:zhI n E row
      · have W:=Ev.eq (zjS n E row hE hrb) (decide_eq_true hw)
        obtain⟨a,m,z,rfl⟩:=zen hl
        have r0:rd (a::(m++[z])) 0=a:=rfl
        obtain⟨r1,r2,r3⟩:=zjz (row:=a::(m++[z])) (by simp) hrb
        rw[zdN]at r1
        have ha:=hw.1 a (by simp)
        have hz:=hw.1 z (by simp)
        have hrl:0<((a::(m++[z])).length:Int):=by simp;omega
        have hK1:∀v:Int,v<n->v<(K.length:Int):=fun v h=>by rw[hK.1];exact h
        have hwl:wrap64 (((a::(m++[z])).length:Int) - 1)=(((a::(m++[z])).length - 1:Nat):Int):=by
          unfold big at hrb
          rw[w64 (by omega) (by omega)];omega
        -- behind the tests of the ends
        have J4:∀inner:List Int,(∀v∈inner,v∈a::(m++[z]))->(inner.length:Int)<big->(inner.Nodup->(∀v∈inner,v∉ks)->(ties (a::(m++[z]))).Nodup)->
            ∃b,Ev (fun k=>zaC.j4 k D K (a::(m++[z])) inner (pe++(a::(m++[z]))::se) ((pe++(a::(m++[z]))::se).length:Int) (pe.length:Int) n E T 0) b/\
              (b=true↔inner.Nodup/\(∀v∈inner,v∉ks)/\(∀t∈ties (a::(m++[z])),t∉T)/\zcE n E false (T++ties (a::(m++[z]))) (zbQ ks (a::(m++[z]))) se):=by
          intro inner hin hib hnd
          have base4:∀k,zaC.j4 (k+1) D K (a::(m++[z])) inner (pe++(a::(m++[z]))::se) ((pe++(a::(m++[z]))::se).length:Int) (pe.length:Int) n E T 0=(zaX.f k inner).bind fun t=>if t=true then zaC.l1 k D K (a::(m++[z])) (pe++(a::(m++[z]))::se) ((pe++(a::(m++[z]))::se).length:Int) (pe.length:Int) inner (inner.length:Int) 0 n E T 0 else some false:=fun k=>by
            simp only[zaC.j4]
          by_cases d:inner.Nodup
          · have H3:∀K',kn n K' (zbQ ks (a::(m++[z])))->∃b,Ev (fun k=>zaC.l0 k D K' (pe++(a::(m++[z]))::se) ((pe++(a::(m++[z]))::se).length:Int) (wrap64 ((pe.length:Int)+1)) n E (T++ties (a::(m++[z]))) 0) b/\(b=true↔zcE n E false (T++ties (a::(m++[z]))) (zbQ ks (a::(m++[z]))) se):=by
              intro K' hK'
              obtain⟨b,e1,h1⟩:=ih (pe++[a::(m++[z])]) (T++ties (a::(m++[z]))) (zbQ ks (a::(m++[z]))) K' (by simpa using hb) (by rw[List.length_append,zd4];omega) hK' (zeh _ hn) (fun v hv=>((zdP _ _ _).1 hv).elim (hr v) (hw.1 v)) (fun e=>by simp at e)
              have f:((((pe++[a::(m++[z])]).length:Nat):Int)==0)=false:=by rw[beq_eq_false_iff_ne];simp;omega
              rw[f]at h1
              rw[show(pe++[a::(m++[z])])++se=pe++(a::(m++[z]))::se by simp]at e1
              rw[zbZ (t:=a::(m++[z])) hpl]
              exact⟨b,e1,h1⟩
            obtain⟨b,e1,h1⟩:=znU (D:=D) (E:=E) (row:=a::(m++[z])) (ears:=pe++(a::(m++[z]))::se) (len:=((pe++(a::(m++[z]))::se).length:Int)) (at_:=(pe.length:Int)) K T inner hK (fun v hv=>hw.1 v (hin v hv)) hib (P:=(∀t∈ties (a::(m++[z])),t∉T)/\zcE n E false (T++ties (a::(m++[z]))) (zbQ ks (a::(m++[z]))) se) (fun hnew=>by
                have h3:=zm7 (D:=D) (E:=E) (len:=((pe++(a::(m++[z]))::se).length:Int)) (T++ties (a::(m++[z]))) hw.1 hrb H3 (a::(m++[z])) [] K rfl hK
                have h2:=zmN (T:=T) (P:=zcE n E false (T++ties (a::(m++[z]))) (zbQ ks (a::(m++[z]))) se) K (hnd d hnew) hrb h3 (m++[z]) [] a rfl
                simpa [ties] using h2) inner [] rfl (by simp)
            refine⟨b,Ev.step base4 (Ev.bind (Ev.eq (zfw inner hib) (decide_eq_true d)) (by simp only[if_true];exact e1)),?_⟩
            rw[h1]
            exact⟨fun h=>⟨d,h⟩,fun h=>h.2⟩
          · refine⟨false,Ev.step base4 (Ev.bind (Ev.eq (zfw inner hib) (decide_eq_false d)) (by simp only[Bool.false_eq_true,if_false];exact Ev.val rfl)),?_⟩
            simp only[Bool.false_eq_true,false_iff]
            exact fun h=>d h.1
        have c1:1<=wrap64 (((a::(m++[z])).length:Int) - 1):=by rw[hwl];simp;omega
        have c2:wrap64 (((a::(m++[z])).length:Int) - 1)<=((a::(m++[z])).length:Int):=by rw[hwl];omega
        have c3:1<=((a::(m++[z])).length:Int):=by simp;omega
        have hmb:(m.length:Int)<big/\((m++[z]).length:Int)<big:=by simp at hrb⊢;omega
        have J3t:Ev (fun k=>zaC.j3 k D K (pe.length:Int) (a::(m++[z])) a z (pe++(a::(m++[z]))::se) ((pe++(a::(m++[z]))::se).length:Int) (pe.length:Int) true n E T 0) false:=Ev.step (fun k=>by simp only[zaC.j3,if_true]<;>exact rfl) (Ev.val rfl)
        have base2:∀k,zaC.j2 (k+1) D K (pe.length:Int) (a::(m++[z])) (pe++(a::(m++[z]))::se) ((pe++(a::(m++[z]))::se).length:Int) (pe.length:Int) false n E T 0=
            (if a=z then(if((a::(m++[z])).length:Int)<4 then zaC.j3 k D K (pe.length:Int) (a::(m++[z])) a z (pe++(a::(m++[z]))::se) ((pe++(a::(m++[z]))::se).length:Int) (pe.length:Int) true n E T 0 else(if(pe.length:Int)=0 then zaC.j3 k D K (pe.length:Int) (a::(m++[z])) a z (pe++(a::(m++[z]))::se) ((pe++(a::(m++[z]))::se).length:Int) (pe.length:Int) (a !=z) n E T 0 else zaC.j3 k D K (pe.length:Int) (a::(m++[z])) a z (pe++(a::(m++[z]))::se) ((pe++(a::(m++[z]))::se).length:Int) (pe.length:Int) false n E T 0))
             else(if(pe.length:Int)=0 then zaC.j3 k D K (pe.length:Int) (a::(m++[z])) a z (pe++(a::(m++[z]))::se) ((pe++(a::(m++[z]))::se).length:Int) (pe.length:Int) (a !=z) n E T 0 else zaC.j3 k D K (pe.length:Int) (a::(m++[z])) a z (pe++(a::(m++[z]))::se) ((pe++(a::(m++[z]))::se).length:Int) (pe.length:Int) false n E T 0)):=fun k=>by
          simp only[zaC.j2,Bool.false_eq_true,if_false,if_pos hrl,if_pos r2,if_pos r3,r0,r1]
        have fin:∀b,Ev (fun k=>zaC.j2 k D K (pe.length:Int) (a::(m++[z])) (pe++(a::(m++[z]))::se) ((pe++(a::(m++[z]))::se).length:Int) (pe.length:Int) false n E T 0) b->Ev (fun k=>zaC.l0 k D K (pe++(a::(m++[z]))::se) ((pe++(a::(m++[z]))::se).length:Int) (pe.length:Int) n E T 0) b:=fun b h=>Ev.step base (Ev.bind W h)
        have lp:=zdN a m z
        have hp:=zey a m z
        have mp:=zdV a m z
        by_cases l4:a=z/\((a::(m++[z])).length:Int)<4
        · refine⟨false,fin _ (Ev.step base2 (by simp only[if_pos l4.1,if_pos l4.2];exact J3t)),bad (fun h=>?_)⟩
          have:=h.long (by rw[hp,lp];exact l4.1)
          omega
        · have hlong:zgd (a::(m++[z]))=zdB (a::(m++[z]))->4<=(a::(m++[z])).length:=by
            rw[hp,lp];intro e
            have:¬ ((a::(m++[z])).length:Int)<4:=fun h=>l4 ⟨e,h⟩
            omega
          by_cases cp:pe=[]
          · have cp0:(pe.length:Int)=0:=by rw[cp];rfl
            have ek:=h0 cp
            by_cases az:a=z
            · have l4':¬ ((a::(m++[z])).length:Int)<4:=fun h=>l4 ⟨az,h⟩
              have ne:(a !=z)=false:=by simp[az]
              have base3:∀k,zaC.j3 (k+1) D K (pe.length:Int) (a::(m++[z])) a z (pe++(a::(m++[z]))::se) ((pe++(a::(m++[z]))::se).length:Int) (pe.length:Int) false n E T 0=zaC.j4 k D K (a::(m++[z])) (m++[z]) (pe++(a::(m++[z]))::se) ((pe++(a::(m++[z]))::se).length:Int) (pe.length:Int) n E T 0:=fun k=>by
                simp only[zaC.j3,Bool.false_eq_true,if_false,if_pos c1,if_pos c2,if_pos c3,if_pos cp0,List.drop_succ_cons,List.drop_zero]
              obtain⟨b,e1,h1⟩:=J4 (m++[z]) (fun v hv=>List.mem_cons_of_mem _ hv) hmb.2 (fun d _=>by
                rw[List.nodup_append]at d
                have hzm:z∉m:=fun h=>d.2.2 z h z (by simp) rfl
                exact zdI (n:=n) (E:=E) (taken:=T) (ks:=ks) (first:=true) hl hlong (by rw[mp];exact d.1) (by rw[hp,mp,az];exact hzm) (by rw[lp,mp];exact hzm))
              refine⟨b,fin _ (Ev.step base2 (by simp only[if_pos az,if_neg l4',if_pos cp0,ne];exact Ev.step base3 e1)),?_⟩
              rw[h1,fst.2 cp]
              simp only[zcE]
              constructor
              · rintro⟨d,hnew,ht,he⟩
                rw[List.nodup_append]at d
                have hzm:z∉m:=fun h=>d.2.2 z h z (by simp) rfl
                exact⟨⟨hl,hw.1,hw.2,fun _=>by rw[hp,lp];exact az,fun h=>Bool.noConfusion h,hlong,by rw[mp];exact d.1,by rw[mp,hp];exact fun v hv=>⟨hnew v (List.mem_append_left _ hv),fun e=>hzm (by rw[←az,←e];exact hv)⟩,ht⟩,he⟩
              · rintro⟨h,he⟩
                refine⟨?_,fun v _=>by rw[ek];simp,h.new,he⟩
                have hm:=h.mid
                have hap:=h.apart
                rw[mp]at hm
                rw[mp,hp]at hap
                rw[List.nodup_append]
                exact⟨hm,by simp,fun x hx y hy e=>by rw[List.mem_singleton]at hy;subst hy;subst e;exact(hap x hx).2 az.symm⟩
            · have ne:(a !=z)=true:=by simp[az]
              refine⟨false,fin _ (Ev.step base2 (by simp only[if_neg az,if_pos cp0,ne];exact J3t)),bad (fun h=>?_)⟩
              have:=h.ring (fst.2 cp)
              rw[hp,lp]at this
              exact az this
          · have cp0:¬ (pe.length:Int)=0:=fun h=>cp (List.eq_nil_of_length_eq_zero (by omega))
            have ff:((pe.length:Int)==0)=false:=Bool.eq_false_iff.2 (fun h=>cp (fst.1 h))
            have ca:a<(K.length:Int):=hK1 a ha.2
            have cz:z<(K.length:Int):=hK1 z hz.2
            have tk:((a::(m++[z])).take (wrap64 (((a::(m++[z])).length:Int) - 1)).toNat).drop 1=m:=by rw[hwl,Int.toNat_natCast];exact(ziX a m z).2
            have base3:∀k,zaC.j3 (k+1) D K (pe.length:Int) (a::(m++[z])) a z (pe++(a::(m++[z]))::se) ((pe++(a::(m++[z]))::se).length:Int) (pe.length:Int) false n E T 0=if decide (a∈ks)=true then(if decide (z∈ks)=true then zaC.j4 k D K (a::(m++[z])) m (pe++(a::(m++[z]))::se) ((pe++(a::(m++[z]))::se).length:Int) (pe.length:Int) n E T 0 else some false) else some false:=fun k=>by
              simp only[zaC.j3,Bool.false_eq_true,if_false,if_pos c1,if_pos c2,if_neg cp0,if_pos ha.1,if_pos hz.1,if_pos ca,if_pos cz,tk,hK.2 a ha.1 ha.2,hK.2 z hz.1 hz.2]
            have base2':∀b,Ev (fun k=>zaC.j3 k D K (pe.length:Int) (a::(m++[z])) a z (pe++(a::(m++[z]))::se) ((pe++(a::(m++[z]))::se).length:Int) (pe.length:Int) false n E T 0) b->Ev (fun k=>zaC.j2 k D K (pe.length:Int) (a::(m++[z])) (pe++(a::(m++[z]))::se) ((pe++(a::(m++[z]))::se).length:Int) (pe.length:Int) false n E T 0) b:=fun b h=>by
              refine Ev.step base2 ?_
              by_cases az:a=z
              · simp only[if_pos az,if_neg (fun h=>l4 ⟨az,h⟩),if_neg cp0];exact h
              · simp only[if_neg az,if_neg cp0];exact h
            by_cases ka:a∈ks
            · by_cases kz:z∈ks
              · obtain⟨b,e1,h1⟩:=J4 m (fun v hv=>List.mem_cons_of_mem _ (List.mem_append_left _ hv)) hmb.1 (fun d hnew=>zdI (n:=n) (E:=E) (taken:=T) (ks:=ks) (first:=false) hl hlong (by rw[mp];exact d) (by rw[hp,mp];exact fun h=>hnew a h ka) (by rw[lp,mp];exact fun h=>hnew z h kz))
                refine⟨b,fin _ (base2' _ (Ev.step base3 (by simp only[decide_eq_true ka,decide_eq_true kz,if_true];exact e1))),?_⟩
                rw[h1,ff]
                simp only[zcE]
                constructor
                · rintro⟨d,hnew,ht,he⟩
                  exact⟨⟨hl,hw.1,hw.2,fun h=>Bool.noConfusion h,fun _=>by rw[hp,lp];exact⟨ka,kz⟩,hlong,by rw[mp];exact d,by rw[mp,hp];exact fun v hv=>⟨hnew v hv,fun e=>hnew v hv (e▸ka)⟩,ht⟩,he⟩
                · rintro⟨h,he⟩
                  have hm:=h.mid
                  have hap:=h.apart
                  rw[mp]at hm hap
                  exact⟨hm,fun v hv=>(hap v hv).1,h.new,he⟩
              · refine⟨false,fin _ (base2' _ (Ev.step base3 (by simp only[decide_eq_true ka,decide_eq_false kz,if_true,Bool.false_eq_true,if_false];exact Ev.val rfl))),bad (fun h=>?_)⟩
                have:=(h.ends ff).2
                rw[lp]at this
                exact kz this
            · refine⟨false,fin _ (base2' _ (Ev.step base3 (by simp only[decide_eq_false ka,Bool.false_eq_true,if_false];exact Ev.val rfl))),bad (fun h=>?_)⟩
              have:=(h.ends ff).1
              rw[hp]at this
              exact ka this
      · have W:=Ev.eq (zjS n E row hE hrb) (decide_eq_false hw)
        exact⟨false,Ev.step base (Ev.bind W J2f),bad (fun h=>hw ⟨h.zdm,h.tied⟩)⟩
theorem zfy (n:Int) (E:List S59) (ears:List (List Int)) (hE:(E.length:Int)<big) (hb:(ears.length:Int)<big) (hT:tot ears<4000000):
    ∃b,Ev (fun k=>zcD.f k n E ears) b/\(b=true↔zjW n E ears):=by
  have F:Ev (fun k=>zaC.j0 k ears [] true n E) false:=Ev.step (fun k=>by simp only[zaC.j0,if_true]<;>exact rfl) (Ev.val rfl)
  unfold zcD.f zaC.f
  by_cases c:ok n E
  · have K:=Ev.eq (ziD n E hE) (decide_eq_true c)
    by_cases c1:ears=[]
    · refine⟨false,Ev.bind K ?_,?_⟩
      · simp only[if_true,c1,List.length_nil,Int.natCast_zero,beq_self_eq_true]
        rw[c1]at F
        exact F
      · simp only[Bool.false_eq_true,false_iff]
        exact fun h=>h.2.1 c1
    · have n0:=c.1
      have n8:=c.2.1
      have hc:n.toNat<=281474976710656:=by omega
      have cb:((ears.length:Int)==0)=false:=by
        rw[beq_eq_false_iff_ne]
        exact fun h=>c1 (List.eq_nil_of_length_eq_zero (by omega))
      have hK:kn n (List.replicate n.toNat false) []:=by
        refine⟨by rw[List.length_replicate];omega,fun v h0 h1=>?_⟩
        unfold zcI
        rw[List.getD_eq_getElem?_getD,List.getElem?_replicate]
        split<;>simp
      obtain⟨b,e,h⟩:=zkW n E c [] ears [] [] [] (List.replicate n.toNat false) (by simpa using hb) (by simpa using hT) hK (by simp) (by simp) (fun _=>rfl)
      simp only[List.nil_append,List.length_nil,Int.natCast_zero,beq_self_eq_true]at e h
      refine⟨b,Ev.bind K ?_,?_⟩
      · simp only[if_true,cb]
        exact Ev.step (fun k=>by simp only[zaC.j0,Bool.false_eq_true,if_false,if_pos n0,if_pos hc]<;>exact rfl) e
      · rw[h]
        exact⟨fun x=>⟨c,c1,x⟩,fun x=>x.2.2⟩
  · refine⟨false,Ev.bind (Ev.eq (ziD n E hE) (decide_eq_false c)) (by simp only[Bool.false_eq_true,if_false];exact F),?_⟩
    simp only[Bool.false_eq_true,false_iff]
    exact fun x=>c x.1
end Go.Proofs.Ytgeonpciodepgaa.P
namespace Go.Proofs.Ytgeonpciodepgaa.G
def alike {α:Type}(a b:List α):Prop:=a.length=b.length/\∀x,x∈a↔x∈b
theorem alike_refl {α:Type}(a:List α):alike a a:=⟨rfl,fun _=>Iff.rfl⟩
theorem zi_ {n:Int}{E T:List Tie}{ks row:List Int}{first:Bool}(h:zhY n E T ks first row):∀v∈zfa row,v≠zdB row:=by
 intro v hv e
 cases first with
 |true=>exact(h.apart v hv).2 (e.trans (h.ring rfl).symm)
 |false=>exact(h.apart v hv).1 (e▸ (h.ends rfl).2)
def pl (ks:List Int) (v:Int):Nat:=((zdm v).filter fun u=>decide (u∈ks)).length
theorem zid (ks:List Int) {v:Int}(h:0<=v):pl ks (v+1)=pl ks v+if v∈ks then 1 else 0:=by
 unfold pl
 rw[zgA h,List.filter_append,List.length_append]
 by_cases c:v∈ks
 ·simp[c]
 ·simp[c]
theorem zou (ks:List Int) {u:Int}(h:0<=u):∀d:Nat,pl ks u<=pl ks (u+d)
 |0=>by simp
 |d+1=>by
  have h1:=zou ks h d
  have h2:=zid ks (v:=u+d) (by omega)
  have e:u+((d+1:Nat):Int)=u+d+1:=by omega
  rw[e,h2];omega
theorem zk9 (ks:List Int) {u v:Int}(h:0<=u) (hv:u<v) (hu:u∈ks):pl ks u<pl ks v:=by
 have h1:=zid ks (v:=u) h
 rw[if_pos hu]at h1
 have h2:=zou ks (u:=u+1) (by omega) (v - (u+1)).toNat
 rw[show u+1+(((v - (u+1)).toNat:Nat):Int)=v by omega]at h2
 omega
theorem zl1 {ks:List Int}{n:Int}(hn:ks.Nodup) (hr:∀v∈ks,0<=v/\v<n):pl ks n=ks.length:=by
 unfold pl
 refine zfx ((zh6 n).sublist List.filter_sublist) hn (fun x=>?_)
 rw[List.mem_filter,zfY]
 simp only[decide_eq_true_eq]
 exact⟨fun h=>h.2,fun h=>⟨hr x h,h⟩⟩
def nm (ks:List Int) (v:Int):Int:=(pl ks v:Int)
def zgg (f:Int->Int) (S:List Int):Prop:=∀u∈S,∀v∈S,f u=f v->u=v
theorem zlN {ks:List Int}(h:∀v∈ks,0<=v):zgg (nm ks) ks:=by
 intro u hu v hv e
 unfold nm at e
 rcases Int.lt_trichotomy u v with c|c|c
 ·have:=zk9 ks (h u hu) c hu;omega
 ·exact c
 ·have:=zk9 ks (h v hv) c hv;omega
def zhc (f:Int->Int) (t:Tie):Tie:=zbf (f t.f0) (f t.f1)
theorem zfn (f:Int->Int) (a b:Int):zhc f (zbf a b)=zbf (f a) (f b):=by
 unfold zhc
 by_cases c:a<b
 ·have:zbf a b=⟨a,b⟩:=by unfold zbf;rw[if_pos c]
  rw[this]
 ·have:zbf a b=⟨b,a⟩:=by unfold zbf;rw[if_neg c]
  rw[this,zdM]
theorem zeY (f:Int->Int):∀row:List Int,ties (row.map f)=(ties row).map (zhc f)
 |[]=>rfl
 |[a]=>rfl
 |a::b::r=>by
  have:=zeY f (b::r)
  simp only[List.map_cons,ties]at this⊢
  rw[this,zfn]
theorem zii {f:Int->Int}{S:List Int}(hi:zgg f S) {s t:Tie}(hs:s.f0∈S/\s.f1∈S/\s.f0<s.f1) (ht:t.f0∈S/\t.f1∈S/\t.f0<t.f1) (e:zhc f s=zhc f t):s=t:=by
 obtain⟨s0,s1⟩:=s
 obtain⟨t0,t1⟩:=t
 rcases zil e with⟨a,b⟩|⟨a,b⟩
 ·have h1:s0=t0:=hi _ hs.1 _ ht.1 a
  have h2:s1=t1:=hi _ hs.2.1 _ ht.2.1 b
  rw[h1,h2]
 ·have h1:s0=t1:=hi _ hs.1 _ ht.2.1 a
  have h2:s1=t0:=hi _ hs.2.1 _ ht.1 b
  have h3:s0<s1:=hs.2.2
  have h4:t0<t1:=ht.2.2
  omega
theorem zk6 {f:Int->Int}{S:List Int}(hi:zgg f S) {ks:List Int}{v:Int}(hk:∀x∈ks,x∈S) (hv:v∈S):zha (ks.map f) (f v)=(zha ks v).map f:=by
 unfold zha
 by_cases c:v∈ks
 ·rw[if_pos c,if_pos (List.mem_map_of_mem c)]
 ·rw[if_neg c,if_neg (fun h=>by
   obtain⟨x,hx,e⟩:=List.mem_map.1 h
   exact c (hi x (hk x hx) v hv e▸hx))]
  simp
theorem zfg {f:Int->Int}{S:List Int}(hi:zgg f S):∀ (row ks:List Int),(∀x∈ks,x∈S)->(∀x∈row,x∈S)->zbQ (ks.map f) (row.map f)=(zbQ ks row).map f
 |[],ks,_,_=>rfl
 |v::r,ks,hk,hr=>by
  have hv:=hr v List.mem_cons_self
  show zbQ (zha (ks.map f) (f v)) (r.map f)=(zbQ (zha ks v) r).map f
  rw[zk6 hi hk hv]
  exact zfg hi r (zha ks v) (fun x hx=>((ze7 ks v x).1 hx).elim (fun q=>hk x q) (fun q=>q▸hv)) (fun x hx=>hr x (List.mem_cons_of_mem _ hx))
theorem zfp {f:Int->Int}{S:List Int}(hi:zgg f S):∀ {l:List Int},l.Nodup->(∀x∈l,x∈S)->(l.map f).Nodup
 |[],_,_=>by simp
 |a::l,h,hS=>by
  rw[List.nodup_cons]at h
  rw[List.map_cons,List.nodup_cons]
  exact⟨fun k=>by
   obtain⟨x,hx,e⟩:=List.mem_map.1 k
   exact h.1 (hi x (hS x (List.mem_cons_of_mem _ hx)) a (hS a List.mem_cons_self) e▸hx),zfp hi h.2 (fun x hx=>hS x (List.mem_cons_of_mem _ hx))⟩
def zeS:List Tie->List (List Int)->List Tie
 |T,[]=>T
 |T,r::rs=>zeS (T++ties r) rs
def zdW:List Int->List (List Int)->List Int
 |ks,[]=>ks
 |ks,r::rs=>zdW (zbQ ks r) rs
theorem zin:∀ (a b:List (List Int)) (T:List Tie),zeS T (a++b)=zeS (zeS T a) b
 |[],b,T=>rfl
 |r::a,b,T=>zin a b (T++ties r)
theorem ziN:∀ (a:List (List Int)) (T:List Tie),∃U,zeS T a=T++U
 |[],T=>⟨[],by simp[zeS]⟩
 |r::a,T=>by
  obtain⟨U,h⟩:=ziN a (T++ties r)
  exact⟨ties r++U,by show zeS (T++ties r) a=_;rw[h,List.append_assoc]⟩
theorem zeL:∀ (a:List (List Int)) (ks:List Int) (v:Int),v∈zdW ks a↔v∈ks\/∃r∈a,v∈r
 |[],ks,v=>by simp[zdW]
 |r::a,ks,v=>by
  show v∈zdW (zbQ ks r) a↔_
  rw[zeL a,zdP];simp[or_assoc]
theorem zfl:∀ (a:List (List Int)) {ks:List Int},ks.Nodup->(zdW ks a).Nodup
 |[],_,h=>h
 |r::a,_,h=>zfl a (zeh r h)
def chain (n:Int) (E:List Tie):Bool->List Tie->List Int->List (List Int)->Prop
 |_,_,_,[]=>True
 |first,T,ks,row::rest=>zhY n E T ks first row/\chain n E false (T++ties row) (zbQ ks row) rest
theorem zgt {n:Int}{E:List Tie}:∀ (rows:List (List Int)) (m:Nat) (first:Bool) (T:List Tie) (ks:List Int),zcE n E first T ks rows->chain n E first T ks (rows.take m)
 |[],m,_,_,_,_=>by rw[List.take_nil];trivial
 |r::rows,0,_,_,_,_=>trivial
 |r::rows,m+1,first,T,ks,h=>⟨h.1,zgt rows m false _ _ h.2⟩
theorem zgG {n:Int}{E:List Tie}:∀ (rows:List (List Int)) (first:Bool) (T:List Tie) (ks:List Int),chain n E first T ks rows->(zeS T rows).length=E.length->((zdW ks rows).length:Int)=n->zcE n E first T ks rows
 |[],_,_,_,_,h1,h2=>⟨h1,h2⟩
 |r::rows,_,_,_,h,h1,h2=>⟨h.1,zgG rows false _ _ h.2 h1 h2⟩
theorem zfZ {n:Int}{E:List Tie}:∀ (rows:List (List Int)) (first:Bool) (T:List Tie) (ks:List Int),chain n E first T ks rows->T.Nodup->(zeS T rows).Nodup
 |[],_,_,_,_,h=>h
 |r::rows,first,T,ks,h,hT=>by
  refine zfZ rows false _ _ h.2 ?_
  rw[List.nodup_append]
  exact⟨hT,zdI (n:=n) (E:=E) (taken:=T) (ks:=ks) (first:=first) h.1.len h.1.long h.1.mid (fun k=>(h.1.apart _ k).2 rfl) (fun k=>zi_ h.1 _ k rfl),fun x hx y hy e=>h.1.new y hy (e▸hx)⟩
theorem znt {f:Int->Int}{r:List Int}(h:2<=r.length):zgd (r.map f)=f (zgd r)/\zdB (r.map f)=f (zdB r)/\zfa (r.map f)=(zfa r).map f:=by
 obtain⟨a,m,z,rfl⟩:=zen h
 have e:(a::(m++[z])).map f=f a::(m.map f++[f z]):=by simp
 rw[e,zey,zdN,zdV,zey,zdN,zdV]
 exact⟨rfl,rfl,rfl⟩
theorem znM {r:List Int}(h:2<=r.length):zgd r∈r/\zdB r∈r/\∀v∈zfa r,v∈r:=by
 obtain⟨a,m,z,rfl⟩:=zen h
 rw[zey,zdN,zdV]
 exact⟨by simp,by simp,fun v hv=>by simp[hv]⟩
theorem zg4 {n:Int}{E:List Tie}(hE:∀t∈E,inr n t) {S r:List Int}(hr:∀v∈r,v∈S) (ht:∀t∈ties r,t∈E):∀t∈ties r,t.f0∈S/\t.f1∈S/\t.f0<t.f1:=fun t h=>by
 have:=zfG r h
 exact⟨hr _ this.1,hr _ this.2,(hE t (ht t h)).2.1⟩
theorem zjE {n c:Int}{E E' T:List Tie}{ks row S:List Int}{first:Bool}{f:Int->Int}(hE:∀t∈E,inr n t) (hi:zgg f S) (hf:∀v∈S,0<=f v/\f v<c) (hk:∀v∈ks,v∈S) (hr:∀v∈row,v∈S)
  (hT:∀t∈T,t.f0∈S/\t.f1∈S/\t.f0<t.f1) (hE':∀t∈ties row,zhc f t∈E') (h:zhY n E T ks first row):zhY c E' (T.map (zhc f)) (ks.map f) first (row.map f):=by
 obtain⟨e1,e2,e3⟩:=znt (f:=f) h.len
 obtain⟨m1,m2,m3⟩:=znM h.len
 have ti:=zg4 hE hr h.tied
 refine{len:=by rw[List.length_map];exact h.len,zdm:=fun v hv=>?_,tied:=fun t ht=>?_,ring:=fun q=>by rw[e1,e2,h.ring q],ends:=fun q=>?_,long:=fun q=>?_,mid:= ?_,apart:=fun v hv=>?_,new:=fun t ht k=>?_}
 ·obtain⟨u,hu,rfl⟩:=List.mem_map.1 hv
  exact hf u (hr u hu)
 ·rw[zeY]at ht
  obtain⟨s,hs,rfl⟩:=List.mem_map.1 ht
  exact hE' s hs
 ·rw[e1,e2]
  exact⟨List.mem_map_of_mem (h.ends q).1,List.mem_map_of_mem (h.ends q).2⟩
 ·rw[e1,e2]at q
  rw[List.length_map]
  exact h.long (hi _ (hr _ m1) _ (hr _ m2) q)
 ·rw[e3]
  exact zfp hi h.mid (fun v hv=>hr v (m3 v hv))
 ·rw[e3]at hv
  obtain⟨u,hu,rfl⟩:=List.mem_map.1 hv
  rw[e1]
  refine⟨fun k=>?_,fun k=>(h.apart u hu).2 (hi u (hr u (m3 u hu)) _ (hr _ m1) k)⟩
  obtain⟨x,hx,e⟩:=List.mem_map.1 k
  exact(h.apart u hu).1 (hi x (hk x hx) u (hr u (m3 u hu)) e▸hx)
 ·rw[zeY]at ht
  obtain⟨s,hs,rfl⟩:=List.mem_map.1 ht
  obtain⟨x,hx,e⟩:=List.mem_map.1 k
  exact h.new s hs (zii hi (hT x hx) (ti s hs) e▸hx)
theorem zhm {n c:Int}{E E':List Tie}{S:List Int}{f:Int->Int}(hE:∀t∈E,inr n t) (hi:zgg f S) (hf:∀v∈S,0<=f v/\f v<c):∀ (rows:List (List Int)) (first:Bool) (T:List Tie) (ks:List Int),(∀v∈ks,v∈S)->(∀r∈rows,∀v∈r,v∈S)->
  (∀t∈T,t.f0∈S/\t.f1∈S/\t.f0<t.f1)->(∀r∈rows,∀t∈ties r,zhc f t∈E')->chain n E first T ks rows->chain c E' first (T.map (zhc f)) (ks.map f) (rows.map fun r=>r.map f)
 |[],_,_,_,_,_,_,_,_=>trivial
 |r::rows,first,T,ks,hk,hr,hT,hE',h=>by
  have h1:=zjE hE hi hf hk (hr r List.mem_cons_self) hT (hE' r List.mem_cons_self) h.1
  refine⟨h1,?_⟩
  show chain c E' false (T.map (zhc f)++ties (r.map f)) (zbQ (ks.map f) (r.map f)) _
  rw[zeY,←List.map_append,zfg hi r ks hk (hr r List.mem_cons_self)]
  refine zhm hE hi hf rows false _ _ (fun v hv=>?_) (fun r' hr'=>hr r' (List.mem_cons_of_mem _ hr')) (fun t ht=>?_) (fun r' hr'=>hE' r' (List.mem_cons_of_mem _ hr')) h.2
  ·rcases(zdP r ks v).1 hv with q|q
   ·exact hk v q
   ·exact hr r List.mem_cons_self v q
  ·rcases List.mem_append.1 ht with q|q
   ·exact hT t q
   ·exact zg4 hE (hr r List.mem_cons_self) h.1.tied t q
theorem ziv (f:Int->Int):∀ (rows:List (List Int)) (T:List Tie),zeS (T.map (zhc f)) (rows.map fun r=>r.map f)=(zeS T rows).map (zhc f)
 |[],T=>rfl
 |r::rows,T=>by
  show zeS (T.map (zhc f)++ties (r.map f)) _=_
  rw[zeY,←List.map_append]
  exact ziv f rows (T++ties r)
theorem ziu {f:Int->Int}{S:List Int}(hi:zgg f S):∀ (rows:List (List Int)) (ks:List Int),(∀v∈ks,v∈S)->(∀r∈rows,∀v∈r,v∈S)->zdW (ks.map f) (rows.map fun r=>r.map f)=(zdW ks rows).map f
 |[],ks,_,_=>rfl
 |r::rows,ks,hk,hr=>by
  show zdW (zbQ (ks.map f) (r.map f)) _=_
  rw[zfg hi r ks hk (hr r List.mem_cons_self)]
  exact ziu hi rows (zbQ ks r) (fun v hv=>by
   rcases(zdP r ks v).1 hv with q|q
   ·exact hk v q
   ·exact hr r List.mem_cons_self v q) (fun r' hr'=>hr r' (List.mem_cons_of_mem _ hr'))
theorem ziz:∀ (rows:List (List Int)) (T:List Tie) (t:Tie),t∈zeS T rows↔t∈T\/∃r∈rows,t∈ties r
 |[],T,t=>by simp[zeS]
 |r::rows,T,t=>by
  show t∈zeS (T++ties r) rows↔_
  rw[ziz rows];simp[or_assoc]
theorem zjo {n c:Int}{E E':List Tie}{rows:List (List Int)}(hE:∀t∈E,inr n t) (h:chain n E true [] [] rows) (h0:∀r∈rows,∀v∈r,0<=v/\v<n) (hc:c=((zdW [] rows).length:Int)) (hE':alike E' ((zeS [] rows).map (zhc (nm (zdW [] rows))))):
  zcE c E' true [] [] (rows.map fun r=>r.map (nm (zdW [] rows))):=by
 have hkr:∀v∈zdW [] rows,0<=v/\v<n:=fun v hv=>by
  rcases(zeL rows [] v).1 hv with q|⟨r,hr,q⟩
  ·simp at q
  ·exact h0 r hr v q
 have hi:=zlN (ks:=zdW [] rows) (fun v hv=>(hkr v hv).1)
 have hnd:(zdW [] rows).Nodup:=zfl rows (by simp)
 have hS:∀r∈rows,∀v∈r,v∈zdW [] rows:=fun r hr v hv=>(zeL rows [] v).2 (Or.inr ⟨r,hr,hv⟩)
 have hf:∀v∈zdW [] rows,0<=nm (zdW [] rows) v/\nm (zdW [] rows) v<c:=fun v hv=>by
  have h1:=zk9 (zdW [] rows) (hkr v hv).1 (hkr v hv).2 hv
  rw[zl1 hnd hkr]at h1
  unfold nm
  omega
 have hm:=zhm (E':=E') hE hi hf rows true [] [] (by simp) hS (by simp) (fun r hr t ht=>(hE'.2 _).2 (List.mem_map_of_mem ((ziz rows [] t).2 (Or.inr ⟨r,hr,ht⟩)))) h
 refine zgG _ true [] [] hm ?_ ?_
 ·have:=ziv (nm (zdW [] rows)) rows []
  rw[List.map_nil]at this
  rw[this];exact hE'.1.symm
 ·have:=ziu hi rows [] (by simp) hS
  rw[List.map_nil]at this
  rw[this,List.length_map];exact hc.symm
end Go.Proofs.Ytgeonpciodepgaa.G
namespace Go.Proofs.Ytgeonpciodepgaa.P
open Go.RowKit Go.Proofs.YtgeonpciodepgaaW.PrintWords Go.Proofs.Ytgeonpciodepgaa.G Go.Proofs.YtgeonpciodepgaaW.PrintWords.Kd
def zgx (n:Int) (E:List Tie) (a b:Int):Prop:=ok n E/\(0<=a/\a<n)/\(0<=b/\b<n)/\a≠b/\zbf a b∉E
instance(n:Int) (E:List Tie) (a b:Int):Decidable (zgx n E a b):=by unfold zgx;infer_instance
def zmP (E:List Tie) (a b:Int):List Tie:=zed (E++[zbf a b])
theorem zkb (n a b:Int) (E:List S59) (hE:(E.length:Int)<=1048576):Ev (fun k=>zbG.f k n E a b) (if zgx n E a b then(n,zmP E a b,true) else(0,[],false)):=by
 have hb:(E.length:Int)<big:=by unfold big;omega
 unfold zbG.f
 have l1:(([]:List S59)).length+E.length<8796093022208:=by simp;omega
 have l2:(([]:List S59)++E).length+([(⟨(zbf a b).f0,(zbf a b).f1⟩:S59)]:List S59).length<8796093022208:=by simp;omega
 by_cases c1:ok n E
 ·refine Ev.bind (ziD n E hb) ?_
  simp only[decide_eq_true c1,if_true,zh_,Option.bind_some]
  by_cases c2:0<=a/\a<n
  ·simp only[decide_eq_true c2,if_true]
   by_cases c3:0<=b/\b<n
   ·simp only[decide_eq_true c3,if_true]
    by_cases c4:a=b
    ·simp only[if_pos c4]
     rw[if_neg (fun h=>h.2.2.2.1 c4)]
     exact Ev.val rfl
    ·simp only[if_neg c4]
     refine Ev.bind (zlz n a b E hb) ?_
     by_cases c5:zbf a b∈E
     ·simp only[decide_eq_true c5,if_true]
      rw[if_neg (fun h=>h.2.2.2.2 c5)]
      exact Ev.val rfl
     ·simp only[decide_eq_false c5,Bool.false_eq_true,if_false,Option.bind_some,if_pos l1,zjn,if_pos l2]
      rw[if_pos (show zgx n E a b from⟨c1,c2,c3,c4,c5⟩)]
      exact Ev.val (by simp[zmP])
   ·simp only[decide_eq_false c3,Bool.false_eq_true,if_false]
    rw[if_neg (fun h=>c3 h.2.2.1)]
    exact Ev.val rfl
  ·simp only[decide_eq_false c2,Bool.false_eq_true,if_false]
   rw[if_neg (fun h=>c2 h.2.1)]
   exact Ev.val rfl
 ·refine Ev.bind (ziD n E hb) ?_
  simp only[decide_eq_false c1,Bool.false_eq_true,if_false]
  rw[if_neg (fun h=>c1 h.1)]
  exact Ev.val rfl
theorem zfS (E:List Tie) (a b:Int):(zmP E a b).Perm (E++[zbf a b]):=zer _
theorem zif {E:List Tie}{a b:Int}{t:Tie}:t∈zmP E a b↔t∈E\/t=zbf a b:=by
 rw[(zfS E a b).mem_iff];simp
theorem zmh {n:Int}{E:List Tie}{a b:Int}(h:zgx n E a b):ok n (zmP E a b):=by
 obtain⟨c1,c2,c3,c4,c5⟩:=h
 refine⟨c1.1,c1.2.1,fun t ht=>?_,?_⟩
 ·rcases zif.1 ht with q|rfl
  ·exact c1.2.2.1 t q
  ·unfold inr zbf
   split
   ·exact⟨c2.1,by assumption,c3.2⟩
   ·exact⟨c3.1,by show b<a;omega,c2.2⟩
 ·rw[zei]
  have s:=zfu (E++[zbf a b])
  have nd:(zmP E a b).Nodup:=(zfS E a b).nodup_iff.2 (by
   rw[List.nodup_append]
   exact⟨zhy c1.2.2.2,by simp,fun x hx y hy e=>by simp at hy;subst hy;subst e;exact c5 hx⟩)
  refine(List.Pairwise.and s nd).imp (fun{x y} h=>?_)
  rcases zf7 x y with q|q|q
  ·exact q
  ·exact absurd q h.2
  ·exact absurd q h.1
theorem zmt (n cut:Int) (E:List S59) (P:List Int) (a b:List (List Int)) (row:List Int) (hb:((a++row::b).length:Int)<big) (hr:∀v∈row,0<=v/\v<n) (hrl:(row.length:Int)<big):
  ∀ (suf p:List Int) (K:List Bool) (ks:List Int),p++suf=row->kn n K ks->(∀K',kn n K' (zbQ ks suf)->Ev (fun k=>zad.l0 k (a++row::b) cut P K' ((a++[row]).length:Int) n E) true)->
  Ev (fun k=>zad.l1 k (a++row::b) cut P K (a.length:Int) (p.length:Int) n E) true:=by
 have ha:(a.length:Int)<big:=zch hb
 intro suf
 induction suf with
 |nil=>
  intro p K ks e hK nx
  rw[List.append_nil]at e
  subst e
  have c:¬ (p.length:Int)<(p.length:Int):=by omega
  exact Ev.step (fun k=>by simp only[zad.l1,nn,zbB,if_true,zcZ,if_neg c,zbZ (t:=p) ha]<;>exact rfl) (nx K hK)
 |cons v suf ih=>
  intro p K ks e hK nx
  have hv:=hr v (by rw[←e];simp)
  have c1:(p.length:Int)<(row.length:Int):=by rw[←e];exact zbB p v suf
  have rv:rd row (p.length:Int)=v:=by rw[←e];exact zcd p v suf
  have hs:wrap64 ((p.length:Int)+1)=((p++[v]).length:Int):=zbZ (by unfold big at*;omega)
  have c2:v<(K.length:Int):=by rw[hK.1];exact hv.2
  exact Ev.step (fun k=>by simp only[zad.l1,nn,zbB,if_true,zcZ,if_pos c1,rv,if_pos hv.1,if_pos c2,hs]<;>exact rfl) (ih (p++[v]) (K.set v.toNat true) (zha ks v) (by rw[←e];simp) (zlM hK hv.1 hv.2) nx)
theorem zmc (n:Int) (E:List S59) (P:List Int) (tl:List (List Int)):∀ (b a:List (List Int)) (K:List Bool) (ks:List Int),((a++(b++tl)).length:Int)<big->(∀r∈b,∀v∈r,0<=v/\v<n)->(∀r∈b,(r.length:Int)<big)->kn n K ks->
  (∀K',kn n K' (zdW ks b)->Ev (fun k=>zad.l2 k (a++(b++tl)) ((a++b).length:Int) P K' 0 n E 0) true)->
  Ev (fun k=>zad.l0 k (a++(b++tl)) ((a++b).length:Int) P K (a.length:Int) n E) true:=by
 intro b
 induction b with
 |nil=>
  intro a K ks hb hr hl hK nx
  have c:¬ (a.length:Int)<((a++[]).length:Int):=by simp
  exact Ev.step (fun k=>by simp only[zad.l0,if_neg c]<;>exact rfl) (nx K hK)
 |cons row b ih=>
  intro a K ks hb hr hl hK nx
  have c:(a.length:Int)<((a++row::b).length:Int):=zbB a row b
  have e1:a++(row::b++tl)=(a++[row])++(b++tl):=by simp
  have e2:a++row::b=(a++[row])++b:=by simp
  refine Ev.step (fun k=>by simp only[zad.l0,if_pos c]<;>exact rfl) ?_
  refine zmt n _ E P a (b++tl) row hb (hr row List.mem_cons_self) (hl row List.mem_cons_self) row [] K ks rfl hK (fun K' hK'=>?_)
  have nx':=ih (a++[row]) K' (zbQ ks row) (by rw[←e1];exact hb) (fun r h=>hr r (List.mem_cons_of_mem _ h)) (fun r h=>hl r (List.mem_cons_of_mem _ h)) hK' (fun K2 h2=>by rw[←e1,←e2];exact nx K2 h2)
  rw[←e1,←e2]at nx'
  exact nx'
theorem zll (n cut:Int) (E:List S59) (ears:List (List Int)) (K:List Bool) (ks:List Int) (h8:n<=8) (hK:kn n K ks):∀ (d:Nat) (v:Int) (P:List Int),v+d=n->0<=v->(P.length:Int)=n->(∀u,0<=u->u<v->rd P u=nm ks u)->
  (∀P',(P'.length:Int)=n->(∀u,0<=u->u<n->rd P' u=nm ks u)->Ev (fun k=>zad.l3 k ears cut P' [] 0 (nm ks n) []) true)->
  Ev (fun k=>zad.l2 k ears cut P K v n E (nm ks v)) true:=by
 intro d
 induction d with
 |zero=>
  intro v P h h0 hP hp nx
  obtain rfl:v=n:=by omega
  have c:¬v<v:=by omega
  exact Ev.step (fun k=>by simp only[zad.l2,if_neg c]<;>exact rfl) (nx P hP hp)
 |succ d ih=>
  intro v P h h0 hP hp nx
  have c:v<n:=by omega
  have c1:v<(P.length:Int):=by omega
  have c2:v<(K.length:Int):=by rw[hK.1];exact c
  have w:wrap64 (v+1)=v+1:=w64 (by omega) (by omega)
  have hk:=hK.2 v h0 c
  have ps:=zid ks h0
  have hle:pl ks v<=v.toNat:=by
   unfold pl
   have:=List.length_filter_le (fun u=>decide (u∈ks)) (zdm v)
   rw[zdO]at this;exact this
  have w2:wrap64 (nm ks v+1)=nm ks v+1:=w64 (by unfold nm;omega) (by unfold nm;omega)
  have hp':∀u,0<=u->u<v+1->rd (P.set v.toNat (nm ks v)) u=nm ks u:=fun u u0 u1=>by
   rw[zjX h0 c1 u0]
   by_cases q:v=u
   ·rw[if_pos q,q]
   ·rw[if_neg q];exact hp u u0 (by omega)
  have nx2:=ih (v+1) (P.set v.toNat (nm ks v)) (by omega) (by omega) (by rw[List.length_set];exact hP) hp' nx
  by_cases m:v∈ks
  ·rw[decide_eq_true m]at hk
   rw[if_pos m]at ps
   have e:nm ks (v+1)=nm ks v+1:=by unfold nm;omega
   rw[e]at nx2
   exact Ev.step (fun k=>by simp only[zad.l2,if_pos c,if_pos h0,if_pos c1,Option.bind_some,if_pos c2,hk,if_true,w,w2]<;>exact rfl) nx2
  ·rw[decide_eq_false m]at hk
   rw[if_neg m]at ps
   have e:nm ks (v+1)=nm ks v:=by unfold nm;omega
   rw[e]at nx2
   exact Ev.step (fun k=>by simp only[zad.l2,if_pos c,if_pos h0,if_pos c1,Option.bind_some,if_pos c2,hk,Bool.false_eq_true,if_false,w]<;>exact rfl) nx2
theorem zjc {X D:List Tie}{a b:Int}(h:alike X D):alike (zmP X a b) (D++[zbf a b]):=
 ⟨by rw[(zfS X a b).length_eq,List.length_append,List.length_append,h.1],fun t=>by rw[zif,List.mem_append,h.2,List.mem_singleton]⟩
theorem zla (n c cut:Int) (E:List S59) (hE:ok n E) (P:List Int) (ks:List Int) (hPl:(P.length:Int)=n) (hP:∀u,0<=u->u<n->rd P u=nm ks u) (a b:List (List Int)) (row:List Int) (hb:((a++row::b).length:Int)<big) (hrl:row.length<=1000)
  (few:List (List Int)) (hfl:few.length<=1000) (D:List Tie) (hr:∀v∈row,(0<=v/\v<n)/\v∈ks) (hin:∀v∈ks,0<=nm ks v/\nm ks v<c) (hi:zgg (nm ks) ks) (ht:∀t∈ties row,t∈E) (hnd:(D++ties row).Nodup) (hD:∀t∈D,t.f0∈ks/\t.f1∈ks/\t.f0<t.f1)
  (nx:∀X:List S59,ok c X->alike X ((D++ties row).map (zhc (nm ks)))->Ev (fun k=>zad.l3 k (a++row::b) cut P (few++[row.map (nm ks)]) ((a++[row]).length:Int) c X) true):
  ∀ (suf p:List Int) (X:List S59),p++suf=row->ok c X->alike X ((D++ties p).map (zhc (nm ks)))->Ev (fun k=>zad.l4 k (a++row::b) cut P few (a.length:Int) (p.map (nm ks)) (p.length:Int) c X) true:=by
 have ha:(a.length:Int)<big:=zch hb
 have ti:=zg4 hE.2.2.1 (S:=ks) (fun v hv=>(hr v hv).2) ht
 intro suf
 induction suf with
 |nil=>
  intro p X e hX hal
  rw[List.append_nil]at e
  subst e
  have c1:¬ (p.length:Int)<(p.length:Int):=by omega
  have f5:few.length<5864062014805:=by omega
  exact Ev.step (fun k=>by simp only[zad.l4,nn,zbB,if_true,zcZ,if_neg c1,if_pos f5,zbZ (t:=p) ha]<;>exact rfl) (nx X hX hal)
 |cons v suf ih=>
  intro p X e hX hal
  obtain⟨hv,hvk⟩:=hr v (by rw[←e];simp)
  have c1:(p.length:Int)<(row.length:Int):=by rw[←e];exact zbB p v suf
  have rv:rd row (p.length:Int)=v:=by rw[←e];exact zcd p v suf
  have hpb:(p.length:Int)<big:=by unfold big;omega
  have hs:wrap64 ((p.length:Int)+1)=((p++[v]).length:Int):=zbZ hpb
  have c2:v<(P.length:Int):=by rw[hPl];exact hv.2
  have pv:=hP v hv.1 hv.2
  have o8:(p.map (nm ks)).length<17592186044416:=by rw[List.length_map];omega
  have em:p.map (nm ks)++[nm ks v]=(p++[v]).map (nm ks):=by simp
  have e':(p++[v])++suf=row:=by rw[←e];simp
  rcases List.eq_nil_or_concat p with rfl|⟨q,u,rfl⟩
  ·have c0:¬ (([]:List Int).length:Int)>0:=by simp
   refine Ev.step (fun k=>by simp only[zad.l4,nn,zbB,if_true,zcZ,if_pos c1,rv,if_pos hv.1,if_pos c2,if_pos o8,Option.bind_some,if_neg c0,hs,pv,em]<;>exact rfl) (ih ([]++[v]) X e' hX ?_)
   simpa [ties] using hal
  ·rw[List.concat_eq_append]at*
   have c0:((q++[u]).length:Int)>0:=by rw[List.length_append];simp only[List.length_cons,List.length_nil];omega
   obtain⟨hu,huk⟩:=hr u (by rw[←e];simp)
   have lp:=zcb q u hpb
   have c3:0<=wrap64 (((q++[u]).length:Int) - 1):=by rw[lp];exact nn _
   have yl:(((q++[u])++[v]).map (nm ks)).length=q.length+2:=by simp
   have c4:wrap64 (((q++[u]).length:Int) - 1)<((((q++[u])++[v]).map (nm ks)).length:Int):=by rw[lp,yl];omega
   have c5:((q++[u]).length:Int)<((((q++[u])++[v]).map (nm ks)).length:Int):=by rw[yl,List.length_append];simp only[List.length_cons,List.length_nil];omega
   have r1:rd (((q++[u])++[v]).map (nm ks)) (wrap64 (((q++[u]).length:Int) - 1))=nm ks u:=by
    rw[lp]
    have:=zcd (q.map (nm ks)) (nm ks u) [nm ks v]
    rw[List.length_map]at this
    simpa using this
   have r2:rd (((q++[u])++[v]).map (nm ks)) ((q++[u]).length:Int)=nm ks v:=by
    have:=zcd ((q++[u]).map (nm ks)) (nm ks v) []
    rw[List.length_map]at this
    simpa using this
   have et:ties row=ties (q++[u])++zbf u v::ties (v::suf):=by rw[←e,show(q++[u])++v::suf=q++u::v::suf by simp];exact zib q u v suf
   have htE:zbf u v∈E:=ht _ (by rw[et];simp)
   have hne:=(zbY (hE.2.2.1 _ htE)).2.2
   have hnew:zbf u v∉D++ties (q++[u]):=by
    rw[et,←List.append_assoc]at hnd
    have:=(List.nodup_append.1 hnd).2.2
    exact fun k=>this _ k _ List.mem_cons_self rfl
   have hold:∀t∈D++ties (q++[u]),t.f0∈ks/\t.f1∈ks/\t.f0<t.f1:=fun t h=>by
    rcases List.mem_append.1 h with h|h
    ·exact hD t h
    ·exact ti t (by rw[et];exact List.mem_append_left _ h)
   have can:zgx c X (nm ks u) (nm ks v):=⟨hX,hin u huk,hin v hvk,fun k=>hne (hi u huk v hvk k),fun k=>by
    rw[←zfn]at k
    obtain⟨s,hs1,hs2⟩:=List.mem_map.1 ((hal.2 _).1 k)
    exact hnew (zii hi (hold s hs1) (ti _ (by rw[et];simp)) hs2▸hs1)⟩
   have hl:=zc2 hX
   have na:=zkb c (nm ks u) (nm ks v) X (by omega)
   rw[if_pos can]at na
   refine Ev.step (fun k=>by simp only[zad.l4,nn,zbB,if_true,zcZ,if_pos c1,rv,if_pos hv.1,if_pos c2,if_pos o8,Option.bind_some,if_pos c0,hs,pv,em,if_pos c3,if_pos c4,if_pos c5,r1,r2]<;>exact rfl) (Ev.bind na (ih ((q++[u])++[v]) _ e' (zmh can) ?_))
   have:=zjc (a:=nm ks u) (b:=nm ks v) hal
   rw[←zfn]at this
   rw[show(q++[u])++[v]=q++[u,v] by simp,zeW,←List.append_assoc,List.map_append]
   exact this
theorem zky (n c:Int) (E:List S59) (hE:ok n E) (P:List Int) (ks:List Int) (hPl:(P.length:Int)=n) (hP:∀u,0<=u->u<n->rd P u=nm ks u) (tl:List (List Int)) (hin:∀v∈ks,0<=nm ks v/\nm ks v<c) (hi:zgg (nm ks) ks):
  ∀ (b a:List (List Int)) (X:List S59),((a++(b++tl)).length:Int)<=1000->(∀r∈b,r.length<=1000/\(∀v∈r,(0<=v/\v<n)/\v∈ks)/\∀t∈ties r,t∈E)->(zeS (zeS [] a) b).Nodup->(∀t∈zeS [] a,t.f0∈ks/\t.f1∈ks/\t.f0<t.f1)->ok c X->alike X ((zeS [] a).map (zhc (nm ks)))->
  (∀X:List S59,ok c X->alike X ((zeS [] (a++b)).map (zhc (nm ks)))->Ev (fun k=>zcD.f k c X ((a++b).map fun r=>r.map (nm ks))) true)->
  Ev (fun k=>zad.l3 k (a++(b++tl)) ((a++b).length:Int) P (a.map fun r=>r.map (nm ks)) (a.length:Int) c X) true:=by
 intro b
 induction b with
 |nil=>
  intro a X hb hr hnd hD hX hal nx
  have c1:¬ (a.length:Int)<((a++[]).length:Int):=by simp
  have n1:=nx X hX (by rw[List.append_nil];exact hal)
  rw[List.append_nil]at n1
  exact Ev.step (fun k=>by simp only[zad.l3,if_neg c1]<;>exact rfl) (Ev.bind n1 (Ev.val rfl))
 |cons row b ih=>
  intro a X hb hr hnd hD hX hal nx
  have c1:(a.length:Int)<((a++row::b).length:Int):=zbB a row b
  have e1:a++(row::b++tl)=(a++[row])++(b++tl):=by simp
  have e2:a++row::b=(a++[row])++b:=by simp
  obtain⟨h1,h2,h3⟩:=hr row List.mem_cons_self
  have eD:zeS [] (a++[row])=zeS [] a++ties row:=by rw[zin];rfl
  obtain⟨U,hU⟩:=ziN b (zeS [] a++ties row)
  have hnd2:(zeS (zeS [] a++ties row) b).Nodup:=hnd
  have hb1:(a.length:Int)<=1000:=by simp at hb;omega
  refine Ev.step (fun k=>by simp only[zad.l3,if_pos c1]<;>exact rfl) ?_
  refine zla n c _ E hE P ks hPl hP a (b++tl) row (by unfold big;have:((a++row::(b++tl)).length:Int)<=1000:=hb;omega) h1 _ (by rw[List.length_map];omega) (zeS [] a) h2 hin hi h3 (by rw[hU]at hnd2;exact(List.nodup_append.1 hnd2).1) hD (fun X' hX' hal'=>?_) row [] X rfl hX (by simpa [ties] using hal)
  have n1:=ih (a++[row]) X' (by rw[←e1];exact hb) (fun r h=>hr r (List.mem_cons_of_mem _ h)) (by rw[eD];exact hnd2) (fun t ht=>by
   rw[eD]at ht
   rcases List.mem_append.1 ht with q|q
   ·exact hD t q
   ·exact zg4 hE.2.2.1 (S:=ks) (fun v hv=>(h2 v hv).2) h3 t q) hX' (by rw[eD];exact hal') (fun X2 a1 a2=>by rw[←e2]at a2⊢;exact nx X2 a1 a2)
  rw[←e1,←e2,List.map_append]at n1
  exact n1
theorem zgH {n:Int}{E:List Tie}:∀ (rows:List (List Int)) (first:Bool) (T:List Tie) (ks:List Int),chain n E first T ks rows->∀r∈rows,(∀v∈r,0<=v/\v<n)/\∀t∈ties r,t∈E
 |[],_,_,_,_,r,hr=>by simp at hr
 |x::rows,first,T,ks,h,r,hr=>by
  rcases List.mem_cons.1 hr with rfl|q
  ·exact⟨h.1.zdm,h.1.tied⟩
  ·exact zgH rows false _ _ h.2 r q
theorem zi2 (n:Int) (E:List S59) (ears:List (List Int)) (hs:short ears) (hall:zjW n E ears) (cut:Nat) (c1:1<=cut) (c2:cut<=ears.length) (hEl:E.length<=60):
  Ev (fun k=>zad.l0 k ears (cut:Int) (List.replicate n.toNat 0) (List.replicate n.toNat false) 0 n E) true:=by
 obtain⟨hE,hn,hea⟩:=hall
 obtain⟨rows,hrw⟩:∃rows,rows=ears.take cut:=⟨_,rfl⟩
 obtain⟨tl,htl⟩:∃tl,tl=ears.drop cut:=⟨_,rfl⟩
 have ee:ears=[]++(rows++tl):=by rw[hrw,htl,List.nil_append,List.take_append_drop]
 have el:((([]:List (List Int))++rows).length:Int)=(cut:Int):=by rw[List.nil_append,hrw,List.length_take];omega
 have hch:chain n E true [] [] rows:=by rw[hrw];exact zgt ears cut true [] [] hea
 have hcr:=zgH rows true [] [] hch
 have hl:=hs.1
 have hn0:=hE.1
 have h8:=hE.2.1
 have hrs:∀r∈rows,r.length<=12:=fun r hr=>hs.2 r (by rw[hrw]at hr;exact List.mem_of_mem_take hr)
 have hkr:∀v∈zdW [] rows,0<=v/\v<n:=fun v hv=>by
  rcases(zeL rows [] v).1 hv with q|⟨r,hr,q⟩
  ·simp at q
  ·exact(hcr r hr).1 v q
 have hnd:(zdW [] rows).Nodup:=zfl rows (by simp)
 have hi:=zlN (ks:=zdW [] rows) (fun v hv=>(hkr v hv).1)
 have hc:nm (zdW [] rows) n=((zdW [] rows).length:Int):=by unfold nm;rw[zl1 hnd hkr]
 have hle:(zdW [] rows).length<=n.toNat:=by
  have:=zdg hnd (m:=zdm n) (fun x hx=>zfY.2 (hkr x hx))
  rw[zdO]at this;exact this
 have hin:∀v∈zdW [] rows,0<=nm (zdW [] rows) v/\nm (zdW [] rows) v<nm (zdW [] rows) n:=fun v hv=>by
  have h1:=zk9 (zdW [] rows) (hkr v hv).1 (hkr v hv).2 hv
  unfold nm;omega
 have K0:kn n (List.replicate n.toNat false) []:=⟨by rw[List.length_replicate];omega,fun x x0 x1=>by
  unfold zcI
  rw[List.getD_eq_getElem?_getD,List.getElem?_replicate,if_pos (by omega)]
  simp⟩
 have start:=zmc n E (List.replicate n.toNat 0) tl rows [] (List.replicate n.toNat false) [] (by rw[←ee];unfold big;omega) (fun r hr=>(hcr r hr).1) (fun r hr=>by have:=hrs r hr;unfold big;omega) K0
 rw[←ee,el]at start
 refine start (fun K hK=>?_)
 have pz:nm (zdW [] rows) 0=0:=rfl
 have pl2:=zll n (cut:Int) E ears K (zdW [] rows) h8 hK n.toNat 0 (List.replicate n.toNat 0) (by omega) (Int.le_refl _) (by rw[List.length_replicate];omega) (fun u u0 u1=>by omega)
 rw[pz]at pl2
 refine pl2 (fun P hPl hP=>?_)
 have b3:=zky n (nm (zdW [] rows) n) E hE P (zdW [] rows) hPl hP tl hin hi rows [] [] (by rw[←ee];omega) (fun r hr=>⟨by have:=hrs r hr;omega,fun v hv=>⟨(hcr r hr).1 v hv,(zeL rows [] v).2 (Or.inr ⟨r,hr,hv⟩)⟩,(hcr r hr).2⟩) (zfZ rows true [] [] hch (by simp)) (by simp[zeS]) ⟨by rw[hc];omega,by rw[hc];omega,by simp,by simp[asc]⟩ (by simp[zeS];exact alike_refl _)
 rw[←ee,el]at b3
 refine b3 (fun X hX hal=>?_)
 rw[List.nil_append]at hal⊢
 have hXl:=zc2 hX
 obtain⟨bb,e1,i1⟩:=zfy (nm (zdW [] rows) n) X (rows.map fun r=>r.map (nm (zdW [] rows))) (by unfold big;omega) (by rw[List.length_map,hrw,List.length_take];unfold big;omega) (by
  have:=zfQ (r:=rows.map fun r=>r.map (nm (zdW [] rows))) (fun x hx=>by
   obtain⟨r,hr,rfl⟩:=List.mem_map.1 hx
   rw[List.length_map];exact hrs r hr)
  rw[List.length_map,hrw,List.length_take]at this
  rw[hrw];omega)
 have tt:bb=true:=i1.2 ⟨hX,fun e=>by
  have:rows=[]:=List.map_eq_nil_iff.1 e
  have h2:=el
  rw[this]at h2
  simp at h2;omega,zjo hE.2.2.1 hch (fun r hr=>(hcr r hr).1) hc hal⟩
 rw[tt]at e1
 exact e1
theorem zf4 (l m:List Int) (_hl:l.length<=9223372036854775807) (h:∀x∈l,0<=x/\x<=255) (hm:m.length<=9223372036854775807) (_h2:∀x∈m,0<=x/\x<=255):∃k,zad.f k l m=some true:=by
 refine Ev.rounds ?_
 have yes:Ev (fun k=>zad.j0 k l m true) true:=by
  refine Ev.step (fun k=>by simp only[zad.j0,if_true]<;>exact rfl) ?_
  exact Ev.val rfl
 unfold zad.f
 by_cases d:(l.length:Int)>1048576
 ·simp only[if_pos d];exact yes
 simp only[if_neg d]
 by_cases d2:(m.length:Int)>1048576
 ·rw[decide_eq_true d2];exact yes
 rw[decide_eq_false d2]
 refine Ev.step (fun k=>by simp only[zad.j0,Bool.false_eq_true,if_false]<;>exact rfl) ?_
 obtain⟨n,E,r,d1,hE,hr⟩:=zhH l h
 have hEb:(E.length:Int)<big:=by unfold big;omega
 have hrb:(r.length:Int)<big:=by have:=hr.1;unfold big;omega
 have hT:tot r<4000000:=by have:=hr.1;have:=zfQ hr.2;omega
 obtain⟨b1,e1,i1⟩:=zfy n E r hEb hrb hT
 obtain⟨b2,e2,i2⟩:=zhD n E r hEb hrb hT
 have hb:b1=b2:=by rw[Bool.eq_iff_iff,i1,i2]
 subst hb
 refine Ev.bind d1 (Ev.bind e1 (Ev.bind e2 ?_))
 have nb:¬ (b1 !=b1)=true:=by simp
 simp only[if_neg nb]
 by_cases t:b1=true
 ·subst t
  have hall:=i1.1 rfl
  have h0:=hall.1.1
  have h8:=hall.1.2.1
  have hl0:¬ (r.length:Int)=0:=by
   have:=hall.2.1
   cases r with
   |nil=>exact absurd rfl this
   |cons x s=>simp only[List.length_cons];omega
  have i0:0<=(m.length:Int)%(r.length:Int):=Int.emod_nonneg _ hl0
  have i3:(m.length:Int)%(r.length:Int)<(r.length:Int):=Int.emod_lt_of_pos _ (by omega)
  have hr70:=hr.1
  have q1:n.toNat<=35184372088832:=by omega
  have q2:n.toNat<=281474976710656:=by omega
  have w:wrap64 (1+(m.length:Int)%(r.length:Int))=((1+((m.length:Int)%(r.length:Int)).toNat:Nat):Int):=by rw[w64 (by omega) (by omega)];omega
  refine Ev.step (fun k=>by simp only[zad.j1,Bool.not_true,Bool.false_eq_true,if_false,if_neg hl0,if_pos h0,if_pos q1,if_pos q2,w]<;>exact rfl) ?_
  exact zi2 n E r hr hall _ (by omega) (by omega) hE
 ·rw[Bool.not_eq_true]at t
  subst t
  refine Ev.step (fun k=>by simp only[zad.j1,Bool.not_false,if_true]<;>exact rfl) ?_
  exact Ev.bind e2 (Ev.val rfl)
end Go.Proofs.Ytgeonpciodepgaa.P
namespace Go.Proofs.Ytgeonpciodepgaa.P
open Go.RowKit Go.Proofs.YtgeonpciodepgaaW.PrintWords Go.ChangeShapes Go.WideShapes Go.Deep Go.Proofs.YtgeonpciodepgaaW.PrintWords.Kd
theorem zhg {H:Type}{enc:TypeId×Value->H}{Pr:Program}{t e:TypeId}{k:IntKind}(ht:Pr.underlying t=some (.slice e)) (he:Pr.underlying e=some (.int k)) (hc:Pr.cellsOf e=1) {w:World}{base:Nat}{spare:Nat->Bool}{held:Bool}{fuel:Nat}{cs:List Value}{x:DataW H×List MemPlace}
  (h:DataW.trod enc Pr w base spare held fuel t cs=some x):
  ∃ (A:Option Addr) (c:Nat) (l:List Int),cs=[.slice A l.length c]/\l.length<=c/\Kd.C (Kd.int k) w A l.length l/\∀n∈l,(Lit.int k n).wf=true:=by
 rcases open_slice1 ht hc h with⟨rfl,_⟩|⟨a,len,cap,m,n,V,D,Pl,rfl,hb,hl,hm,hmm,hx,hi⟩
 ·exact⟨none,0,[],rfl,Nat.le_refl _,⟨rfl,by simp,fun h=>by simp at h⟩,fun t ht=>by simp at ht⟩
 ·have hlm:len<=m:=by rw[hmm];split<;>omega
  have key:∀i,i<len->∃z:Int,w.cell? (a.add i)=some (.int k z)/\(Lit.int k z).wf=true:=by
   intro i hil
   obtain⟨h0,r0⟩:=hi i (by omega)
   obtain⟨n0,e0,_,w0⟩:=DataW.trod_int he r0
   simp only[List.cons.injEq,and_true]at e0
   exact⟨n0,by rw[h0,e0],w0⟩
  obtain⟨f,hf⟩:=choose_lt key
  refine⟨some a,cap,(List.range len).map f,by simp,by simpa using hl,⟨by simp,?_,fun _=>⟨a,rfl,fun j p hj=>?_⟩⟩,fun t ht=>?_⟩
  ·unfold maxLen at hm;simp;omega
  ·obtain⟨hj1,hj2⟩:=List.getElem?_eq_some_iff.1 hj
   simp at hj1 hj2
   subst hj2
   refine⟨[.int k (f j)],rfl,rfl,fun i u hu=>?_⟩
   match i,hu with
   |0,hu=>
    simp at hu;subst hu
    have:j*(Kd.int k).sz+0=j:=Nat.mul_one j
    rw[this]
    exact(hf j hj1).1
  ·simp at ht
   obtain⟨i,hil,rfl⟩:=ht
   exact(hf i hil).2
end Go.Proofs.Ytgeonpciodepgaa.P
