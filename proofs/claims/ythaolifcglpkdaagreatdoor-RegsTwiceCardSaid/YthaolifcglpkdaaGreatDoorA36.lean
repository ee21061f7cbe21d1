/-
  Part A36: lemmas, each with its own conditions.
-/
import Derived.Test.YthaolifcglpkdaaGreatDoorA35
set_option maxRecDepth 100000
set_option maxHeartbeats 0
set_option linter.all false
section
namespace Go.Ago
open Go.Proofs List Nat Tryz
theorem cE.jv {c:Cd}(j:cE c){q:Nat}(e:q<c.b.l.length):∀i∈c.b.l[q].ins.l,iy c.b.l[q].aj c.b.l[q].ins.l.length i:=fun i g=>by
 have k:=(kE j.ok e).2 i g;obtain⟨u,s⟩:=j.ok;obtain⟨m,n⟩:=s q e i g;obtain⟨_,o,t,f,v⟩:=m;have a:∀{p:Bool} {r:Int},(p=false->r = -1)->0≤r->p=true:=fun {p} {r} w x=>by
  grind
 refine⟨k,a t,a f,a o,fun y=>?_,fun d=>?_⟩
 . grind
 . have h := n.2.2.1 d
   unfold aL at h;refine⟨h.2.1,h.1.1,f ?_⟩;rw[d];rfl
def iw (c:Cd)(j:Nat)(n:Int):Prop:=∃b∈c.b.l,∃i∈b.ins.l,i.op=16∧i.p=(j:Int)∧i.n=n
structure bJ (c:Cd)(k:Int)(q:Nat)(d:Cd)(of T:List (List Int)):Prop where
 le:q≤c.b.l.length
 len:d.b.l.length=c.b.l.length
 pr:d.p=c.p
 jh:T.length=q
 gT:of.length=q
 todo:∀(j:Nat) (h:j<c.b.l.length) (h':j<d.b.l.length),q≤j->d.b.l[j].aj=c.b.l[j].aj∧d.b.l[j].ins.l=c.b.l[j].ins.l.map (gI T)
 done:∀(j:Nat) (h:j<c.b.l.length) (h':j<d.b.l.length) (ho:j<of.length) (ht:j<T.length),(k≤d.b.l[j].aj∧d.b.l[j].aj≤k+c.b.l[j].aj)∧∃Y,d.b.l[j].ins.l=Y.map (gI T)∧Y.length≤4 * c.b.l[j].ins.l.length∧vw c.b.l[j].aj d.b.l[j].aj k c.b.l[j].ins.l (iw c j) Y of[j] T[j]
theorem bJ.start (c:Cd)(k:Int):bJ c k 0 c [] []:=
 ⟨zero_le _,rfl,rfl,rfl,rfl,fun j h a _=>⟨rfl,by rw[Se,map_id]⟩,fun j h a b=>ag⟩
theorem Kg {N:Int}{C:List Ins}(h0:0≤N)(j:∀i∈C,iy N C.length i):RowsX N C C (bC C.length) (bC (C.length+1)):=by
 refine⟨jU _,jU _,fun t c=>?_,fun p f => .inr ⟨p,f,mr f,?_⟩⟩
 . have := uN.1 c
   omega
 . have h := j _ (getElem_mem f)
   have c:∀t∈bT C[p],t=(bC (C.length+1)).getD t.toNat 0:=fun t c=>by
    have:=h.t t c;rw[mr aa];omega
   refine⟨⟨rfl,fun _ _ _=>rfl,fun _ _=>rfl,h.d.imp (fun e=>⟨e,e⟩) fun e=>⟨e.1,e.1⟩,h.a.imp (fun e=>⟨e,e⟩) fun e=>⟨e.1,e.1⟩,h.b.imp (fun e=>⟨e,e⟩) fun e=>⟨e.1,e.1⟩,rfl⟩,fun _=>rfl,?_,?_,?_,h.l,fun g=>c _ (by unfold bT;grind),fun g=>c _ (by unfold bT;grind)⟩
   . rcases h.d with e|e<;>omega
   . rcases h.a with e|e<;>omega
   . rcases h.b with e|e<;>omega
theorem C9 {M:Int}{C Y:List Ins}{o tl:List Int}(h:RowsX M C Y o tl):∀y∈Y,y.op=16->∃x∈C,x.op=16∧x.p=y.p∧x.n=y.n:=fun y i b=>by
 obtain⟨p,k,rfl⟩:=mem_iff_getElem.1 i;rcases h.row p _ with⟨_,d,a,_,_,e⟩|⟨n,j,_,c⟩
 . rw [e] at b
   exact absurd b (show ¬3=16 by decide)
 . have f := c.op.symm.trans b
   exact⟨_,getElem_mem _,f,c.p.symm,(c.g f).symm⟩
theorem GC:∀{a b:List Bd},b.length=a.length->(∀(j:Nat) (h:j<a.length) (i:j<b.length),b[j].ins.l.length≤4 * a[j].ins.l.length)->bV b≤4 * bV a
 | [],[],_,_=>aa
 | [],_::_,h,_=>by grind
 | _::_,[],h,_=>by grind
 | x :: a, y :: b, h, d => by
   have g:=d 0 ag ag;have f:=GC (a:=a) (b:=b) aY fun j k e=>by
    have:=d (j+1) aY aY
    grind
   unfold bV at f ⊢
   grind
section
variable {c d:Cd} {k:Int} {q:Nat} {of T:List (List Int)}
theorem bJ.body (h:bJ c k q d of T)(i:cE c){j:Nat}(e:j<c.b.l.length)(a:j<d.b.l.length):∃Y o tl,d.b.l[j].ins.l=Y.map (gI T)∧RowsX d.b.l[j].aj c.b.l[j].ins.l Y o tl∧o.filter da=bC c.b.l[j].ins.l.length∧Y.length≤4 * c.b.l[j].ins.l.length∧(∀p:j<T.length,tl=T[j])∧(q≤j->Y=c.b.l[j].ins.l):=by
 by_cases g:j<q
 . obtain ⟨m, Y, f, r, n⟩ := h.done j e a (by rw [h.gT]; exact g) (by rw [h.jh]; exact g)
   exact⟨Y,_,_,f,n.toRowsX,n.p4,r,fun _=>rfl,fun s=>aa⟩
 . obtain ⟨m, f⟩ := h.todo j e a aa
   exact⟨_,_,_,f,by rw[m];exact Kg ((kE i.ok e).1) (i.jv e),CZ _,aa,fun p=>by have:=h.jh;omega,fun _=>rfl⟩
theorem bJ.gn (h:bJ c k q d of T)(i:cE c)(p:Nat)(j:p<c.b.l.length)(e:p<d.b.l.length)(n:Int)(h0:0≤n)(u:n≤(c.b.l[p].ins.l.length:Int)):0≤gN T p n∧gN T p n≤(d.b.l[p].ins.l.length:Int):=by
 obtain⟨Y,o,g,r,f,_,_,m,s⟩:=h.body i j e;have v:d.b.l[p].ins.l.length=Y.length:=by rw[r,length_map]
 unfold gN
 by_cases a:p<T.length
 . rw [if_pos a, dL a, <-m a]
   have:=f.M6 _ (G7 (l:=g) (n:=n.toNat) (by rw[f.M5];omega))
   omega
 . rw [if_neg a]
   have:=s (by have:=h.jh;omega)
   grind
theorem bJ.aj (h:bJ c k q d of T)(g:cE c){j:Nat}(e:j<c.b.l.length)(a:j<d.b.l.length)(p:0≤k):0≤d.b.l[j].aj∧d.b.l[j].aj≤k+c.b.l[j].aj:=by
 have n:=(kE g.ok e).1
 by_cases f:j<q
 . obtain ⟨i, _⟩ := h.done j e a (by rw [h.gT]; exact f) (by rw [h.jh]; exact f)
   omega
 . obtain ⟨i, m⟩ := h.todo j e a aa
   omega
theorem bJ.sum (h:bJ c k q d of T)(e:cE c):bV d.b.l≤4 * bV c.b.l:=GC h.len fun j f a=>by
 obtain⟨Y,o,m,n,_,_,g,_⟩:=h.body e f a
 grind
theorem bJ.code (h:bJ c k q d of T)(e:cE c)(p:4≤k∧k≤16)(i:∀b∈c.b.l,b.aj≤100)(m:bV c.b.l≤500):cE d:=
 XG e h.pr h.len (fun j f a=>by
  have r:=h.aj e f a aa;obtain⟨Y,o,s,t,g,_⟩:=h.body e f a
  grind) (h.gn e) (by have:=h.sum e;omega)
theorem bJ.ck (h:bJ c k q d of T)(a:cE c)(f:4≤k∧k≤16)(g:∀b∈c.b.l,b.aj≤100)(e:bV c.b.l≤500):cB d=0:=
 (wu d fun m=>Nat.le_trans uS (by have:=h.sum a;omega)).2 (h.code a f g e)
theorem bJ.graph (h:bJ c k q d of T)(E:cE c)(K:4≤k∧k≤16)(t:fz c 500 60)(A:q<c.b.l.length){g:Gr}(P:dQ d (q:Int) g) :
 gz g∧g.ins.l=c.b.l[q].ins.l.map (gI T)∧g.aj=c.b.l[q].aj∧∀n:Int,iw c q n->n∈g.entries.l:=by
 have G:∀b∈c.b.l,b.aj≤100:=fun b v=>by have:=t.aj b v;omega
 have w:=h.code E K G t.sum;have Q:=h.ck E K G t.sum;obtain⟨hp,R,U,e,L⟩:=P;have u:q<d.b.l.length:=by rw[h.len];exact A
 have I:g.ins=d.b.l[q].ins:=by simpa using R
 have M:g.aj=d.b.l[q].aj:=by simpa using U
 obtain⟨t1,F⟩:=h.todo q A u (Nat.le_refl _);have hl:g.ins.l.length=c.b.l[q].ins.l.length:=by rw[I,F,length_map]
 have J:=mf (getElem_mem A);have H:=t.sum;have hv:=kE w.ok u;refine⟨Hf (by rw[M];have:=t.aj _ (getElem_mem A);omega) aa (fun i s=>?_) (fun i s=>?_) L ?_,by grind,aa,fun n N=>?_⟩
 . grind
 . rw [I, F] at s
   obtain⟨y,O,rfl⟩:=mem_map.1 s;rw[(@jJ T y).2.2.2.2.2.2];exact t.h_ _ (getElem_mem A) y O
 . intro b v i s f x
   obtain⟨j,B,rfl⟩:=mem_iff_getElem.1 v;obtain⟨g1,g2,g3,g4⟩:=kD w.ok B s f
   grind
 . obtain ⟨b, v, i, s, f, x, rfl⟩ := N
   obtain⟨j,B,rfl⟩:=mem_iff_getElem.1 v;obtain⟨m,S,rfl⟩:=mem_iff_getElem.1 s;have z:j<d.b.l.length:=by rw[h.len];exact B
   obtain⟨Y,o,tl,e1,V,X,_⟩:=h.body E B z;obtain⟨p,Z,_,D⟩:=V.Zq X S;rcases L with⟨r,_⟩|⟨_,r,_⟩|⟨_,_,_,_,a,_⟩
   . omega
   . omega
   . refine (a _).2 (oG.2 ⟨_, getElem_mem z, gI T Y[p], by grind, ?_⟩)
     obtain⟨k1,k2,_⟩:=@jJ T Y[p];have mb:=D.op;have C:Y[p].p=(c.b.l[j].ins.l[m]).p:=D.p;refine⟨aa,aa,?_⟩;rw[rT aa aa,D.g f,C,x,Int.toNat_natCast];unfold gN;rw[if_neg (by have:=h.jh;omega)]
theorem bJ.fe (h:bJ c k q d of T)(A:cE c){j:Nat}(X:j<c.b.l.length)(R:j<T.length){g:Gr}(P:dQ d (j:Int) g):∀x∈g.entries.l,∃n:Int,(0≤n∧n≤(c.b.l[j].ins.l.length:Int))∧iw c j n∧x=T[j].getD n.toNat 0:=fun x v=>by
 obtain⟨_,_,_,e,F⟩:=P;rcases F with⟨_,_,r⟩|⟨_,_,_,r⟩|⟨_,_,_,_,a,_⟩
 . grind
 . omega
 . obtain ⟨b, J, i, E, m, L, rfl⟩ := oG.1 ((a x).1 v)
   obtain⟨M,s,rfl⟩:=mem_iff_getElem.1 J;have f:M<c.b.l.length:=by rw[<-h.len];exact s
   obtain⟨Y,o,V,G,H,_⟩:=h.body A f s;rw[G] at E;obtain⟨y,I,rfl⟩:=mem_map.1 E;obtain⟨B,K,_⟩:=@jJ T y;obtain⟨z,w,D,Z,N⟩:=C9 H y I (B.symm.trans m);obtain⟨S,U,O,C⟩:=kD A.ok f w D;have u:y.p=(j:Int):=K.symm.trans L;have t:z.p.toNat=j:=aa;simp only[t] at C;refine⟨z.n,⟨O,C⟩,⟨_,getElem_mem f,z,w,D,aa,rfl⟩,?_⟩;rw[rT (B.symm.trans m) aa,u,Int.toNat_natCast,<-N];unfold gN
   grind
theorem bJ.fits (h:bJ c k q d of T)(r:cE c)(hk:4≤k∧k≤16)(hs:fz c 500 60)(hq:q<c.b.l.length){g:Gr}(hg:dQ d (q:Int) g){i:Bd}{S:List (List aA)}{W:Nat->List Int}(hr:i.aj=k)(hS:fy g S)(hF:j2 g S k W i.ins.l) :
 bJ c k (q+1) (kS d q i) (of++[bC i.ins.l.length]) (T++[bC (c.b.l[q].ins.l.length+1)]):=by
 obtain⟨hv,hgi,hgr,hge⟩:=h.graph r hk hs hq hg;have hN:=(kE r.ok hq).1;obtain⟨hA,hB⟩:=RD (N:=c.b.l[q].aj) (E:=iw c q) aa hv hS hF hgi (r.jv hq) fun n _ hn=>hge n hn
 have hbl:i.ins.l.length=c.b.l[q].ins.l.length:=by rw[hB,length_map,ou]
 have e:∀{j:Nat} (a:j<c.b.l.length) {M:Int} {Y:List Ins} {o tl:List Int},RowsX M c.b.l[j].ins.l Y o tl->Y.map (gI (T++[bC (c.b.l[q].ins.l.length+1)]))=Y.map (gI T):=fun {j} a {M} {Y} {o} {tl} hR=>map_congr_left fun y hy=>Sd fun h16 hp=>by
  obtain⟨z,hz,z1,z2,z3⟩:=C9 hR y hy h16;obtain⟨g1,g2,g3,g4⟩:=kD r.ok a hz z1;have e2:z.p.toNat=q:=by have:=h.jh;omega
  grind
 refine⟨hq,D6.trans h.len,h.pr,by rw[length_append,h.jh];rfl,by rw[length_append,h.gT];rfl,fun j a m hle=>?_,fun j a m ho ht=>?_⟩
 . have f : j < d.b.l.length := by rw [h.len]; exact a
   obtain⟨x1,x2⟩:=h.todo j a f aa;rw[ta f m,if_neg aa,e a (Kg (kE r.ok a).1 (r.jv a))]
   grind
 . have f : j < d.b.l.length := by rw [h.len]; exact a
   rw[ta f m];have hlt:j<q+1:=by rw[length_append,h.jh] at ht;exact ht
   by_cases s:q=j
   . subst s
     rw[if_pos rfl];have e1:(of++[bC i.ins.l.length])[q]=bC i.ins.l.length:=by rw[getElem_append_right (by have:=h.gT;omega),getElem_singleton]
     have e2:(T++[bC (c.b.l[q].ins.l.length+1)])[q]=bC (c.b.l[q].ins.l.length+1):=by rw[getElem_append_right (by have:=h.jh;omega),getElem_singleton]
     refine⟨aa,l8 c.b.l[q].ins.l W,by rw[e a hA.toRowsX];exact hB,by grind,?_⟩
     grind
   . rw [if_neg s]
     have ho':j<of.length:=by rw[h.gT];omega
     have ht':j<T.length:=by rw[h.jh];omega
     obtain⟨x1,Y,x2,x3,x4⟩:=h.done j a f ho' ht';refine⟨x1,Y,by rw[e a x4.toRowsX];exact x2,x3,?_⟩
     grind
theorem bJ.K_ (h:bJ c k q d of T)(hx:cE c)(hk:4≤k∧k≤16)(u:q<c.b.l.length)(hqd:q<d.b.l.length){p:Cd}{n:List Int}
 (hsp:∃f:Bd,p=kk d q (eM k d.b.l[q].ins.l (d.b.l[q].ins.l.length+1)) f∧f.aj=k+d.b.l[q].aj∧f.ins.l=((dA k d.b.l[q].ins.l).map fun i=>cA i (eM k d.b.l[q].ins.l (d.b.l[q].ins.l.length+1))).map (bO q (eM k d.b.l[q].ins.l (d.b.l[q].ins.l.length+1)))∧n=cJ k 0 d.b.l[q].ins.l) :
 bJ c k (q+1) p (of++[n]) (T++[eM k c.b.l[q].ins.l (c.b.l[q].ins.l.length+1)]):=by
 obtain⟨f,rfl,n1,v,rfl⟩:=hsp;obtain⟨t1,t2⟩:=h.todo q u hqd (Nat.le_refl _);rw[t2,length_map,M1] at v;rw[t2,length_map,M1,IX];rw[C8] at v;rw[t1] at n1;have hN:=(kE hx.ok u).1;have hA:=YS (E:=iw c q) hk.1 hN (hx.jv u)
 generalize hte:eM k c.b.l[q].ins.l (c.b.l[q].ins.l.length+1)=a at v hA ⊢
 have pat:∀Y:List Ins,(Y.map (gI T)).map (bO q a)=Y.map (gI (T++[a])):=fun Y=>by
  rw[map_map];refine map_congr_left fun y _=>?_
  show bO q a (gI T y)=_;rw[<-h.jh];exact Jl
 have hnb:f.ins.l=((dA k c.b.l[q].ins.l).map fun i=>cA i a).map (gI (T++[a])):=by
  rw[v,<-pat,map_map,map_map,map_map,map_map];refine map_congr_left fun y _=>?_
  show bO q a (cA (gI T y) a)=bO q a (gI T (cA y a));rw[Yj]
 have w:(kk d q a f).b.l.length=d.b.l.length:=by show((d.b.l.map (kf q a)).set q f).length=_;rw[length_set,length_map]
 have m:∀(j:Nat) (e:j<d.b.l.length) (g:j<(kk d q a f).b.l.length),j≠q->(kk d q a f).b.l[j]=kf q a d.b.l[j]:=fun j e g cF=>by
  show((d.b.l.map (kf q a)).set q f)[j]'aY=_
  grind
 refine⟨u,w.trans h.len,h.pr,by rw[length_append,h.jh];rfl,by rw[length_append,h.gT];rfl,fun j r g hle=>?_,fun j r g ho ht=>?_⟩
 . have e : j < d.b.l.length := by rw [h.len]; exact r
   obtain⟨x1,x2⟩:=h.todo j r e aa;rw[m j e g aa];refine⟨x1,?_⟩;show d.b.l[j].ins.l.map (bO q a)=_
   grind
 . have e : j < d.b.l.length := by rw [h.len]; exact r
   have hlt:j<q+1:=by rw[length_append,h.jh] at ht;exact ht
   by_cases o:j=q
   . subst o
     have e0:(kk d j a f).b.l[j]=f:=by
      show((d.b.l.map (kf j a)).set j f)[j]'aY=_;rw[getElem_set,if_pos rfl]
     have e1:(of++[cJ k 0 c.b.l[j].ins.l])[j]=cJ k 0 c.b.l[j].ins.l:=by rw[getElem_append_right (by have:=h.gT;omega),getElem_singleton]
     have e2:(T++[a])[j]=a:=by rw[getElem_append_right (by have:=h.jh;omega),getElem_singleton]
     rw[e0];refine⟨aa,_,hnb,by rw[length_map];exact C_,?_⟩
     grind
   . rw [m j e g o]
     have s:j<of.length:=by rw[h.gT];omega
     have t:j<T.length:=by rw[h.jh];omega
     obtain⟨x1,Y,x2,x3,x4⟩:=h.done j r e s t;refine⟨x1,Y,?_,x3,?_⟩
     . show d.b.l[j].ins.l.map (bO q a) = _
       grind
     . rw [getElem_append_left s, getElem_append_left t]
       exact x4
end
end Go.Ago
end
namespace Go.Ago
open Go.Proofs List Nat Tryz
structure kX (c d:Cd)(of:List (List Int)):Prop where
 pr:d.p=c.p
 lc:d.b.l.length=c.b.l.length
 lo:of.length=c.b.l.length
 ol:∀(j:Nat) (h':j<d.b.l.length) (ho:j<of.length),of[j].length=d.b.l[j].ins.l.length
 row:∀(j:Nat) (h:j<c.b.l.length) (h':j<d.b.l.length) (ho:j<of.length) (p:Nat) (hp:p<d.b.l[j].ins.l.length),(of[j].getD p 0 = -1∧d.b.l[j].ins.l[p].op=3) ∨
  ∃(n:Nat) (hn:n<c.b.l[j].ins.l.length),of[j].getD p 0=(n:Int)∧SimI c.b.l[j].ins.l[n] d.b.l[j].ins.l[p]∧((bT d.b.l[j].ins.l[p]).map fun t=>((cj of[j] t.toNat:Nat):Int))=bT c.b.l[j].ins.l[n] ∧
   (c.b.l[j].ins.l[n].op=16->((cj (of.getD c.b.l[j].ins.l[n].p.toNat []) d.b.l[j].ins.l[p].n.toNat:Nat):Int)=c.b.l[j].ins.l[n].n)
 p4:∀(j:Nat) (h:j<c.b.l.length) (ho:j<of.length),of[j].filter da=bC c.b.l[j].ins.l.length
def pD (c d:Cd)(e:List (List Int)):Prop:=∀(j:Nat) (h:j<c.b.l.length) (i:j<d.b.l.length) (g:j<e.length),∃I:Nat->Int->Int->Prop,∀a:Gr,a.ins.l=d.b.l[j].ins.l->(∀x∈a.entries.l,iw d j x)->
 pz I (bQ c.b.l[j].ins.l e[j] a)∧∀(p n:Nat) (k:p<a.ins.l.length) (f:n<c.b.l[j].ins.l.length),e[j].getD p 0=(n:Int)->Reads (I p) (aT a.ins.l[p]) (aT c.b.l[j].ins.l[n])
def zK (k:Int)(d:Cd):Prop:=∀b∈d.b.l,k≤b.aj∧∀i∈b.ins.l,pq k i
structure nY (c:Cd)(k:Int)(d:Cd)(of:List (List Int)):Prop where
 hc:cE c
 hd:cE d
 hf:zK k d
 co:kX c d of
 sh:pD c d of
theorem bJ.QQ {c d:Cd}{k:Int}{q:Nat}{A T:List (List Int)}(h:bJ c k q d A T)(r:cE c){j:Nat}(Q:j<c.b.l.length)(L:j<T.length){x:Int}(K:iw d j x):∃n:Int,(0≤n∧n≤(c.b.l[j].ins.l.length:Int))∧iw c j n∧x=T[j].getD n.toNat 0:=by
 obtain⟨b,B,i,w,e,C,rfl⟩:=K;obtain⟨H,f,rfl⟩:=mem_iff_getElem.1 B;have a:H<c.b.l.length:=by rw[<-h.len];exact f
 obtain⟨Y,o,O,D,E,_⟩:=h.body r a f;rw[D] at w;obtain⟨y,F,rfl⟩:=mem_map.1 w;obtain⟨t,I,_⟩:=@jJ T y;obtain⟨z,u,s,P,G⟩:=C9 E y F (t.symm.trans e);obtain⟨M,N,J,v⟩:=kD r.ok a u s;have m:y.p=(j:Int):=I.symm.trans C;have g:z.p.toNat=j:=aa;simp only[g] at v;refine⟨z.n,⟨J,v⟩,⟨_,getElem_mem a,z,u,s,aa,rfl⟩,?_⟩;rw[rT (t.symm.trans e) aa,m,Int.toNat_natCast,<-G];unfold gN
 grind
theorem dQ.fe {c:Cd}{j:Nat}{g:Gr}(h:dQ c (j:Int) g):∀x∈g.entries.l,iw c j x:=fun x f=>by
 obtain⟨_,_,_,e,k⟩:=h;rcases k with⟨_,_,r⟩|⟨_,_,_,r⟩|⟨_,_,_,_,a,_⟩
 . grind
 . omega
 . obtain ⟨b, m, i, n, o, p, d⟩ := oG.1 ((a x).1 f)
   exact⟨b,m,i,n,o,p,d.symm⟩
theorem bJ.PZ {c d:Cd}{k:Int}{v T:List (List Int)}(h:bJ c k c.b.l.length d v T)(D:cE c)(hk:4≤k∧k≤16)(hr:∀b∈c.b.l,b.aj≤100)(hs:bV c.b.l≤500):nY c k d v:=by
 have L:=h.code D hk hr hs;have w:∀(j:Nat) (e:j<c.b.l.length) (f:j<d.b.l.length) (m:j<v.length),∃(z:j<T.length),(k≤d.b.l[j].aj∧d.b.l[j].aj≤k+c.b.l[j].aj)∧∃Y,d.b.l[j].ins.l=Y.map (gI T)∧Y.length≤4 * c.b.l[j].ins.l.length∧vw c.b.l[j].aj d.b.l[j].aj k c.b.l[j].ins.l (iw c j) Y v[j] T[j]:=fun j e f m=>⟨by rw[h.jh];exact e,h.done j e f m _⟩
 refine⟨D,L,fun b hb=>?_,⟨h.pr,h.len,h.gT,fun j Z m=>?_,fun j e f m p hp=>?_,fun j e m=>?_⟩,fun j e f m=>?_⟩
 . obtain ⟨j, e, rfl⟩ := mem_iff_getElem.1 hb
   have r:j<c.b.l.length:=by rw[<-h.len];exact e
   obtain⟨z,A,Y,q,_,o⟩:=w j r e (by rw[h.gT];omega)
   refine⟨A.1,fun i B=>?_⟩
   rw[q] at B;obtain⟨y,hy,rfl⟩:=mem_map.1 B;obtain⟨H,_,k3,k4,k5,_⟩:=@jJ T y;unfold pq;rw[H,k3,k4,k5];exact o.fit y hy
 . have r : j < c.b.l.length := by rw [<-h.len]; exact Z
   obtain⟨z,A,Y,q,_,o⟩:=w j r Z m;rw[o.ol,q,length_map]
 . obtain ⟨z, A, Y, q, _, o⟩ := w j e f m
   have M:p<Y.length:=by rw[q,length_map] at hp;exact hp
   have G:d.b.l[j].ins.l[p]=gI T Y[p]:=by simp only[q,getElem_map]
   obtain⟨H,k2,k3,k4,k5,k6,k7⟩:=@jJ T Y[p];rcases o.row p M with⟨N,dd,a,_,_,e2⟩|⟨n,O,N,u⟩
   . exact .inl ⟨N,by rw[G,H,e2];rfl⟩
   . refine .inr ⟨n, O, N, by rw [G]; exact u.gs T, ?_, fun C => ?_⟩
     . have B := D.jv e _ (getElem_mem O)
       have P:(gI T Y[p]).op=c.b.l[j].ins.l[n].op:=H.trans u.op;have E:∀t:Int,0≤t∧t≤(c.b.l[j].ins.l.length:Int)->((cj v[j] (T[j].getD t.toNat 0).toNat:Nat):Int)=t:=fun t s=>by
        rw[o.Lo t.toNat aa];omega
       rw[G];unfold bT;rw[P]
       by_cases F:c.b.l[j].ins.l[n].op=14∨c.b.l[j].ins.l[n].op=15
       . rw[if_pos F,if_pos F,BE aa,u.tn F,map_singleton,E _ (B.t _ (by unfold bT;grind))]
       . rw [if_neg F, if_neg F]
         by_cases Q:c.b.l[j].ins.l[n].op=28∨c.b.l[j].ins.l[n].op=29
         . rw[if_pos Q,if_pos Q,k6,u.tm Q,map_singleton,E _ (B.t _ (by unfold bT;grind))]
         grind
     . obtain ⟨K, g2, g3, g4⟩ := kD D.ok e (getElem_mem O) C
       have g5:c.b.l[j].ins.l[n].p.toNat<d.b.l.length:=by rw[h.len];exact K
       have g6:c.b.l[j].ins.l[n].p.toNat<v.length:=by rw[h.gT];exact K
       obtain⟨s,_,Y2,_,_,S⟩:=w _ K g5 g6;have U:Y[p].p=c.b.l[j].ins.l[n].p:=u.p;rw[G,rT (by rw[u.op];omega) aa,U,u.g C,dL g6]
       unfold gN;rw[if_pos s,dL s,S.Lo _ aa];omega
 . have R : j < d.b.l.length := by rw [h.len]; exact e
   obtain⟨z,A,Y,q,_,o⟩:=w j e R m;exact o.p4
 . obtain ⟨z, A, Y, q, _, o⟩ := w j e f m
   obtain⟨I,hI⟩:=o.cc;refine⟨I,fun gd V X=>?_⟩
   exact hI gd (by rw[V,q];exact(BF T Y).any) fun x J=>h.QQ D e z (X x J)
def eT (o1 a:List Int):List Int:=a.map fun n=>if 0≤n then o1.getD n.toNat 0 else n
theorem l4 {o1 a:List Int}:(eT o1 a).length=a.length:=length_map _
theorem wa {o1 a:List Int}{p:Nat}(b:p<a.length):(eT o1 a).getD p 0=if 0≤a.getD p 0 then o1.getD (a.getD p 0).toNat 0 else a.getD p 0:=by
 rw[dL (by rw[l4];exact b),dL b]
 simp[eT]
theorem Aq {o1:List Int}:∀{l:List Int},((l.map fun n=>if 0≤n then o1.getD n.toNat 0 else n).filter da)=(((l.filter da).map fun n=>o1.getD n.toNat 0).filter da)
 | []=>rfl
 | x :: l => by
   have c:=@Aq o1 l
   by_cases h:0≤x
   . rw [map_cons, if_pos h, filter_cons_of_pos (p := da) (a := x) (decide_eq_true h), map_cons]
     grind
   . rw[map_cons,if_neg h,filter_cons_of_neg (p:=da) (a:=x) (by unfold da;grind),filter_cons_of_neg (p:=da) (a:=x) (by unfold da;grind),c]
theorem DM {o:List Int}{m:Nat}(h:o.filter da=bC m)(p:Nat):(o.take p).filter da=bC (cj o p)∧cj o p≤m:=by
 have e:o.filter da=(o.take p).filter da++(o.drop p).filter da:=by rw[<-filter_append,take_append_drop]
 have a:cj o p≤m:=by
  have:=congrArg length (e.symm.trans h);rw[length_append,jU] at *;unfold cj;omega
 refine⟨?_,a⟩;have b:(o.take p).filter da=(bC m).take (cj o p):=by
  rw[<-h,e];unfold cj;simp
 rw[b,JJ a]
theorem map_take {o:List Int}{s:Nat}(h:s≤o.length):(bC s).map (fun n=>o.getD n.toNat 0)=o.take s:=by
 refine ext_getElem (by rw[length_map,jU,length_take,Nat.min_eq_left h]) fun n b a=>?_
 have e:(bC s)[n]'aY=(n:Int):=by simp[bC]
 grind
theorem E2 {o1 a:List Int}(h:a.filter da=bC o1.length)(p:Nat):cj (eT o1 a) p=cj o1 (cj a p):=by
 obtain⟨c,d⟩:=DM h p;have:(eT o1 a).take p=(a.take p).map fun n=>if 0≤n then o1.getD n.toNat 0 else n:=by unfold eT;simp
 show(((eT _ _).take p).filter _).length=((o1.take _).filter _).length;rw[this,Aq,c,map_take d]
theorem OO {o1 a:List Int}(h:a.filter da=bC o1.length):(eT o1 a).filter da=o1.filter da:=by
 unfold eT;rw[Aq,h,map_take (ag),take_length]
def jE (b a:List (List Int)):List (List Int):=(List.range a.length).map fun q=>eT (b.getD q []) (a.getD q [])
theorem wb {b a:List (List Int)}:(jE b a).length=a.length:=by simp[jE]
theorem Ap {b a:List (List Int)}{j:Nat}(e:j<b.length)(f:j<a.length)(h:j<(jE b a).length):(jE b a)[j]=eT b[j] a[j]:=by
 have d:b.getD j []=b[j]:=by grind
 have c:a.getD j []=a[j]:=by grind
 simp only[jE,getElem_map,getElem_range,d,c]
theorem SimI.trans {x y z:Ins}(e:SimI x y)(f:SimI y z):SimI x z:=by
 have h:=e.op;refine⟨?_,fun a b c=>?_,fun a b=>?_,?_,?_,?_,f.l.trans e.l⟩
 . have i := e.eq
   have g:=f.eq
   grind
 . exact(f.n aa aa aa).trans (e.n a b c)
 . exact(f.m aa aa).trans (e.m a b)
 . have:=e.d;have:=f.d;omega
 . have:=e.a;have:=f.a;omega
 . have:=e.b;have:=f.b;omega
theorem SimI.rR {x y:Ins}(h:SimI x y):cQ y↔cQ x:=by unfold cQ;rw[h.op]
theorem SimI.quiet {x y:Ins}(h:SimI x y):jq y↔jq x:=by
 have a:=h.op;unfold jq;rw[a]
 by_cases b:x.op=4
 . rw[h.n aa aa aa]
 . omega
theorem kX.comp {c d x:Cd}{o1 f:List (List Int)}(g:kX c d o1)(k:kX d x f)(hd:cE d):kX c x (jE o1 f):=by
 have l2:f.length=o1.length:=by rw[k.lo,g.lo,g.lc]
 have bl:∀j (h:j<o1.length),(f[j]'aa).filter da=bC (o1[j]).length:=fun j h=>by
  have q:j<d.b.l.length:=by rw[g.lc,<-g.lo];exact h
  rw[g.ol j q h];exact k.p4 j q _
 have o:∀j (h:j<(jE o1 f).length),∃(a:j<o1.length) (b:j<f.length),(jE o1 f)[j]=eT o1[j] f[j]:=fun j h=>by
  rw[wb] at h;exact⟨aa,h,Ap aa h _⟩
 refine⟨k.pr.trans g.pr,k.lc.trans g.lc,by rw[wb,k.lo,g.lc],fun j h' w=>?_,fun j q r w p hp=>?_,fun j q w=>?_⟩
 . obtain ⟨a, b, e⟩ := o j w
   rw[e,l4];exact k.ol j h' b
 . obtain ⟨a, b, e⟩ := o j w
   have m:j<d.b.l.length:=by rw[g.lc];exact q
   have hol2:=k.ol j r b;rw[e,wa aa];rcases k.row j m r b p hp with⟨r1,r2⟩|⟨n2,u,r1,r2,r3,r4⟩
   . omega
   . rw [r1, if_pos aa, Int.toNat_natCast]
     rcases g.row j q m a n2 u with⟨s1,v⟩|⟨i,hn1,s1,v,s3,s4⟩
     . exact .inl ⟨s1,by rw[r2.op];exact v⟩
     . refine .inr ⟨i, hn1, s1, v.trans r2, ?_, fun s => ?_⟩
       . rw [<-s3, <-r3, map_map]
         refine map_congr_left fun t _=>?_
         show((cj (eT o1[j] f[j]) t.toNat:Nat):Int)=((cj o1[j] ((cj f[j] t.toNat:Nat):Int).toNat:Nat):Int);rw[E2 (bl j a),Int.toNat_natCast]
       . have z : d.b.l[j].ins.l[n2].op = 16 := v.op.trans s
         have y:d.b.l[j].ins.l[n2].p=c.b.l[j].ins.l[i].p:=v.p;have e1:=s4 s;have e2:=r4 z;obtain⟨g1,g2,_,_⟩:=kD hd.ok m (getElem_mem u) z;have g3:c.b.l[j].ins.l[i].p.toNat<o1.length:=by rw[<-y,g.lo,<-g.lc];exact g1
         have g4:c.b.l[j].ins.l[i].p.toNat<f.length:=by rw[l2];exact g3
         rw[y] at e2;have q1:o1.getD c.b.l[j].ins.l[i].p.toNat []=o1[c.b.l[j].ins.l[i].p.toNat]:=by simp[getD,g3]
         have q2:f.getD c.b.l[j].ins.l[i].p.toNat []=f[c.b.l[j].ins.l[i].p.toNat]:=by simp[getD,g4]
         have q3:(jE o1 f).getD c.b.l[j].ins.l[i].p.toNat []=eT o1[c.b.l[j].ins.l[i].p.toNat] f[c.b.l[j].ins.l[i].p.toNat]:=by
          have:c.b.l[j].ins.l[i].p.toNat<(jE o1 f).length:=by rw[wb];exact g4
          rw[<-Ap g3 g4 this];simp[getD,this]
         rw[q1] at e1;rw[q2] at e2;rw[q3,E2 (bl _ g3)];have e3:cj f[c.b.l[j].ins.l[i].p.toNat] x.b.l[j].ins.l[p].n.toNat=d.b.l[j].ins.l[n2].n.toNat:=aa
         grind
 . obtain ⟨a, b, e⟩ := o j w
   rw[e,OO (bl j a)];exact g.p4 j q a
end Go.Ago
section
namespace Go.Ago
open Go.Proofs List Nat Tryz
theorem KV {C:List Ins}{o:List Int}{g:Gr}{p:Nat}(a:p<g.ins.l.length):(bQ C o g).st[p]? = some (o5 (C.getD (o.getD p 0).toNat sb) g.ins.l[p] (o.getD p 0)):=by
 simp only[bQ,getElem?_map,getElem?_range a,Option.map_some,dL a]
theorem lM {C:List Ins}{o:List Int}{g:Gr}{p:Nat}(c:p<g.ins.l.length)(b:o.getD p 0 = -1):(bQ C o g).st[p]? = some (.mv g.ins.l[p].d g.ins.l[p].a):=by
 rw[KV _,b];rfl
theorem mA {C:List Ins}{o:List Int}{g:Gr}{p n:Nat}(a:p<g.ins.l.length)(c:n<C.length)(b:o.getD p 0=(n:Int)):(bQ C o g).st[p]? = some (.op (decide (cQ g.ins.l[p])) (aH C[n]) (aH g.ins.l[p])):=by
 rw[KV a];unfold o5
 grind
theorem DB {o:List Int}{p:Nat}(a:p<o.length):(o.take (p+1)).filter da=(o.take p).filter da++(if 0≤o[p] then [o[p]] else []):=by
 rw[take_succ_eq_append_getElem a,filter_append]
 congr 1
 by_cases h:0≤o[p]
 . rw[if_pos h,filter_cons_of_pos (p:=da) (decide_eq_true h)];rfl
 . rw[if_neg h,filter_cons_of_neg (by unfold da;grind)];rfl
theorem Dz {o:List Int}{p:Nat}(a:p<o.length)(h:o.getD p 0 = -1):cj o (p+1)=cj o p:=by
 rw[dL a] at h;unfold cj;rw[DB a,if_neg aa,append_nil]
theorem DA {o:List Int}{m p n:Nat}(c:o.filter da=bC m)(a:p<o.length)(h:o.getD p 0=(n:Int)):cj o p=n∧cj o (p+1)=n+1:=by
 rw[dL a] at h;have d:=(DM c p).1;have b:=(DM c (p+1)).1;have e:cj o (p+1)=cj o p+1:=by
  unfold cj;rw[DB a,if_pos aa,length_append];rfl
 rw[DB a,if_pos aa,d,e,CY] at b;have:=append_cancel_left b
 grind
theorem Dy {o:List Int}{m:Nat}(a:o.filter da=bC m):cj o o.length=m:=by
 unfold cj;rw[take_length,a,jU]
theorem Reads.trans {P Q R:Int->Int->Prop}{a b c:List Int}(e:Reads P a b)(d:Reads Q b c)(h:∀l m r,P l m->Q m r->R l r):Reads R a c:=⟨e.1.trans d.1,fun n l r g i=>by
 obtain⟨m,j,f⟩:=d.at_ i;exact h l m r (e.2 n l m g j) f⟩
theorem SimI.ga {x y:Ins}(h:SimI x y):(aH x = -1∧aH y = -1)∨(0≤aH x∧0≤aH y):=by
 unfold aH;rw[h.op];split
 . exact h.d
 simp
theorem Nc {N:Int}{L:Nat}{i:Ins}(h:iy N L i)(b:i.op=3):aT i=[i.a]:=by
 have:=h.mv b;unfold aT;rw[b,if_pos ⟨rfl,aa⟩];rfl
theorem KN {i:Ins}(a:i.op=3):aH i=i.d:=by
 unfold aH;rw[a,if_pos aB]
section
variable {c d x:Cd} {o1 o2:List (List Int)}
theorem QV (o:kX d x o2){j:Nat}(B:j<o2.length){t:Int}(w:iw x j t):iw d j ((cj o2[j] t.toNat:Nat):Int):=by
 obtain⟨b,v,i,A,q,y,rfl⟩:=w;obtain⟨m,a,rfl⟩:=mem_iff_getElem.1 v;obtain⟨p,u,rfl⟩:=mem_iff_getElem.1 A;have f:m<d.b.l.length:=by rw[<-o.lc];exact a
 rcases o.row m f a (by rw[o.lo];omega) p u with⟨_,r⟩|⟨n,z,_,s,_,r⟩
 . omega
 . have h : d.b.l[m].ins.l[n].op = 16 := s.op.symm.trans q
   have g:d.b.l[m].ins.l[n].p=(j:Int):=s.p.symm.trans y;have e:=r h;rw[g,Int.toNat_natCast,show o2.getD j []=o2[j] by grind] at e
   exact⟨_,getElem_mem f,_,getElem_mem z,h,g,e.symm⟩
theorem pD.comp (h1:kX c d o1)(h2:kX d x o2)(hd:cE d)(hxx:cE x)(s1:pD c d o1)(s2:pD d x o2):pD c x (jE o1 o2):=by
 intro j hj hj' ho;rw[wb] at ho;have hjd:j<d.b.l.length:=by rw[h1.lc];exact hj
 have a:j<o1.length:=by rw[h1.lo];exact hj
 rw[Ap a ho];obtain⟨I1,H1⟩:=s1 j hj hjd a;obtain⟨I2,H2⟩:=s2 j hjd hj' ho;have f2:=h2.p4 j hjd ho;have ol1:=h1.ol j hjd a;have ol2:=h2.ol j hj' ho;refine⟨fun p l r=>∃m,I2 p l m∧I1 (cj o2[j] p) m r,fun gx hgi hge=>?_⟩
 have hgl:gx.ins.l.length=x.b.l[j].ins.l.length:=by rw[hgi]
 obtain⟨K2,R2⟩:=H2 gx hgi hge;obtain⟨gd,gd1,gd2⟩:∃gd:Gr,gd.ins.l=d.b.l[j].ins.l∧gd.entries.l=gx.entries.l.map fun t=>((cj o2[j] t.toNat:Nat):Int):=
  ⟨⟨d.b.l[j].ins,d.b.l[j].aj,⟨gx.entries.l.map fun t=>((cj o2[j] t.toNat:Nat):Int),by rw[length_map];exact gx.entries.h⟩⟩,rfl,rfl⟩
 have hdl:gd.ins.l.length=d.b.l[j].ins.l.length:=by rw[gd1]
 obtain⟨K1,R1⟩:=H1 gd gd1 fun y hy=>by
  rw[gd2] at hy;obtain⟨t,ht,rfl⟩:=mem_map.1 hy;exact QV h2 ho (hge t ht)
 have gX:∀(p:Nat) (k:p<gx.ins.l.length),gx.ins.l[p]=x.b.l[j].ins.l[p]'aa:=fun p k=>by grind
 have gD:∀(p:Nat) (k:p<gd.ins.l.length),gd.ins.l[p]=d.b.l[j].ins.l[p]'aa:=fun p k=>by grind
 have bg:∀(p:Nat) (k:p<gx.ins.l.length),(eT o1[j] o2[j]).getD p 0=if 0≤o2[j].getD p 0 then o1[j].getD (o2[j].getD p 0).toNat 0 else o2[j].getD p 0:=fun p k=>wa aa
 have cas:∀(p:Nat) (k:p<gx.ins.l.length),
  (o2[j].getD p 0 = -1∧(eT o1[j] o2[j]).getD p 0 = -1) ∨
  (∃(i:Nat) (g:i<gd.ins.l.length),o2[j].getD p 0=(i:Int)∧(eT o1[j] o2[j]).getD p 0 = -1∧o1[j].getD i 0 = -1∧gd.ins.l[i].op=3∧SimI gd.ins.l[i] gx.ins.l[p]) ∨
  ∃(i:Nat) (g:i<gd.ins.l.length) (n1:Nat) (hn1:n1<c.b.l[j].ins.l.length),o2[j].getD p 0=(i:Int)∧(eT o1[j] o2[j]).getD p 0=(n1:Int)∧o1[j].getD i 0=(n1:Int)∧SimI c.b.l[j].ins.l[n1] gd.ins.l[i]∧SimI gd.ins.l[i] gx.ins.l[p]∧((bT gx.ins.l[p]).map fun t=>((cj o2[j] t.toNat:Nat):Int))=bT gd.ins.l[i]:=fun p k=>by
  rw[bg p k];rcases h2.row j hjd hj' ho p aa with⟨w,r2⟩|⟨i,g,w,r2,r3,r4⟩
  . omega
  . right
    have hn2':i<gd.ins.l.length:=by rw[hdl];exact g
    rw[w,if_pos aa,Int.toNat_natCast,gX p k];rcases h1.row j hj hjd a i g with⟨t1,t2⟩|⟨n1,hn1,t1,t2,t3,t4⟩
    . grind
    . exact .inr ⟨i,hn2',n1,hn1,rfl,t1,t1,by grind,by grind,by grind⟩
 have sp:∀(p n:Nat),p<gx.ins.l.length->o2[j].getD p 0=(n:Int)->cj o2[j] p=n∧cj o2[j] (p+1)=n+1:=fun p n k e=>DA f2 aa e
 refine⟨⟨fun p DS fr q l r hi=>?_,fun p r0 b q l r hi=>?_,fun p k f r0 b q t ht l r hi=>?_,fun t ht l r hi=>?_⟩,fun p n k hn e=>?_⟩
 . have k := (vf q).1
   obtain⟨m,i2,i1⟩:=hi;rcases cas p k with⟨w,r2⟩|⟨i,g,w,r2,r3,r4,r5⟩|⟨i,g,n1,hn1,w,r2,_⟩
   . rw [lM k r2] at q
     have e:=Option.some.inj q
     injection e with e1 e2
     have:=K2.mv p _ _ (lM k w) l m i2;rw[Dz aa w] at i1;rw[e1,e2] at this;split
     . grind
     grind
   . rw [lM k r2] at q
     have e:=Option.some.inj q
     injection e with e1 e2
     obtain⟨q1,q2⟩:=sp p i k w;rw[q2] at i1;have s:i<d.b.l[j].ins.l.length:=by rw[<-hdl];exact g
     have hx3:gx.ins.l[p].op=3:=r5.op.trans r4;have hfx:=hxx.jv hj' _ (getElem_mem (show p<x.b.l[j].ins.l.length by omega))
     have hfd:=hd.jv hjd _ (getElem_mem s);rw[<-gX p k] at hfx;rw[<-gD i g] at hfd;have k2:=mA (C:=d.b.l[j].ins.l) (o:=o2[j]) k s w;rw[<-gD i g,show decide (cQ gx.ins.l[p])=true from decide_eq_true aa,KN r4,KN hx3] at k2
     have:=K2.op p _ _ k2 l m i2;rw[if_pos (hfx.mv hx3).2.1,e1] at this;have k1:=K1.mv i _ _ (lM g r3) m r i1;rw[<-e2];split
     . rename_i hl
       rw[if_pos hl] at this;rw[if_pos this] at k1;refine⟨gd.ins.l[i].a,?_,by grind⟩
       have rd:=R2 p i k s w;rw[<-gD i g,Nc hfx hx3,Nc hfd r4] at rd;exact rd.2 0 _ _ rfl rfl
     grind
   . rw [mA k hn1 r2] at q
     grind
 . have k := (vf q).1
   obtain⟨m,i2,i1⟩:=hi;rcases cas p k with⟨w,r2⟩|⟨i,g,w,r2,r3,r4,r5⟩|⟨i,g,n1,hn1,w,r2,r3,r4,r5,r6⟩
   . rw[lM k r2] at q;grind
   . rw[lM k r2] at q;grind
   . rw [mA k hn1 r2] at q
     have e:=Option.some.inj q
     injection e with e0 e1 e2
     obtain⟨q1,q2⟩:=sp p i k w;rw[q2] at i1;have s:i<d.b.l[j].ins.l.length:=by rw[<-hdl];exact g
     have k2:=mA (C:=d.b.l[j].ins.l) (o:=o2[j]) k s w;rw[e0,<-gD i g] at k2;have k1:=mA (C:=c.b.l[j].ins.l) (o:=o1[j]) g hn1 r3;rw[show decide (cQ gd.ins.l[i])=true from decide_eq_true (r5.rR.1 (of_decide_eq_true e0))] at k1
     have t2:=K2.op p _ _ k2 l m i2;have t1:=K1.op i _ _ k1 m r i1;have hs:=r5.ga;rw[e2] at t2 hs;rw[e1] at t1
     by_cases hb:0≤b
     . rw [if_pos hb] at t2 ⊢
       rw[if_pos aa] at t1;split
       . grind
       . rename_i hl
         rw[if_neg hl] at t2;rw[if_neg t2.1] at t1;exact⟨t1.1,m,t2.2,by grind⟩
     . rw [if_neg hb] at t2 ⊢
       rw[if_neg aa] at t1;exact⟨m,t2,by grind⟩
 . rw [iL] at k
   rw[sS k] at ht;obtain⟨m,i2,i1⟩:=hi;rcases cas p k with⟨w,r2⟩|⟨i,g,w,r2,r3,r4,r5⟩|⟨i,g,n1,hn1,w,r2,r3,r4,r5,r6⟩
   . rw[lM k r2] at q;grind
   . rw[lM k r2] at q;grind
   . obtain ⟨q1, q2⟩ := sp p i k w
     have s:i<d.b.l[j].ins.l.length:=by rw[<-hdl];exact g
     refine⟨m,K2.hJ p (by rw[iL];exact k) _ _ _ (mA (C:=d.b.l[j].ins.l) (o:=o2[j]) k s w) t (by rw[sS k];exact ht) l m i2,?_⟩
     rw[q1];refine K1.hJ i (by rw[iL];omega) _ _ _ (mA (C:=c.b.l[j].ins.l) (o:=o1[j]) g hn1 r3) ((cj o2[j] t.toNat:Nat):Int) ?_ m r i1
     rw[sS g];unfold aX at ht ⊢;rw[dif_pos k] at ht;rw[dif_pos g,gd2,<-r6]
     by_cases hq:jq gx.ins.l[p]
     . rw [if_pos hq] at ht
       rw[if_pos (r5.quiet.1 hq)];exact mem_map_of_mem ht
     . rw [if_neg hq] at ht
       rw[if_neg (fun h=>hq (r5.quiet.2 h)),<-map_append]
       exact mem_map_of_mem ht
 . obtain ⟨m, i2, i1⟩ := hi
   rw[iL];have t2:=K2.fe t ht l m i2;rw[iL] at t2;refine⟨m,t2,?_⟩;have t1:=K1.fe ((cj o2[j] t.toNat:Nat):Int) (by show _∈gd.entries.l;rw[gd2];exact mem_map_of_mem ht) m r i1
   rw[iL] at t1;rw[hgl,<-ol2,Dy f2,<-hdl];exact t1
 . rcases cas p k with ⟨w, r2⟩ | ⟨i, g, w, r2, r3, r4, r5⟩ | ⟨i, g, n1, hn1, w, r2, r3, r4, r5, r6⟩
   . omega
   . omega
   . have : n1 = n := aa
     subst this;have s:i<d.b.l[j].ins.l.length:=by rw[<-hdl];exact g
     have t2:=R2 p i k s w;have t1:=R1 i n1 g hn1 r3;rw[<-gD i g] at t2;refine t2.trans t1 fun l m r u v=>⟨m,u,by grind⟩
theorem nY.comp {k m:Int}(b:nY c k d o1)(a:nY d m x o2):nY c m x (jE o1 o2):=⟨b.hc,a.hd,a.hf,b.co.comp a.co b.hd,pD.comp b.co a.co b.hd a.hd b.sh a.sh⟩
end
end Go.Ago
end
namespace Go.Ago
open Go.Proofs List Nat Tryz
theorem A6 {d:Cd}(f:cE d){j:Nat}(o:j<d.b.l.length){x:Int}(h:iw d j x):0≤x∧x≤(d.b.l[j].ins.l.length:Int):=by
 obtain⟨b,e,i,c,a,m,rfl⟩:=h;obtain⟨n,g,rfl⟩:=mem_iff_getElem.1 e;obtain⟨p,q,r,k⟩:=kD f.ok _ c a
 grind
theorem Yq {c d:Cd}{r:List (List Int)}(I:cE c)(v:cE d)(K:kX c d r){j:Nat}(E:j<c.b.l.length)(e:j<d.b.l.length)(F:j<r.length){g:Gr}(H:g.ins.l=d.b.l[j].ins.l)(C:∀x∈g.entries.l,iw d j x) :
 (bQ c.b.l[j].ins.l r[j] g).Ok d.b.l[j].aj c.b.l[j].aj∧(bQ c.b.l[j].ins.l r[j] g).Pl:=by
 have q:g.ins.l.length=d.b.l[j].ins.l.length:=by rw[H]
 have B:∀(p:Nat) (a:p<g.ins.l.length),g.ins.l[p]=d.b.l[j].ins.l[p]'aa:=fun p a=>by grind
 refine⟨fun s N=>?_,⟨fun l G t o=>?_,fun t o=>?_⟩⟩
 . obtain ⟨p, k, J⟩ := mem_iff_getElem.1 N
   have a:p<g.ins.l.length:=by rw[iL] at k;exact k
   have f:p<d.b.l[j].ins.l.length:=by rw[<-q];exact a
   have i:(bQ c.b.l[j].ins.l r[j] g).st[p]? = some s:=by rw[getElem?_eq_getElem k,J]
   have m:=v.jv e _ (getElem_mem f);rcases K.row j E e F p f with⟨z,y⟩|⟨n,D,z,y,_⟩
   . rw [lM a z, B p a] at i
     cases i;have A:=m.mv y;have L:=m.d;show 0≤d.b.l[j].ins.l[p].d∧d.b.l[j].ins.l[p].d<d.b.l[j].aj;omega
   . rw [mA a D z, B p a] at i
     cases i;intro M;have u:=I.jv E _ (getElem_mem D);have A:=y.ga;rw[m.sd] at M A ⊢;rw[u.sd] at A ⊢;have L:=m.d;have O:=u.d;omega
 . rw [iL]
   obtain⟨p,a,rfl⟩:=mem_map.1 (show l∈(List.range g.ins.l.length).map (aX g) from G)
   have a:=mem_range.1 a;have f:p<d.b.l[j].ins.l.length:=by rw[<-q];exact a
   have m:=v.jv e _ (getElem_mem f);unfold aX at o;rw[dif_pos a,B p a] at o;have w:t∈bT (d.b.l[j].ins.l[p])∨t∈g.entries.l:=by
    split at o
    . grind
    . grind
   rcases w with h|h
   . have:=m.t t h;omega
   . have:=A6 v e (C t h);omega
 . rw [iL]
   have:=A6 v e (C t o);omega
structure zV (a b:Ins):Prop where
 op:b.op=a.op
 d:b.d=a.d
 n:b.n=a.n
 m:b.m=a.m
 p:b.p=a.p
theorem zV.refl (a:Ins):zV a a:=⟨rfl,rfl,rfl,rfl,rfl⟩
structure Eu (d e:Cd)(j0 p0:Nat):Prop where
 len:e.b.l.length=d.b.l.length
 il:∀(j:Nat) (h:j<d.b.l.length) (h':j<e.b.l.length),e.b.l[j].ins.l.length=d.b.l[j].ins.l.length
 same:∀(j:Nat) (h:j<d.b.l.length) (h':j<e.b.l.length) (p:Nat) (hp:p<d.b.l[j].ins.l.length) (hp':p<e.b.l[j].ins.l.length),zV d.b.l[j].ins.l[p] e.b.l[j].ins.l[p]∧(¬(j=j0∧p=p0)->e.b.l[j].ins.l[p]=d.b.l[j].ins.l[p])
theorem Eu.fe {d e:Cd}{u w:Nat}(h:Eu d e u w){j:Nat}{x:Int}:iw e j x↔iw d j x:=by
 constructor
 . rintro ⟨b, r, i, o, k, q, rfl⟩
   obtain⟨f,a,rfl⟩:=mem_iff_getElem.1 r;obtain⟨p,c,rfl⟩:=mem_iff_getElem.1 o;have v:f<d.b.l.length:=by rw[<-h.len];exact a
   have t:p<d.b.l[f].ins.l.length:=by rw[<-h.il f _ _];exact c
   have s:=(h.same f _ a p t c).1;exact⟨_,getElem_mem _,_,getElem_mem _,s.op.symm.trans k,s.p.symm.trans q,s.n.symm⟩
 rintro⟨b,r,i,o,k,q,rfl⟩
 obtain⟨f,a,rfl⟩:=mem_iff_getElem.1 r;obtain⟨p,c,rfl⟩:=mem_iff_getElem.1 o;have g:f<e.b.l.length:=by rw[h.len];exact a
 have m:p<e.b.l[f].ins.l.length:=by rw[h.il f a g];exact c
 have s:=(h.same f a g p c m).1;exact⟨_,getElem_mem g,_,getElem_mem m,s.op.trans k,s.p.trans q,s.n⟩
structure Nv (d:Cd)(j:Nat)(l:List Int):Prop where
 mem:∀x,x∈l↔iw d j x
 inc:l.Pairwise (·<·)
theorem dQ.ef {c:Cd}{j:Nat}(p:cB c=0){g:Gr}(h:dQ c (j:Int) g):Nv c j g.entries.l:=by
 obtain⟨q,_,_,e,o⟩:=h;rcases o with⟨r,_⟩|⟨_,r,_⟩|⟨_,_,_,_,a,b⟩
 . omega
 . omega
 . refine ⟨fun x => (a x).trans (oG.trans ⟨?_, ?_⟩), b⟩
   . rintro ⟨b, f, i, m, k, n, d⟩
     exact⟨b,f,i,m,k,n,d.symm⟩
   . rintro ⟨b, f, i, m, k, n, d⟩
     grind
end Go.Ago
