/-
  Part B29: lemmas, each with its own conditions.
-/
import Derived.Test.YthaolifcglpkdaaGreatDoorB28
set_option maxRecDepth 100000
set_option maxHeartbeats 0
set_option linter.all false
namespace Go.Ago
open Go.Proofs List Nat Tryz
attribute [local irreducible] bA bw aV bp bG wr aZ bF comp DC DP DW DV DY
theorem Sa {d:Nat}(c:Ck)(b I:Int)(r e:BL (List AV))(n p w:Int)(f:BL Fm)(j:Int)(size g:Bool)(k:EM c b r e)(m:∀x∈r.l,j8 (cP d) x)(s:∀x∈e.l,cP d x):af 184 [c.av,.agg [i64 b,i64 I,.ak 11 r.l,.ak 11 e.l,i64 n,i64 p,i64 w,l_ f.l,i64 j,.bool size,.bool g]] (cc fun _=>True):=by
 refine zw func184 ?_;have V:=c.p.procs.h;have F:=c.fQ;have P:=r.h;have y:=e.h;have S:=k.h2;have T:=k.h4;have B:=k.uD;have U:b=7->e.l.length=(c.p.procs.l[c.proc.toNat]'aa).lK.l.length:=fun h=>by obtain⟨Q,E⟩:=k.h7 h;exact E
 refine zk ?_
 repeat' ((first|(refine zp ?_ ?_<;>intro h)|refine az.mk _ (dA aa) ?_|(refine zh rfl (E9) ?_;rintro _ rfl)|(refine DC.pure rfl (Jo e s _) ?_;rintro _ ⟨Y,rfl,-⟩)|(refine DC.pure rfl (Ih r m _) ?_;rintro _ ⟨R,rfl,-⟩)|(refine DC.pure rfl (Ih ⟨List.take _ (List.drop _ r.l),by simp only[zbA,zcc];omega⟩ (fun x q=>m x (mem_of_mem_drop (zcU q))) _) ?_;rintro _ ⟨X,rfl,-⟩)|(obtain⟨u,G,z,A,D,H,a,q⟩:=nD s (n:=0) aa;refine az.mk _ a ?_;clear a)|(obtain⟨J,C,L,M,K,O,N,a,t,o⟩:=qv m (n:=0) aa;refine az.mk _ a ?_;clear a))<;>refine zk ?_)
 all_goals first|exact⟨_,rfl,trivial⟩|skip
 . refine DW.aO aC aD [3, 4, 10, 91, 92] [] 0 (fun i : Nat => [(93, i64 i)]) (fun _ => []) [] (fun i => e.l.length + 1 - i) (0) ?_
   refine zl fun i=>?_
   refine zk ?_
   repeat' ((first|(refine zp ?_ ?_<;>intro h)|(obtain⟨u,G,z,A,D,H,a,q⟩:=nD s (n:=(i:Int)) aa;refine az.mk _ a ?_;clear a))<;>refine zk ?_)
   all_goals first|exact⟨_,rfl,trivial⟩|exact zi (i+1)
 . refine DW.aO aC aD [3, 4, 10, 105, 106] [] 0 (fun i : Nat => [(107, i64 i)]) (fun _ => []) [] (fun i => r.l.length + 1 - i) (0) ?_
   refine zl fun i=>?_
   refine zk ?_
   repeat' ((first|(refine zp ?_ ?_<;>intro h)|(obtain⟨J,C,L,M,K,O,N,a,t,o⟩:=qv m (n:=(i:Int)) aa;refine az.mk _ a ?_;clear a))<;>refine zk ?_)
   all_goals first|exact⟨_,rfl,trivial⟩|exact zi (i+1)
theorem ZI {d:Nat}(c:Ck)(cs:List AV)(hE:mR d cs):af 135 [c.av,.agg cs] (oW True):=by
 obtain⟨k,v,r,e,n,p,z,f,j,g,a,q,w,x⟩:=hE;subst q;refine zw func135 ?_;have hrl:=r.h;have B:=e.h;refine zg ?_
 repeat' ((first|(refine DC.pure rfl (jU _) ?_;rintro _ rfl)|(refine DC.pure rfl (jT _) ?_;rintro _ rfl)|(refine DC.pure rfl (YI c k v r e n p z f j g a) ?_;rintro _ (⟨rfl,C⟩|rfl)))<;>refine zg ?_)
 all_goals first|exact .inr ⟨_,rfl,ab⟩|skip
 refine DW.aO aC aD [0,3,13,14] [] 0 (fun i:Nat=>[(15,i64 i)]) (fun _=>[]) [] (fun i=>r.l.length+1 - i) (0) ?_
 refine zl fun i=>?_
 refine zk ?_
 repeat' ((first|(refine zp ?_ ?_<;>intro h)|(refine DC.pure rfl (J3 c (Bo c d) b u A o p1 s t1 hp hs) ?_;rintro _ (⟨rfl,-⟩|⟨e9,rfl,t⟩))|(obtain⟨b,u,A,o,p1,s,t1,m,hp,hs⟩:=qv w (n:=(i:Int)) aa;refine az.mk _ m ?_;clear m))<;>refine zk ?_)
 all_goals first|exact .inr ⟨_,rfl,by assumption⟩|exact zi (i+1)|skip
 refine DW.aO aC aD [0,3,24,25] [] 0 (fun i:Nat=>[(26,i64 i)]) (fun _=>[]) [] (fun i=>e.l.length+1 - i) (0) ?_
 refine zl fun i=>?_
 refine zk ?_
 repeat' ((first|(refine zp ?_ ?_<;>intro h)|(refine DC.pure rfl (jU _) ?_;rintro _ rfl)|(refine DC.pure rfl (jT _) ?_;rintro _ rfl)|(refine DC.pure rfl (Bo c d _ hx) ?_;rintro _ (⟨rfl,-⟩|⟨e9,rfl,t⟩))|(refine DC.pure rfl (Sa c k v r e n p z f j g a C w x) ?_;rintro _ ⟨b3,rfl,-⟩)|(obtain⟨op1,t2,v1,m2,l2,r2,m,hx⟩:=nD x (n:=(i:Int)) aa;refine az.mk _ m ?_;clear m))<;>refine zk ?_)
 all_goals first|exact .inr ⟨_,rfl,ab⟩|exact .inr ⟨_,rfl,by assumption⟩|exact zi (i+1)|skip
 all_goals exact .inl ⟨rfl,trivial⟩
theorem Y_ {H:aj}{k nm sz:Nat}{m g h i j d o:AV}{y:Int}{acc:List Int}(w:H.get k=some (.arr sz [[m,g,h,i,j,d,o,.ay nm 0 ((acc.map fun a:Int=>[i64 a]).length+1) 1]]))
 (A:aM (snap H 19) [m,g,h,i,j,d,o]=some [m,g,h,i,j,d,o])(B:H.get nm=some (.arr 1 ([i64 y]::acc.map fun a:Int=>[i64 a]))) :
 snap H 20 (.ptr k 0 0)=some (.bm [m,g,h,i,j,d,o,.ak 1 ([i64 y]::acc.map fun a:Int=>[i64 a])]):=by
 have t:=gW (H:=H) (k:=nm) (sz:=1) (n:=18) (f:=fun a:Int=>[i64 a]) (y:=y) (acc:=acc) (fun _=>rfl) B
 have u:∀(l r:List AV) (x z:AV),aM (snap H 19) l=some r->snap H 19 x=some z->aM (snap H 19) (l++[x])=some (r++[z]):=by
  intro l
  induction l with
  | nil=>intro r x z c p;cases c;simp[aM,p]
  | cons b l C =>
    intro r x z c p;simp only[aM] at c;split at c
    . cases c
    . rename_i K E
      split at c
      . cases c
      . rename_i F D
        cases c;simp only[zc2,aM,E,C F x z D p]
 have I:=u _ _ _ _ A t;have G:snap H 20 (.ptr k 0 0)=match H.get k with
  | some (.arr _ J) => match J[0]? with
    | some e => match aM (snap H 19) (e.drop 0) with
      | some s=>some (.bm s)
      | none=>none
    | none=>none
  | _=>none:=rfl
 rw[G,w];simp only[zb3,zcV]
 erw [I]
 rfl
structure N0 (p:cQ) where
 q:Int
 acc:List Int
 hq : -1≤q∧q<p.procs.l.length
 ha:∀a∈acc,0≤a∧a<(p.procs.l.length:Int)
 hl:(acc.length:Int)+q+1≤p.procs.l.length
 cF:acc=[]->0≤q
theorem Jy (p:cQ)(a:jt p.procs.l)(q:Int)(h:0≤q∧q<p.procs.l.length) : -1≤(p.procs.l[q.toNat]'aa).parent∧(p.procs.l[q.toNat]'aa).parent≤q - 1:=by
 obtain⟨c,b,_⟩:=a q.toNat _ aa;omega
theorem PK (p:cQ)(f:jt p.procs.l)(o:p.procs.l.length≤64)(n:Int)(r:0≤n∧n<p.procs.l.length):af 134 [p.av,i64 n] (fun t=>∃c:Ck,t = .ret c.av∧c.p=p):=by
 refine zw func134 ?_
 conv=>whnf
 refine DW.aO aC aD [2,4,5] [5] 2000 (fun i:N0 p=>[(6,i64 i.q)]) (fun i=>(5,.arr 8 [[mn p.procs.l,i64 p.static,nj p.image.l,pY p.files.l,.ak 1 (p.conds.l.map fun s=>[.str s.l]),aT p.dv.l,i64 n,fu 1000 1 (i.acc.map fun a=>[i64 a])]])::fq 1000 1 (i.acc.map fun a=>[i64 a])) [(1000,.cell 5 7)] (fun i=>(i.q+1).toNat) (⟨n,[],aa,(fun _ h=>absurd h ag),by simp;omega,fun _=>r.1⟩) ?_
 conv=>whnf
 refine⟨?_,fun i=>?_⟩
 . conv => whnf
   (exact Ew)
 obtain⟨q,b,m,d,v,j⟩:=i;rcases b with _|⟨y,b⟩
 . have g := j rfl
   have e:=Jy p f q ⟨g,m.2⟩;refine zk ?_
   repeat' ((first|refine zf ?_|(refine zp ?_ ?_<;>first|exact⟨⟩|intro h)|refine az.mk _ (dA (n:=q) aa) ?_)<;>refine zk ?_)
   all_goals (refine⟨⟨(p.procs.l[q.toNat]'aa).parent,[q],aa,(by intro a d;rw[zbU] at d;omega),(by simp only[zbd,zbp];omega),(fun h=>by cases h)⟩,?_,rfl,?_⟩<;>first|((conv=>whnf);(exact Ew);done)|((try dsimp only)<;>omega))
 . have u := v
   simp only[zbd] at u
   by_cases g:0≤q
   . have e := Jy p f q ⟨g, m.2⟩
     refine zk ?_
     repeat' ((first|refine zf ?_|(refine Rq.mk (eP 8 64 ag rfl rfl qW ab) ?_)|(refine zp ?_ ?_<;>first|exact⟨⟩|intro h)|refine az.mk _ (dA (n:=q) aa) ?_)<;>refine zk ?_)
     all_goals (refine⟨⟨(p.procs.l[q.toNat]'aa).parent,y::(b++[q]),aa,(by intro a h;simp only[zbB,zbL,zbU,zb2,zca] at h;rcases h with h|h|h;(exact d a (by simp[h]));(exact d a (by simp[h]));omega),(by simp only[zbd,zbk,zbp];omega),(fun h=>by cases h)⟩,?_,rfl,?_⟩<;>first|((conv=>whnf);(exact Ew);done)|((try dsimp only)<;>omega))
   . refine zg ?_
     repeat' ((refine zp ?_ ?_<;>first|exact⟨⟩|intro h)<;>refine zg ?_)
     generalize w:snap _ 20 _=x
     obtain rfl:=Eq.trans w.symm (Y_ aB aB aB)
     conv=>whnf
     exact⟨⟨p,n,⟨y::b,by simp only[zbd];omega⟩,r,d,f⟩,rfl,rfl⟩
theorem WU {d:Nat}{l:List (List AV)}{n:Int}(m:∀x∈l,mR d x)(h:n.toNat<l.length):∃(c k:Int) (r e:BL (List AV)) (g j i:Int) (f:BL Fm) (b:Int) (size a:Bool),
 l[n.toNat]? = some [i64 c,i64 k,.ak 11 r.l,.ak 11 e.l,i64 g,i64 j,i64 i,l_ f.l,i64 b,.bool size,.bool a]∧mR d [i64 c,i64 k,.ak 11 r.l,.ak 11 e.l,i64 g,i64 j,i64 i,l_ f.l,i64 b,.bool size,.bool a]:=by
 have p:=m _ (za9 h);obtain⟨c,k,r,e,g,j,i,f,b,size,a,o,s,q⟩:=id p
 grind
theorem Qf (p:cQ):af 128 [.bm p.cells] (oW (jt p.procs.l∧1≤p.procs.l.length∧p.procs.l.length≤64)):=by
 refine zw func128 ?_;have E:=p.procs.h;refine zg ?_
 repeat' ((first|(refine zp ?_ ?_<;>intro h)|(refine DC.pure rfl (jU _) ?_;rintro _ rfl)|(refine DC.pure rfl (jT _) ?_;rintro _ rfl)|(refine DC.pure rfl (kz _ _ _) ?_;rintro _ ⟨x,rfl,v⟩)|(refine DC.pure rfl (Zz p) ?_;rintro _ ⟨C,rfl,-⟩)|(refine DC.pure rfl (Sw p) ?_;rintro _ (⟨rfl,k⟩|⟨m,rfl,a⟩))|(refine DC.pure rfl (Xr p) ?_;rintro _ (⟨rfl,g⟩|⟨m,rfl,a⟩)))<;>refine zg ?_)
 all_goals first|exact .inr ⟨_,rfl,ab⟩|exact .inr ⟨_,rfl,by assumption⟩|skip
 all_goals
  refine DW.aO aC aD [0,21,22] [] 0 (fun i:Nat=>[(23,i64 i)]) (fun _=>[]) [] (fun i=>p.procs.l.length+1 - i) (0) ?_
  refine zl fun i=>?_
  refine zg ?_
  repeat' ((first|(refine zp ?_ ?_<;>intro h)|(refine DC.pure rfl (PK p g k.2 _ ⟨aa,aa⟩) ?_;rintro _ ⟨c,rfl,D⟩))<;>refine zg ?_)
  all_goals first|exact .inl ⟨rfl,g,k⟩|skip
  have w:=(p.procs.l[i]'aa).body.h;refine DW.aO aC aD [0,1,2,3,21,22,23,24,25,26,27,28,29,30,31,32,33] [] 0 (fun j:Nat=>[(34,i64 j)]) (fun _=>[]) [] (fun j=>(p.procs.l[i]'aa).body.l.length+1 - j) (0) ?_
  refine zl fun j=>?_
  refine zk ?_
  repeat' ((first|(refine zp ?_ ?_<;>intro h)|(refine DC.pure rfl (ZI c _ u) ?_;rintro _ (⟨rfl,-⟩|⟨m,rfl,a⟩))|(obtain⟨s,y,r,e,z,A,B,f,q,t,b,d,u⟩:=WU (p.procs.l[i]'aa).hb (n:=(j:Int)) aa;refine az.mk _ d ?_;clear d))<;>refine zk ?_)
  all_goals first|exact .inr ⟨_,rfl,by assumption⟩|exact zi (j+1)|exact zi (i+1)
theorem Qj (p:cQ):af 95 [p.av] (eS fun e=>e=0->jt p.procs.l∧1≤p.procs.l.length∧p.procs.l.length≤64):=by
 refine zw func95 ?_;refine zg ?_
 repeat' ((refine DC.flat rfl (PZ (Qf p)) ?_;rintro _ ⟨e,rfl,b⟩<;>refine⟨rfl,?_⟩)<;>refine zg ?_)
 all_goals exact⟨_,rfl,b⟩
end Go.Ago
namespace Go.Ago
open Go.Proofs List Nat Tryz
theorem AQ (p:cQ):af 95 [p.av] (eS fun e=>e=0->jt p.procs.l∧1≤p.procs.l.length∧p.procs.l.length≤64):=Qj p
noncomputable def du (p:cQ):Int:=Classical.choose (DP.ny (AQ p))
theorem AU (p:cQ):du p=0->jt p.procs.l∧1≤p.procs.l.length∧p.procs.l.length≤64:=(zbw (DP.ny (AQ p))).1
theorem AP (p:cQ):af 95 [p.av] (fun b=>b = .ret (i64 (du p))):=(zbw (DP.ny (AQ p))).2
end Go.Ago
namespace Go.Ago
open Go.Proofs List Nat Tryz
attribute [local irreducible] bA bw aV bp bG wr aZ bF comp DC DP DW DV
attribute [local irreducible] du ct
theorem N5 (p:cQ)(a b:Int):af 198 [p.av,i64 a,i64 b] (fun k=>∃(n:Int) (x:Bool) (e:Int),k = .ret (.ao [i64 n,.bool x,i64 e])∧(x=true->0≤b∧b<p.procs.l.length)):=by
 refine zw func198 ?_;have m:=p.procs.h;have i:=p.files.h;have j:=p.dv.h;have g:=p.conds.h;refine zg ?_
 repeat' ((first|(refine zp ?_ ?_<;>intro h)|(refine DC.pure rfl (AP _) ?_;rintro _ rfl)|(refine DC.pure rfl (o4 _ _ mD) ?_;rintro _ (⟨rfl,c⟩|⟨rfl,c⟩)<;>simp only[zba] at c)|(refine DC.pure rfl (Eh p (AU p bD).1 _ _ aa) ?_;rintro _ ⟨o,rfl,f⟩))<;>refine zg ?_)
 all_goals first|exact⟨_,_,_,rfl,fun _=>c⟩|exact⟨_,_,_,rfl,fun h=>by cases h⟩
theorem N3 (p:cQ)(a b:Int):af 199 [p.av,i64 a,i64 b] (fun g=>∃(x:Bool) (e:Int),g = .ret (.ao [.bool x,i64 e])∧(x=true->1≤b∧b<p.procs.l.length)):=by
 refine zw func199 ?_;have m:=p.procs.h;have i:=p.files.h;have j:=p.dv.h;have k:=p.conds.h;refine zg ?_
 repeat' ((first|(refine zp ?_ ?_<;>intro h)|(refine DC.pure rfl (AP _) ?_;rintro _ rfl)|(refine DC.pure rfl (o4 _ _ mD) ?_;rintro _ (⟨rfl,c⟩|⟨rfl,c⟩)<;>simp only[zba] at c)|(refine DC.pure rfl (KM p (AU p bD).1 _ _ aa) ?_;rintro _ (⟨rfl,d⟩|rfl)))<;>refine zg ?_)
 all_goals first|exact⟨_,_,rfl,fun _=>d⟩|exact⟨_,_,rfl,fun h=>by cases h⟩
theorem Yj (l:BL Int)(v:Int):af 47 [aT l.l,i64 v] (eS fun n=>True):=by
 refine zw func47 ?_;have b:=l.h
 conv=>whnf
 refine DW.aO aC aD [0,1,4,7] [] 0 (fun i:Nat=>[(8,i64 i)]) (fun _=>[]) [] (fun i=>l.l.length+1 - i) (0) ?_
 refine zl fun i=>?_
 refine zg ?_
 repeat' ((refine zp ?_ ?_<;>intro h)<;>refine zg ?_)
 all_goals first|exact⟨_,rfl,trivial⟩|exact zi (i+1)
theorem Yi (l:BL Int)(v:Int):af 12 [aT l.l,i64 v] (cc fun _=>True):=by
 have k1:=Yj l;exact zw func12 W
theorem xn (p:cQ)(n:Int)(l:BL Int):af 148 [p.av,i64 n,aT l.l] (cc fun _=>True):=by
 refine zw func148 ?_;have i:=p.procs.h;have d:=p.files.h;have e:=p.dv.h;have f:=p.conds.h;have g:wr .i64 (((p.files.l.map Fl.cells).length:Int) - 1)=(p.files.l.length:Int) - 1:=by rw[zba];exact aE aa aa
 refine zg ?_
 repeat' ((first|(refine zp ?_ ?_<;>intro h)|(refine DC.pure rfl (qg _ _ _) ?_;rintro _ (⟨rfl,a⟩|⟨rfl,a⟩))|(refine DC.pure rfl (Yi l _) ?_;rintro _ ⟨j,rfl,c⟩))<;>refine zg ?_)
 all_goals exact⟨_,rfl,trivial⟩
theorem HM (p:cQ)(c n:Int):af 156 [p.av,i64 c,i64 n] (cc fun _=>True):=by
 refine zw func156 ?_;have j:=p.procs.h;have e:=p.files.h;have f:=p.dv.h;have d:=p.conds.h;refine zg ?_
 repeat' ((first|(refine zp ?_ ?_<;>intro h)|(refine DC.pure rfl (uH _ _ _) ?_;rintro _ ⟨k,rfl,g⟩)|(refine DC.flat rfl (xn p _ ⟨[1,3],by(show 2<_;decide)⟩) ?_;rintro _ ⟨i,rfl,a⟩<;>refine⟨rfl,?_⟩)|(refine DC.flat rfl (xn p _ ⟨[3],by(show 1<_;decide)⟩) ?_;rintro _ ⟨i,rfl,a⟩<;>refine⟨rfl,?_⟩))<;>refine zg ?_)
 all_goals exact⟨_,rfl,trivial⟩
theorem EL (c n:Int)(l:BL Ty):af 106 [i64 c,i64 n,iL l.l] (fun d=>∃(t:Ty) (e:Int),d = .ret (.ao [t.av,i64 e])):=by
 refine zw func106 ?_;refine zg ?_
 repeat' ((first|(refine zp ?_ ?_<;>intro h)|(refine DC.pure rfl (Fw _ _ l) ?_;rintro _ ⟨t,b,rfl⟩))<;>refine zg ?_)
 all_goals first|exact⟨t,_,rfl⟩|exact⟨⟨0,0,0,false,[],ab⟩,_,rfl⟩
theorem HO (t:Ty)(b:Int)(l:BL Ty):af 104 [t.av,i64 b,iL l.l] (cc fun _=>True):=by
 refine zw func104 ?_;refine zg ?_
 repeat' ((first|(refine zp ?_ ?_<;>intro h)|(refine DC.pure rfl (EL _ _ l) ?_;rintro _ ⟨c,e,rfl⟩))<;>refine zg ?_)
 all_goals exact⟨_,rfl,trivial⟩
theorem Tn (l:BL Fm):af 147 [l_ l.l] (fun e=>∃a b:Bool,e = .ret (.ao [.bool a,.bool b])):=by
 refine zw func147 ?_;have f:=l.h
 conv=>whnf
 refine DW.aO aC aD [0,2,7,8] [] 0 (fun i:Nat×Bool=>[(9,i64 i.1),(3,.bool i.2)]) (fun _=>[]) [] (fun i=>l.l.length+1 - i.1) (⟨0,false⟩) ?_
 refine zl fun i=>?_
 refine zg ?_
 repeat' ((first|(refine zp ?_ ?_<;>first|exact⟨⟩|intro h)|(refine DC.pure rfl (uH _ _ _) ?_;rintro _ ⟨g,rfl,d⟩)|(refine DC.pure rfl (oc ⟨5,0,0,false,_,l.l[i.1].eA.h⟩) ?_;rintro _ rfl))<;>refine zg ?_)
 all_goals first|exact⟨_,_,rfl⟩|exact zi ((i.1+1,_))
theorem ZK (t:Ty):af 150 [t.av] (cc fun _=>True):=by
 have k1:=@C6;exact zw func150 W
theorem zal (l:BL Ty):af 197 [iL l.l,.fn (.func 150) [] []] (eS fun _=>True):=by
 refine zw func197 ?_;have c:=l.h
 conv=>whnf
 refine DW.aO aC aD [0,1,4,7] [] 0 (fun i:Nat=>[(8,i64 i)]) (fun _=>[]) [] (fun i=>l.l.length+1 - i) (0) ?_
 refine zl fun i=>?_
 refine zg ?_
 repeat' ((first|(refine zp ?_ ?_<;>intro h)|(refine DC.pure rfl (ZK _) ?_;rintro _ ⟨d,rfl,b⟩))<;>refine zg ?_)
 all_goals first|exact⟨_,rfl,trivial⟩|exact zi (i+1)
theorem Nz (l:BL Ty):af 149 [iL l.l,.fn (.func 150) [] []] (cc fun _=>True):=by
 have k1:=zal l;exact zw func149 W
end Go.Ago
namespace Go.Ago
open Go.Proofs List Nat Tryz
attribute [local irreducible] bA bw aV bp bG wr aZ bF comp DC DP DW DV
attribute [local irreducible] du ct aL
def cE (k:Kc)(p n:Int):Prop:=∃h:p.toNat<k.c.b.l.length,0≤n∧n≤((k.c.b.l[p.toNat]'h).ins.l.length:Int)
theorem HN (k:Kc)(p n:Int)(d:0≤p∧p<k.c.b.l.length):af 151 [k.av,i64 p,i64 n] (jV (cE k p n)):=by
 refine DP.dec ((Xb k p n d).mono ?_)
 rintro _ ⟨b,rfl,a⟩
 exact⟨b,rfl,a.trans ⟨fun h=>⟨aa,h⟩,fun ⟨_,h⟩=>h⟩⟩
def dE (k:Kc)(i:Ins):Prop:=(i.op=14->cE k k.proc i.n)∧(i.op=15->aL k i.a∧cE k k.proc i.n)∧(i.op=16->(0≤i.p∧i.p<k.c.p.procs.l.length)∧cE k i.p i.n)∧(i.op=17->i.d = -1∨aL k i.d)∧(i.op=18->i.a = -1∨aL k i.a)
def dm (k:Kc)(i:Ins):Prop:=(i.op=22->aL k i.d∧(i.a = -1∨aL k i.a))∧(i.op=23->aL k i.a∧(i.b = -1∨aL k i.b))∧(i.op=26->aL k i.d)∧(i.op=28->aL k i.d∧cE k k.proc i.m) ∧
 (i.op=29->aL k i.d∧(i.a = -1∨aL k i.a)∧cE k k.proc i.m)∧(i.op=30->aL k i.a∧(i.b = -1∨aL k i.b))∧(i.op=31->aL k i.a∧aL k i.b)∧(i.op=32->aL k i.d∧aL k i.a∧aL k i.b)∧(i.op=33->aL k i.d∧aL k i.a∧aL k i.b) ∧
 (i.op=34->aL k i.d)∧(i.op=35->aL k i.d)∧(i.op=36->aL k i.d)
end Go.Ago
namespace Go.Ago
open Go.Proofs List Nat Tryz
attribute [local irreducible] bA bw aV bp bG wr aZ bF comp DC DP DW DV
attribute [local irreducible] du ct aL cE dE dm
def dR (i:Ins):Prop:=(1≤i.op∧i.op≤38)∧(hasB i.op 68=false->i.d = -1)∧(hasB i.op 65=false->i.a = -1)∧(hasB i.op 66=false->i.b = -1)∧(hasB i.op 76=false->i.l.l=[])
def dL (k:Kc)(i:Ins):Prop:=(∀r∈i.l.l,aL k r)∧(i.op=2->aL k i.d)∧(i.op=3->aL k i.d∧aL k i.a)∧(i.op=38->aL k i.d∧aL k i.a)∧(i.op=4->aL k i.d)∧(i.op=5->aL k i.a)∧(i.op=6->aL k i.d∧aL k i.a)∧(i.op=7->aL k i.d∧aL k i.a∧aL k i.b)∧(i.op=8->aL k i.d∧aL k i.a)∧(i.op=9->aL k i.a∧aL k i.b)∧(i.op=10->aL k i.d∧aL k i.a∧(i.b = -1∨aL k i.b))∧(i.op=11->aL k i.d∧aL k i.a)∧(i.op=12->aL k i.d)∧(i.op=13->aL k i.d∧aL k i.a∧aL k i.b)∧(14≤i.op->i.op<22->dE k i)∧(22≤i.op->i.op≠38->dm k i)
def LI (k:Kc)(l:List Int)(n:Nat):Prop:=∀(j:Nat) (h:j<l.length),j<n->aL k l[j]
theorem LI.nil {k l}:LI k l 0:=fun _ _ h=>aa
theorem LI.step {k l n}(h:LI k l n)(b:n<l.length)(hi:aL k l[n]):LI k l (n+1):=fun j c d=>by
 rcases zbI j n with a|a
 . exact h j _ a
 grind
theorem LI.all {k:Kc}{l:List Int}{n:Nat}(h:LI k l n)(c:l.length≤n):∀r∈l,aL k r:=fun r a=>by
 obtain⟨j,b,rfl⟩:=zcv a;exact h j _ aa
end Go.Ago
namespace Go.Ago
open Go.Proofs List Nat Tryz
attribute [local irreducible] bA bw aV bp bG wr aZ bF comp DC DP DW DV
attribute [local irreducible] du ct aL cE dE dm dR dL
structure OutOK (c:Cd):Prop where
 ck:du c.p=0
 len:c.b.l.length=c.p.procs.l.length
 ah:∀(p:Nat) (h:p<c.b.l.length),0≤c.b.l[p].ah∧c.b.l[p].ah≤4000
def RI (l:List Bd)(n:Nat):Prop:=∀(j:Nat) (h:j<l.length),j<n->0≤l[j].ah∧l[j].ah≤4000
theorem RI.nil {l}:RI l 0:=fun _ _ h=>aa
theorem RI.step {l n}(h:RI l n)(b:n<l.length)(hi:0≤l[n].ah∧l[n].ah≤4000):RI l (n+1):=fun j c d=>by
 rcases zbI j n with a|a
 . exact h j _ a
 grind
theorem WY (p:eG):af 97 [p.av] (cc fun _=>True):=by
 refine zw func97 ?_;have b:=p.lK.h;refine zg ?_
 repeat' ((refine zp ?_ ?_<;>intro h)<;>refine zg ?_)
 all_goals exact⟨_,rfl,trivial⟩
theorem Xq (l:BL eG):af 136 [mn l.l,.fn (.func 97) [] []] (eS fun _=>True):=by
 refine zw func136 ?_;have c:=l.h
 conv=>whnf
 refine DW.aO aC aD [0,1,4,7] [] 0 (fun i:Nat=>[(8,i64 i)]) (fun _=>[]) [] (fun i=>l.l.length+1 - i) (0) ?_
 refine zl fun i=>?_
 refine zg ?_
 repeat' ((first|(refine zp ?_ ?_<;>intro h)|(refine DC.pure rfl (WY _) ?_;rintro _ ⟨d,rfl,b⟩))<;>refine zg ?_)
 all_goals first|exact⟨_,rfl,trivial⟩|exact zi (i+1)
theorem JS (l:BL eG):af 96 [mn l.l,.fn (.func 97) [] []] (cc fun _=>True):=by
 have k1:=Xq l;exact zw func96 W
def fy (c:Cd)(h:OutOK c)(p:Nat)(a:p<c.b.l.length):Kc:=⟨c,p,⟨aa,aa⟩,h.len,(AU c.p h.ck).1⟩
def vG (c:Cd)(h:OutOK c)(p:Nat)(a:p<c.b.l.length)(i:Ins):Prop:=dR i∧dL (fy c h p a) i
structure CI (c:Cd)(h:OutOK c)(p:Nat):Prop where
 lo:∀(q:Nat) (hq:q<c.b.l.length),q<p->∀i∈c.b.l[q].ins.l,vG c h q hq i
def BI (c:Cd)(h:OutOK c)(p:Nat)(a:p<c.b.l.length)(n:Nat):Prop:=∀(j:Nat) (d:j<c.b.l[p].ins.l.length),j<n->vG c h p a c.b.l[p].ins.l[j]
def qZ (c:Cd):Prop:=∃h:OutOK c,∀(q:Nat) (a:q<c.b.l.length),∀i∈c.b.l[q].ins.l,vG c h q a i
theorem BI.nil {c h p a}:BI c h p a 0:=fun _ _ h=>aa
theorem BI.step {c h p a n}(e:BI c h p a n)(f:n<c.b.l[p].ins.l.length)(hi:vG c h p a c.b.l[p].ins.l[n]):BI c h p a (n+1):=fun j g i=>by
 rcases zbI j n with d|d
 . exact e j _ d
 grind
theorem CI.nil {c h}:CI c h 0:=⟨fun _ _ h=>aa⟩
theorem CI.step {c h p}(k:CI c h p)(g:p<c.b.l.length){n:Nat}(m:BI c h p g n)(o:c.b.l[p].ins.l.length≤n):CI c h (p+1):=⟨fun q s r i d=>by
 rcases zbI q p with a|a
 . exact k.lo q _ a i d
 have:q=p:=aa;subst this;obtain⟨j,f,rfl⟩:=zcv d;exact m j f aa⟩
theorem UH {c:Cd}(h:OutOK c)(p:Nat)(a:p<c.b.l.length):0≤fg (fy c h p a)∧fg (fy c h p a)≤4000:=h.ah p _
end Go.Ago
section
namespace Go.Ago
open Go.Proofs List Nat Tryz
theorem DP.jb {g:FuncId}{args:List AV}{p:Bool->Prop}(h:af g args (cc p)):∃b,p b∧af g args (fun c=>c = .ret (.bool b)):=by
 obtain⟨_,h,b,rfl,a⟩:=h;exact⟨b,a,_,h,rfl⟩
theorem DP.xM {α:Type}{g:FuncId}{args:List AV}{f:α->AV}{p:α->Prop}(h:af g args (fun a=>∃x,a = .ret (f x)∧p x)):∃x,p x∧af g args (fun a=>a = .ret (f x)):=by
 obtain⟨_,h,b,rfl,c⟩:=h;exact⟨b,c,_,h,rfl⟩
end Go.Ago
namespace Go.Ago
open Go.Proofs List Nat Tryz
attribute [local irreducible] bA bw aV bp bG wr aZ bF comp DC DP DW DV
attribute [local irreducible] du ct aL cE dE dm dR dL
noncomputable def nM (t:Ty):Bool:=Classical.choose (DP.jb (xl t))
theorem Yp (t:Ty):af 101 [t.av] (fun b=>b = .ret (.bool (nM t))):=(zbw (DP.jb (xl t))).2
noncomputable def nG (t:Ty):Bool:=Classical.choose (DP.jb (C6 t))
theorem JD (t:Ty):af 105 [t.av] (fun b=>b = .ret (.bool (nG t))):=(zbw (DP.jb (C6 t))).2
noncomputable def l5 (t:Ty):Bool:=Classical.choose (DP.jb (FG t))
theorem Qa (t:Ty):af 152 [t.av] (fun b=>b = .ret (.bool (l5 t))):=(zbw (DP.jb (FG t))).2
noncomputable def pO (t:Ty)(v:Vl):Int:=Classical.choose (DP.ny (wA t v))
theorem Q1 (t:Ty)(v:Vl):af 102 [t.av,v.av] (fun b=>b = .ret (i64 (pO t v))):=(zbw (DP.ny (wA t v))).2
noncomputable def np (t:Ty)(b:Int)(l:BL Ty):Bool:=Classical.choose (DP.jb (HO t b l))
theorem Ch (t:Ty)(b:Int)(l:BL Ty):af 104 [t.av,i64 b,iL l.l] (fun c=>c = .ret (.bool (np t b l))):=(zbw (DP.jb (HO t _ l))).2
theorem J1 (b n:Int)(l:BL Ty):∃x:Ty×Int,True∧af 106 [i64 b,i64 n,iL l.l] (fun a=>a = .ret (.ao [x.1.av,i64 x.2])):=DP.xM ((EL _ n l).mono (ag))
noncomputable def oR (b n:Int)(l:BL Ty):Ty×Int:=Classical.choose (J1 b n l)
theorem XK (b n:Int)(l:BL Ty):af 106 [i64 b,i64 n,iL l.l] (fun c=>c = .ret (.ao [(oR b n l).1.av,i64 (oR b n l).2])):=(zbw (J1 _ n l)).2
noncomputable def l8 (p:cQ)(n:Int)(l:BL Int):Bool:=Classical.choose (DP.jb (xn p n l))
theorem Bv (p:cQ)(n:Int)(l:BL Int):af 148 [p.av,i64 n,aT l.l] (fun b=>b = .ret (.bool (l8 p n l))):=(zbw (DP.jb (xn p n l))).2
noncomputable def n_ (p:cQ)(c n:Int):Bool:=Classical.choose (DP.jb (HM p c n))
theorem O5 (p:cQ)(c n:Int):af 156 [p.av,i64 c,i64 n] (fun b=>b = .ret (.bool (n_ p c n))):=(zbw (DP.jb (HM p c n))).2
theorem G7 (l:BL Fm):∃x:Bool×Bool,True∧af 147 [l_ l.l] (fun a=>a = .ret (.ao [.bool x.1,.bool x.2])):=DP.xM ((Tn l).mono (ag))
noncomputable def lD (l:BL Fm):Bool×Bool:=Classical.choose (G7 l)
theorem Sq (l:BL Fm):af 147 [l_ l.l] (fun b=>b = .ret (.ao [.bool (lD l).1,.bool (lD l).2])):=(zbw (G7 l)).2
noncomputable def qT (l:BL Ty):Bool:=Classical.choose (DP.jb (Nz l))
theorem Z6 (l:BL Ty):af 149 [iL l.l,.fn (.func 150) [] []] (fun b=>b = .ret (.bool (qT l))):=(zbw (DP.jb (Nz l))).2
noncomputable def oM (l:BL eG):Bool:=Classical.choose (DP.jb (JS l))
theorem W6 (l:BL eG):af 96 [mn l.l,.fn (.func 97) [] []] (fun b=>b = .ret (.bool (oM l))):=(zbw (DP.jb (JS l))).2
theorem Ei (p:cQ)(a b:Int):∃x:Int×Bool×Int,(x.2.1=true->0≤b∧b<p.procs.l.length)∧af 198 [p.av,i64 a,i64 b] (fun c=>c = .ret (.ao [i64 x.1,.bool x.2.1,i64 x.2.2])):=DP.xM ((N5 p a b).mono (ag))
noncomputable def mB (p:cQ)(a b:Int):Int×Bool×Int:=Classical.choose (Ei p a b)
theorem zas (p:cQ)(a b:Int):(mB p a b).2.1=true->0≤b∧b<p.procs.l.length:=(zbw (Ei p a b)).1
theorem zar (p:cQ)(a b:Int):af 198 [p.av,i64 a,i64 b] (fun d=>d = .ret (.ao [i64 (mB p a b).1,.bool (mB p a b).2.1,i64 (mB p a b).2.2])):=(zbw (Ei p a b)).2
theorem Dv (p:cQ)(a b:Int):∃x:Bool×Int,(x.1=true->1≤b∧b<p.procs.l.length)∧af 199 [p.av,i64 a,i64 b] (fun c=>c = .ret (.ao [.bool x.1,i64 x.2])):=DP.xM ((N3 p a b).mono (ag))
noncomputable def nN (p:cQ)(a b:Int):Bool×Int:=Classical.choose (Dv p a b)
theorem Yr (p:cQ)(a b:Int):(nN p a b).1=true->1≤b∧b<p.procs.l.length:=(zbw (Dv p a b)).1
theorem Yq (p:cQ)(a b:Int):af 199 [p.av,i64 a,i64 b] (fun d=>d = .ret (.ao [.bool (nN p a b).1,i64 (nN p a b).2])):=(zbw (Dv p a b)).2
def n6 (p:cQ)(a b:Int):Prop:=(mB p a b).2.1=true∧(mB p a b).2.2=0
def mP (p:cQ)(a b:Int):Prop:=(nN p a b).1=true∧(nN p a b).2=0
theorem Ov (k:Kc)(b:Int):af 153 [k.av,i64 b] (fun e=>∃(n:Int) (x:Bool),e = .ret (.ao [i64 n,.bool x])∧(x=true↔n6 k.c.p k.proc b)):=by
 refine zw func153 ?_;have m:=k.c.p.procs.h;have g:=k.c.b.h;have i:=k.c.p.files.h;have f:=k.c.p.dv.h;have j:=k.c.p.conds.h;have l:=k.fQ;have d:=k.hlen;refine zg ?_
 repeat' ((first|(refine zp ?_ ?_<;>intro h)|(refine DC.pure rfl (zar k.c.p k.proc b) ?_;rintro _ rfl))<;>refine zg ?_)
 all_goals exact⟨_,_,rfl,by unfold n6;simp_all⟩
theorem KK (k:Kc)(b:Int):af 154 [k.av,i64 b] (cc fun x=>x=true↔mP k.c.p k.proc b):=by
 refine zw func154 ?_;have l:=k.c.p.procs.h;have f:=k.c.b.h;have g:=k.c.p.files.h;have e:=k.c.p.dv.h;have i:=k.c.p.conds.h;have j:=k.fQ;have d:=k.hlen;refine zg ?_
 repeat' ((first|(refine zp ?_ ?_<;>intro h)|(refine DC.pure rfl (Yq k.c.p k.proc b) ?_;rintro _ rfl))<;>refine zg ?_)
 all_goals (refine⟨_,rfl,?_⟩;unfold mP;simp_all;done)
def kA (k:Kc)(r m:Int):Prop:=(r = -1∧m=0)∨(aL k r∧16≤m∧m≤4096)
def lh (k:Kc)(r:Int)(x:Bool):Prop:=(x=true∧aL k r)∨(x=false∧r = -1)
theorem Ou (k:Kc)(e:0≤fg k∧fg k≤4000)(r m:Int):af 146 [k.av,i64 r,i64 m] (cc fun b=>b=true↔kA k r m):=by
 refine zw func146 ?_;have q:=k.c.p.procs.h;have g:=k.c.b.h;have i:=k.c.p.files.h;have j:=k.c.p.dv.h;have f:=k.c.p.conds.h;have n:=k.fQ;have l:=k.hlen;refine zg ?_
 repeat' ((first|(refine zp ?_ ?_<;>intro h)|(refine DC.pure rfl (Dg k e r) ?_;rintro _ (⟨rfl,o⟩|⟨rfl,o⟩))|(refine DC.pure rfl (qg _ _ _) ?_;rintro _ (⟨rfl,d⟩|⟨rfl,d⟩)))<;>refine zg ?_)
 all_goals (refine⟨_,rfl,?_⟩;unfold kA;(simp_all;done))
theorem W8 (k:Kc)(e:0≤fg k∧fg k≤4000)(r:Int)(x:Bool):af 155 [k.av,i64 r,.bool x] (cc fun b=>b=true↔lh k r x):=by
 refine zw func155 ?_;have n:=k.c.p.procs.h;have g:=k.c.b.h;have i:=k.c.p.files.h;have f:=k.c.p.dv.h;have l:=k.c.p.conds.h;have j:=k.fQ;have m:=k.hlen;refine zg ?_
 repeat' ((first|(refine zp ?_ ?_<;>intro h)|(refine DC.pure rfl (Dg k e r) ?_;rintro _ (⟨rfl,d⟩|⟨rfl,d⟩)))<;>refine zg ?_)
 all_goals (refine⟨_,rfl,?_⟩;unfold lh;(simp_all;done))
def jd (l:List eG):Nat->Int->Int->Int×Int
 | 0,p,m=>(p,m)
 | f+1,p,m=>if 0<m∧0<p then jd l f ((l[p.toNat]?.map (·.parent)).getD 0) (wr .i64 (m - 1)) else (p,m)
theorem C0 {l:List eG}{f:Nat}{p m:Int}(h:¬(0<m∧0<p)):jd l f p m=(p,m):=by
 cases f with
 | zero=>rfl
 | succ n=>show(if _ then _ else _)=_;grind
theorem WW {l:List eG}(i:jt l):∀(f:Nat) {p m:Int},p.toNat≤f->p.toNat<l.length->jd l f p m=jd l p.toNat p m:=by
 intro f
 induction f using Nat.strongRecOn with
 | ind f b =>
   intro p m n a
   by_cases h:0<m∧0<p
   . obtain ⟨t, k⟩ : ∃ t, p.toNat = t + 1 := ⟨p.toNat - 1, aa⟩
     obtain⟨g,e⟩:∃g,f=g+1:=⟨f - 1,aa⟩;have o:=(i p.toNat a a).2.1 aa;have j:jd l f p m=jd l g l[p.toNat].parent (wr .i64 (m - 1)):=by
      rw[e];show(if _ then _ else _)=_;rw[if_pos h,zbf a];rfl
     have c:jd l p.toNat p m=jd l t l[p.toNat].parent (wr .i64 (m - 1)):=by
      (conv=>lhs;rw[k]);show(if _ then _ else _)=_;rw[if_pos h,zbf a];rfl
     rw[j,c,b g aa aa aa,b t aa aa aa]
   . rw[C0 h,C0 h]
theorem WX {l:List eG}(b:jt l){p m:Int}(a:p.toNat<l.length)(h:0<m∧0<p):jd l p.toNat p m=jd l (l[p.toNat].parent).toNat l[p.toNat].parent (wr .i64 (m - 1)):=by
 have d:=(b p.toNat a a).2.1 aa;obtain⟨t,e⟩:∃t,p.toNat=t+1:=⟨p.toNat - 1,aa⟩;have c:jd l p.toNat p m=jd l t l[p.toNat].parent (wr .i64 (m - 1)):=by
  (simp_all);show(if _ then _ else _)=_;grind
 rw[c,WW b t aa aa]
def fV (k:Kc)(n:Int):Int×Bool:=((jd k.c.p.procs.l k.proc.toNat k.proc n).1,decide ((jd k.c.p.procs.l k.proc.toNat k.proc n).2=0))
def n3 (k:Kc)(n:Int)(x:Int×Int):Prop:=(0≤x.2∧x.2<k.c.b.l.length)∧jd k.c.p.procs.l x.2.toNat x.2 x.1=jd k.c.p.procs.l k.proc.toNat k.proc n
theorem n3.next (k:Kc)(n:Int){m p:Int}(h:n3 k n (m,p))(e:0<m)(d:0<p)(a:p.toNat<k.c.p.procs.l.length):n3 k n (wr .i64 (m - 1),k.c.p.procs.l[p.toNat].parent):=by
 have f:=(k.hp _ a a).2.1 aa;have b:=k.hlen;refine⟨⟨f.1,aa⟩,?_⟩;rw[<-h.2];exact(WX k.hp _ ⟨e,d⟩).symm
theorem n3.done (k:Kc)(n:Int){m p:Int}(h:n3 k n (m,p))(d:¬(0<m∧0<p)){b:Bool}(e:b=decide (m=0)) :
 (AE.ret (.ao [i64 p,.bool b]) = .ret (.ao [i64 (fV k n).1,.bool (fV k n).2]))∧0≤(fV k n).1∧(fV k n).1<k.c.b.l.length:=by
 have a:fV k n=(p,b):=by
  unfold fV;rw[<-h.2,C0 d,e]
 rw[a];exact⟨rfl,h.1⟩
def mm (k:Kc)(x:Int):Int:=(k.c.p.procs.l[x.toNat]?.map (·.params)).getD 0
theorem W2 {k:Kc}{x:Int}(h:x.toNat<k.c.p.procs.l.length):mm k x=k.c.p.procs.l[x.toNat].params:=by unfold mm;grind
def lS (k:Kc)(i:Ins):Prop:=(i.n=1∧(fV k i.m).2=true∧0≤i.m∧i.p=0)∨(i.n=3∧(fV k i.m).2=true∧0≤i.m∧0≤i.p∧i.p≤mm k (fV k i.m).1 - 1)∨(i.n=2∧i.m=0∧i.p=0)∨(i.n=5∧i.m=0∧0≤i.p∧i.p≤(k.c.p.dv.l.length:Int) - 1)
theorem W0 (k:Kc)(n:Int):af 144 [k.av,i64 n] (fun q=>q = .ret (.ao [i64 (fV k n).1,.bool (fV k n).2])∧0≤(fV k n).1∧(fV k n).1<k.c.b.l.length):=by
 refine zw func144 ?_;have t:=k.c.p.procs.h;have g:=k.c.b.h;have i:=k.c.p.files.h;have j:=k.c.p.dv.h;have o:=k.c.p.conds.h;have d:=k.fQ;have s:=k.hlen
 conv=>whnf
 refine DW.aO aC aD [2,4,5] [] 0 (fun x:{x:Int×Int // n3 k n x}=>[(6,i64 x.1.2),(1,i64 x.1.1)]) (fun _=>[]) [] (fun x=>x.1.2.toNat) (⟨(n,k.proc),d,rfl⟩) ?_
 refine zl fun x=>?_
 obtain⟨⟨m,p⟩,a⟩:=x;have u:0≤p∧p<k.c.b.l.length:=a.1;have r:=k.hp p.toNat aa aa;refine zk ?_
 repeat' ((first|refine az.mk _ (dA (l:=k.c.p.procs.l) (n:=p) aa) ?_|(refine zp ?_ ?_<;>first|exact⟨⟩|intro h))<;>refine zk ?_)
 all_goals first|(have f:=r.2.1 aa;refine⟨⟨(wr .i64 (m - 1),(k.c.p.procs.l[p.toNat]'aa).parent),a.next k n aa aa aa⟩,(by(conv=>whnf);(repeat' first|exact True.intro|apply And.intro|rfl)),rfl,bH⟩)|(refine n3.done k n a ?_ (zbF ?_).symm<;>omega)|(refine n3.done k n a ?_ (zbT ?_).symm<;>omega)
theorem ON (k:Kc)(i:Ins):af 103 [k.av,i.av] (cc fun b=>b=true↔lS k i):=by
 refine zw func103 ?_;have w:=k.c.p.procs.h;have u:=k.c.b.h;have v:=k.c.p.files.h;have j:=k.c.p.dv.h;have o:=k.c.p.conds.h;have q:=k.fQ;have r:=k.hlen;refine zg ?_
 repeat' ((first|(refine zp ?_ ?_<;>first|exact⟨⟩|intro h)|(refine DC.pure rfl (W0 k i.m) ?_;rintro _ ⟨rfl,s,t⟩)|(refine DC.pure rfl (qg _ _ _) ?_;rintro _ (⟨rfl,d⟩|⟨rfl,d⟩))|(refine zh rfl (qg _ _ _) ?_;rintro _ (⟨rfl,d⟩|⟨rfl,d⟩)))<;>refine zg ?_)
 all_goals first|(have e:=W2 (k:=k) (x:=(fV k i.m).1) aa;have a:=k.hp (fV k i.m).1.toNat aa aa;have f:=aE (n:=(k.c.p.procs.l[(fV k i.m).1.toNat]'aa).params - 1) (by have:=a.2.2.2;omega) (by have:=a.2.2.2;omega);simp only[f,<-e] at *;refine⟨_,rfl,?_⟩;unfold lS;first|(simp_all;done)|grind)|(simp only[zba] at d;rw[aE aa aa] at d;refine⟨_,rfl,?_⟩;unfold lS;(simp_all;done))|(refine⟨_,rfl,?_⟩;unfold lS;(simp_all;done))
end Go.Ago
end
section
namespace Go.Ago
open Go.Proofs List Nat Tryz
def nH (k:Kc)(x:Int):eG:=k.c.p.procs.l.getD x.toNat (k.c.p.procs.l[k.proc.toNat]'(by have:=k.fQ;have:=k.hlen;omega))
theorem uY {k:Kc}{x:Int}(h:x.toNat<k.c.p.procs.l.length):nH k x=k.c.p.procs.l[x.toNat]:=by unfold nH;grind
theorem EO {p:cQ}{a b:Int}(h:n6 p a b):0≤b∧b<p.procs.l.length:=zas p a b h.1
theorem ri {p:cQ}{a b:Int}(h:mP p a b):1≤b∧b<p.procs.l.length:=Yr p a b h.1
def kE (k:Kc)(i:Ins)(a:Prop):Prop:=
 (i.op=14∧cE k k.proc i.n)∨(i.op=15∧a∧cE k k.proc i.n)∨(i.op=16∧n6 k.c.p k.proc i.p∧cE k i.p i.n) ∨
 (i.op=17∧mP k.c.p k.proc i.n∧(i.l.l.length:Int)=(nH k i.n).params∧lh k i.d (decide (0<(nH k i.n).lK.l.length)))∨(i.op=18∧(i.a = -1∨(a∧0<(nH k k.proc).lK.l.length))) ∨
 (i.op=19∧n_ k.c.p i.n i.p=true∧(i.m = -1∨(mP k.c.p k.proc i.m∧(nH k i.m).params=0∧(nH k i.m).lK.l.length=0)))∨((i.op=20∨i.op=21)∧n_ k.c.p i.n i.p=true)
end Go.Ago
namespace Go.Ago
open Go.Proofs List Nat Tryz
attribute [local irreducible] bA bw aV bp bG wr aZ bF comp DC DP DW DV
attribute [local irreducible] du ct aL cE dE dm dR dL nM nG l5 pO np oR l8 n_ lD qT oM mB nN n6 mP kA lh lS fV mm
theorem QW (k:Kc)(v:0≤fg k∧fg k≤4000)(i:Ins)(a:Bool):af 108 [k.av,i.av,.bool a] (cc fun x=>x=true↔kE k i (a=true)):=by
 refine zw func108 ?_;have E:=k.c.p.procs.h;have y:=k.c.b.h;have w:=k.c.p.files.h;have A:=k.c.p.dv.h;have r:=k.c.p.conds.h;have s:=k.fQ;have t:=k.hlen;have u:=i.l.h;have o:=k.hp k.proc.toNat aa aa;have f:=uY (k:=k) (x:=k.proc) aa;refine zk ?_
 repeat' ((first|(refine Rq.mk (by(first|rfl|((try simp only[rz]);(have:=ri d;omega)))) ?_)|(refine zb ?_ ?_<;>(intro h))|(refine az.mk _ (dA (by first|omega|(have:=ri d;omega))) ?_)|(refine DC.pure rfl (Ov k _) ?_;rintro _ ⟨C,B,rfl,e⟩)|(refine DC.pure rfl (HN k _ _ (by first|omega|(have:=EO (e.1 bD);omega))) ?_;rintro _ (⟨rfl,g⟩|⟨rfl,g⟩))|(refine DC.pure rfl (DP.dec (KK k _)) ?_;rintro _ (⟨rfl,d⟩|⟨rfl,d⟩))|(refine zh rfl (DP.dec (KK k _)) ?_;rintro _ (⟨rfl,d⟩|⟨rfl,d⟩))|(refine zh rfl (W8 k v _ _) ?_;rintro _ ⟨D,rfl,z⟩)|(refine DC.pure rfl (O5 k.c.p _ _) ?_;rintro _ rfl))<;>refine zk ?_)
 all_goals first|(have q:=uY (k:=k) (x:=i.n) (by have:=ri d;omega);refine⟨_,rfl,?_⟩;unfold kE;grind)|(have q:=uY (k:=k) (x:=i.m) (by have:=ri d;omega);refine⟨_,rfl,?_⟩;unfold kE;grind)|(refine⟨_,rfl,?_⟩;unfold kE;grind)
end Go.Ago
end
