/-
  Part A23: lemmas, each with its own conditions.
-/
import Derived.Test.YthaolifcglpkdaaGreatDoorA16
import Derived.Test.YthaolifcglpkdaaGreatDoorA22
set_option maxRecDepth 100000
set_option maxHeartbeats 0
set_option linter.all false
namespace Go.Ago
open Go.Proofs List Nat Tryz
attribute [local irreducible] bN bM aZ bK b_ wr bp bL comp DC DP DW DV
theorem Ru:af 137 [] (fun b=>b = .ret (.agg um)):=by
 refine zw func137 ?_
 conv=>whnf
 all_goals rfl
theorem BP (a:Int)(c:UInt8):af 98 [i64 a,.str [c]] (fun d=>d = .ret (.bool (hasB a c))):=by
 refine zw func98 ?_;refine zk ?_
 repeat' ((first|(refine zp ?_ ?_<;>intro h)|(refine DC.pure rfl (Ru) ?_;rintro _ rfl)|(refine DC.pure rfl (pR _ c) ?_;rintro _ rfl)|refine ay.mk _ (PT a aa aa) ?_)<;>refine zk ?_)
 all_goals first|(show _=_;rw[SB aa aa];simp only[*])|(show _=_;rw[Hm aa])|(show _=_;rw[Hn aa])
theorem qj (x lo hi:Int):af 100 [i64 x,i64 lo,i64 hi] (kQ (lo≤x∧x≤hi)):=DP.dec (uB x _ _)
theorem yi (k:Kc)(e:0≤fj k∧fj k≤4000)(r:Int):af 99 [k.av,i64 r] (ca fun b=>b=true↔aL k r):=by
 refine zw func99 ?_;have n:=k.c.p.procs.h;have g:=k.c.b.h;have i:=k.c.p.files.h;have j:=k.c.p.dv.h;have f:=k.c.p.conds.h;have m:=k.fK;have l:=k.hlen;unfold fj at e;refine zg ?_
 repeat' ((first|(refine zp ?_ ?_<;>intro h)|(refine DC.pure rfl (uB _ _ _) ?_;rintro _ ⟨o,rfl,a⟩))<;>refine zg ?_)
 all_goals (rw[aF aa aa] at a;exact⟨_,rfl,by simp_all[aL,fj]⟩)
theorem C1 (k:Kc)(a:0≤fj k∧fj k≤4000)(r:Int):af 99 [k.av,i64 r] (kQ (aL k r)):=DP.dec (yi k a r)
theorem WG (k:Kc)(p n:Int)(o:0≤p∧p<k.c.b.l.length):af 151 [k.av,i64 p,i64 n] (ca fun b=>b=true↔0≤n∧n≤((k.c.b.l[p.toNat]'aa).ins.l.length:Int)):=by
 refine zw func151 ?_;have q:=k.c.p.procs.h;have g:=k.c.b.h;have i:=k.c.p.files.h;have e:=k.c.p.dv.h;have f:=k.c.p.conds.h;have j:=k.fK;have m:=k.hlen;refine zg ?_
 repeat' ((first|(refine zp ?_ ?_<;>intro h)|(refine DC.pure rfl (uB _ _ _) ?_;rintro _ ⟨r,rfl,a⟩))<;>refine zg ?_)
 all_goals exact⟨_,rfl,by simp only[length_map] at a;simp_all⟩
end Go.Ago
namespace Go.Ago
open Go.Proofs List Nat Tryz
attribute [local irreducible] bN bM aZ bK b_ wr bp bL comp DC DP DW DV DY
theorem Te (b u n o:Int)(p s:BL (List AV))(t:Ty):af 328 [.agg [i64 b,i64 u,i64 n,i64 o,.ak 11 p.l,.ak 14 s.l,i64 t.kind,i64 t.p,i64 t.q,.bool t.fw,.str t.ep]] (fun c=>c = .ret (.fn (.func 344) [] [.bq [i64 b,i64 u,i64 n,i64 o,.ak 11 p.l,.ak 14 s.l,i64 t.kind,i64 t.p,i64 t.q,.bool t.fw,.str t.ep]])):=by
 refine zw func328 ?_;rfl
theorem Wx (r l:BL (List AV)):af 299 [.ak 11 r.l,.ak 11 l.l] (fun b=>b = .ret (.fn (.func 327) [] [.bq [.ak 11 r.l],.bq [.ak 11 l.l]])):=by
 refine zw func299 ?_
 conv=>whnf
theorem PS (b:Int)(t:Ty)(v:Vl)(m:Int)(l r:BL (List AV)):af 260 [.agg [i64 b,i64 t.kind,i64 t.p,i64 t.q,.bool t.fw,.str t.ep,i64 v.n,.str v.s,i64 m,.ak 11 l.l,.ak 11 r.l]] (fun c=>c = .ret (.fn (.func 327) [] [.bq [.ak 11 r.l],.bq [.ak 11 l.l]])):=by
 have k1:=Wx r l;exact zw func260 W
theorem nE {d:Nat}{l:List (List AV)}{n:Int}(i:∀x∈l,cP d x)(h:n.toNat<l.length):∃(a:Int) (t:Ty) (v:Vl) (m:Int) (c b:BL (List AV)),
 l[n.toNat]? = some [i64 a,i64 t.kind,i64 t.p,i64 t.q,.bool t.fw,.str t.ep,i64 v.n,.str v.s,i64 m,.ak 11 c.l,.ak 11 b.l]∧cP d [i64 a,i64 t.kind,i64 t.p,i64 t.q,.bool t.fw,.str t.ep,i64 v.n,.str v.s,i64 m,.ak 11 c.l,.ak 11 b.l]:=by
 have e:=i _ (getElem_mem h);cases d with
 | zero=>exact e.elim
 | succ d =>
   obtain⟨a,t,v,m,c,b,k,o,j⟩:=e
   grind
theorem xL {d:Nat}{l:List (List AV)}{n:Int}(r:∀x∈l,rp (cP d) x)(h:n.toNat<l.length):∃(b:Int) (t:Ty) (v:Vl) (m:Int) (a c:BL (List AV)) (lo hi f:Int),
 l[n.toNat]? = some [i64 b,i64 t.kind,i64 t.p,i64 t.q,.bool t.fw,.str t.ep,i64 v.n,.str v.s,i64 m,.ak 11 a.l,.ak 11 c.l,i64 lo,i64 hi,i64 f]∧cP d [i64 b,i64 t.kind,i64 t.p,i64 t.q,.bool t.fw,.str t.ep,i64 v.n,.str v.s,i64 m,.ak 11 a.l,.ak 11 c.l]:=by
 obtain⟨e,lo,hi,f,u,i⟩:=r _ (getElem_mem h);cases d with
 | zero=>exact i.elim
 | succ d =>
   obtain⟨b,t,v,m,a,c,w,o,k⟩:=i;exact⟨b,t,v,m,a,c,lo,hi,f,by simp_all,b,t,v,m,a,c,rfl,o,k⟩
theorem KO:∀(d:Nat) (cs:List AV),cP d cs->∀n:Int,af 229 [.agg cs,i64 n] (ca fun _=>True)
 | 0,_,h,_=>h.elim
 | d + 1, cs, ⟨N, t, v, m, l, r, q, H, I⟩, n => by
   subst q;have w:=KO d;refine zw func229 ?_;have J:=l.h;have K:=r.h;refine zg ?_
   repeat' ((first|(refine zp ?_ ?_<;>intro h)|(refine DC.pure rfl (PS N t v m l r) ?_;rintro _ rfl)|refine DW.range [3,4] ?_|refine zd func327 ?_)<;>refine zg ?_)
   all_goals first|exact⟨_,rfl,trivial⟩|skip
   refine DW.aO aC aD [2,3,9,10] [] 0 (fun i:Nat=>[(11,i64 i)]) (fun _=>[]) [] (fun i=>r.l.length+1 - i) (0) ?_
   refine zl fun i=>?_
   refine zk ?_
   repeat' ((first|(refine zp ?_ ?_<;>intro h)|(refine DC.pure rfl (Te b u E o p s M) ?_;rintro _ rfl)|refine DW.range [3,4] ?_|refine zd func344 ?_|(obtain⟨b,u,E,o,p,s,M,a,L,D⟩:=qx I (n:=(i:Int)) aa;refine ay.mk _ a ?_;clear a))<;>refine zk ?_)
   . have F := p.h; have G := s.h
     refine DW.aO aC aD [0,1,8,9] [] 0 (fun j:Nat=>[(10,i64 j)]) (fun _=>[]) [] (fun j=>p.l.length+1 - j) (0) ?_
     refine zl fun j=>?_
     refine zk ?_
     repeat' ((first|(refine zp ?_ ?_<;>intro h)|(refine DC.pure rfl (w _ f _) ?_;rintro _ ⟨x,rfl,-⟩)|refine DY.walk aC aD ?_|(obtain⟨g,z,A,y,B,C,a,f⟩:=nE L (n:=(j:Int)) aa;refine ay.mk _ a ?_;clear a))<;>refine zk ?_)
     all_goals first|exact⟨_,rfl,trivial⟩|exact zi (j+1)|skip
     refine DW.aO aC aD [0,20,21] [] 0 (fun k:Nat=>[(22,i64 k)]) (fun _=>[]) [] (fun k=>s.l.length+1 - k) (0) ?_
     refine zl fun k=>?_
     refine zk ?_
     repeat' ((first|(refine zp ?_ ?_<;>intro h)|(refine DC.pure rfl (w _ f _) ?_;rintro _ ⟨x,rfl,-⟩)|refine DY.walk aC aD ?_|(obtain⟨g,z,A,y,B,C,P,Q,O,a,f⟩:=xL D (n:=(k:Int)) aa;refine ay.mk _ a ?_;clear a))<;>refine zk ?_)
     all_goals first|exact⟨_,rfl,trivial⟩|exact zi (k+1)|exact zi (i+1)
   . refine DW.aO aC aD [3, 23, 24] [] 0 (fun j : Nat => [(25, i64 j)]) (fun _ => []) [] (fun j => l.l.length + 1 - j) (0) ?_
     refine zl fun j=>?_
     refine zk ?_
     repeat' ((first|(refine zp ?_ ?_<;>intro h)|(refine DC.pure rfl (w _ f _) ?_;rintro _ ⟨x,rfl,-⟩)|refine DY.walk aC aD ?_|(obtain⟨g,z,A,y,B,C,a,f⟩:=nE H (n:=(j:Int)) aa;refine ay.mk _ a ?_;clear a))<;>refine zk ?_)
     all_goals first|exact⟨_,rfl,trivial⟩|exact zi (j+1)
structure Et (c:Ck)(op n:Int)(l r:BL (List AV)):Prop where
 mb:1≤op∧op≤31
 hr:op=2∨op=3∨op=30∨op=31->r.l.length=1
 hl:4≤op∧op≤24->1≤l.l.length∧l.l.length≤3
 qf:op=30∨op=31->l.l.length=1
 call:op=25->∃h:n.toNat<c.p.procs.l.length,1≤n∧(c.p.procs.l[n.toNat]'h).lK.l.length=1
theorem VY (c:Ck)(f n:Int)(t:Ty)(v:Vl)(l r:BL (List AV)):af 230 [c.av,.agg [i64 f,i64 t.kind,i64 t.p,i64 t.q,.bool t.fw,.str t.ep,i64 v.n,.str v.s,i64 n,.ak 11 l.l,.ak 11 r.l]] (fun k=>(k = .ret (.bool true)∧Et c f n l r)∨k = .ret (.bool false)):=by
 refine zw func230 ?_;have B:=c.p.procs.h;have y:=c.p.dv.h;have g:=c.fK;have m:=l.h;have o:=r.h;refine zk ?_
 repeat' ((first|(refine zp ?_ ?_<;>first|exact⟨⟩|intro h)|refine ay.mk _ (cU aa) ?_|(refine DC.pure rfl (tc _ _ _) ?_;rintro _ (⟨rfl,d⟩|⟨rfl,d⟩))|(refine zh rfl (tc _ _ _) ?_;rintro _ (⟨rfl,d⟩|⟨rfl,d⟩))|(refine zh rfl (Ku _ c.hp _ _ g.2) ?_;rintro _ (⟨rfl,x⟩|rfl))|(refine zh rfl (o3 _ _ mG) ?_;rintro _ (⟨rfl,e⟩|⟨rfl,e⟩)<;>simp only[length_map] at e)|(obtain⟨a,b,j,D,C,w,z,A,u⟩:=FD f aa;refine ay.mk _ j ?_;clear j)|refine zo ?_)<;>refine zk ?_)
 all_goals first|exact .inr rfl|exact .inl ⟨rfl,⟨aa,aa,aa,aa,fun _=>⟨aa,aa,aa⟩⟩⟩
theorem ZO {d:Nat}(c:Ck)(f n:Int)(t:Ty)(v:Vl)(l r:BL (List AV))(a:Et c f n l r)(e:∀x∈l.l,cP d x)(F:∀x∈r.l,j7 (cP d) x):af 231 [c.av,.agg [i64 f,i64 t.kind,i64 t.p,i64 t.q,.bool t.fw,.str t.ep,i64 v.n,.str v.s,i64 n,.ak 11 l.l,.ak 11 r.l]] (ca fun _=>True):=by
 refine zw func231 ?_;have j:=a.mb;have k:=a.hr;have m:=a.hl;have o:=a.qf;have w:f=25->1≤n∧n<c.p.procs.l.length:=fun h=>by obtain⟨J,Z,_⟩:=a.call h;omega
 have y:=c.p.procs.h;have z:=l.h;have A:=r.h;refine zk ?_
 repeat' ((first|(refine zp ?_ ?_<;>intro h)|refine ay.mk _ (cU aa) ?_|(refine DC.pure rfl (wj t v) ?_;rintro _ ⟨P,rfl,B⟩)|(refine zh rfl (WZ) ?_;rintro _ rfl)|(refine zh rfl (Ot _) ?_;rintro _ rfl)|(refine zh rfl (zae _) ?_;rintro _ rfl)|(refine zh rfl (I8 l e _) ?_;rintro _ ⟨b1,rfl,C⟩)|(refine zh rfl (ZQ l e aa) ?_;rintro _ ⟨u,rfl⟩)|(refine zh rfl (Ff _ _ u) ?_;rintro _ ⟨t9,b9,rfl⟩)|(obtain⟨E,K,L,M,N,O,b,Q⟩:=nE e (n:=0) (by have:=a.hl;have:=a.qf;omega);refine ay.mk _ b ?_;clear b)|(obtain⟨R,S,T,U,V,X,Y,b,D,H⟩:=qx F (n:=0) (by have:=a.hr;omega);refine ay.mk _ b ?_;clear b)|(obtain⟨G,I,i⟩:=a.call aa;refine Rq.mk (by simp only[hZ,length_map];omega) ?_))<;>refine zk ?_)
 all_goals exact⟨_,rfl,trivial⟩
theorem JM {d:Nat}(c:Ck)(he0:∀cs,cP d cs->af 183 [c.av,.agg cs] (oY True))(b u n o:Int)(p s:BL (List AV))(t:Ty)(hp:∀x∈p.l,cP d x)(hs:∀x∈s.l,rp (cP d) x):af 182 [c.av,.agg [i64 b,i64 u,i64 n,i64 o,.ak 11 p.l,.ak 14 s.l,i64 t.kind,i64 t.p,i64 t.q,.bool t.fw,.str t.ep]] (oY True):=by
 refine zw func182 ?_;have hpl:=p.h;have hsl:=s.h;refine zg ?_
 repeat' ((first|(refine zp ?_ ?_<;>first|exact⟨⟩|intro h)|(refine DC.pure rfl (jT _) ?_;rintro _ rfl)|(refine DC.pure rfl (jS _) ?_;rintro _ rfl)|(refine DC.pure rfl (oe t) ?_;rintro _ rfl)|(refine DC.pure rfl (kp _ _ _) ?_;rintro _ ⟨b1,rfl,hb1⟩)|(refine DC.pure rfl (Xy c b u n o p s t) ?_;rintro _ ⟨m9,x9,rfl⟩)|(refine DC.pure rfl (ED t) ?_;rintro _ ⟨al,rfl,hal⟩)|(refine zh rfl (Dl t) ?_;rintro _ ⟨sz,rfl,hsz⟩))<;>refine zg ?_)
 all_goals first|exact .inr ⟨_,rfl,ab⟩|exact .inr ⟨_,rfl,by assumption⟩|skip
 all_goals
  refine DW.aO aC aD [0,3,4,6,7,97,98] [] 0 (fun i:Nat×Int=>[(99,i64 i.1),(8,i64 i.2)]) (fun _=>[]) [] (fun i=>s.l.length+1 - i.1) ((0,wr .i64 (o+sz))) ?_
  refine zl fun i=>?_
  refine zk ?_
  repeat' ((first|(refine zp ?_ ?_<;>first|exact⟨⟩|intro h)|(refine DC.pure rfl (jT _) ?_;rintro _ rfl)|(refine DC.pure rfl (jS _) ?_;rintro _ rfl)|(refine DC.pure rfl (kp _ _ _) ?_;rintro _ ⟨b1,rfl,hb1⟩)|(obtain⟨op1,t2,v1,m2,l2,r2,lo,hi,st,he,hx⟩:=xL hs (n:=(i.1:Int)) aa;refine ay.mk _ he ?_;clear he))<;>refine zk ?_)
  all_goals first|exact .inr ⟨_,rfl,ab⟩|exact .inr ⟨_,rfl,by assumption⟩|exact zi ((i.1+1,_))|skip
  refine DW.aO aC aD [0,3,146,147] [] 0 (fun i:Nat=>[(148,i64 i)]) (fun _=>[]) [] (fun i=>p.l.length+1 - i) (0) ?_
  refine zl fun i=>?_
  refine zk ?_
  repeat' ((first|(refine zp ?_ ?_<;>first|exact⟨⟩|intro h)|(refine DC.pure rfl (he0 _ hx) ?_;rintro _ (⟨rfl,-⟩|⟨e9,rfl,he9⟩))|(obtain⟨op1,t2,v1,m2,l2,r2,he,hx⟩:=nE hp (n:=(i:Int)) aa;refine ay.mk _ he ?_;clear he))<;>refine zk ?_)
  all_goals first|exact .inr ⟨_,rfl,ab⟩|exact .inr ⟨_,rfl,by assumption⟩|exact zi (i+1)|skip
  refine DW.aO aC aD [0,3,157,158] [] 0 (fun i:Nat=>[(159,i64 i)]) (fun _=>[]) [] (fun i=>s.l.length+1 - i) (0) ?_
  refine zl fun i=>?_
  refine zk ?_
  repeat' ((first|(refine zp ?_ ?_<;>first|exact⟨⟩|intro h)|(refine DC.pure rfl (he0 _ hx) ?_;rintro _ (⟨rfl,-⟩|⟨e9,rfl,he9⟩))|(obtain⟨op1,t2,v1,m2,l2,r2,lo,hi,st,he,hx⟩:=xL hs (n:=(i:Int)) aa;refine ay.mk _ he ?_;clear he))<;>refine zk ?_)
  all_goals first|exact .inr ⟨_,rfl,ab⟩|exact .inr ⟨_,rfl,by assumption⟩|exact zi (i+1)|skip
  refine DW.aO aC aD [3,169,170] [] 0 (fun i:Nat=>[(171,i64 i)]) (fun _=>[]) [] (fun i=>p.l.length+1 - i) (0) ?_
  refine zl fun i=>?_
  refine zk ?_
  repeat' ((first|(refine zp ?_ ?_<;>first|exact⟨⟩|intro h)|(refine DC.pure rfl (jT _) ?_;rintro _ rfl)|(refine DC.pure rfl (jS _) ?_;rintro _ rfl)|(obtain⟨op1,t2,v1,m2,l2,r2,he,hx⟩:=nE hp (n:=(i:Int)) aa;refine ay.mk _ he ?_;clear he))<;>refine zk ?_)
  all_goals first|exact .inr ⟨_,rfl,ab⟩|exact .inr ⟨_,rfl,by assumption⟩|exact zi (i+1)|skip
  refine DW.aO aC aD [182,183] [] 0 (fun i:Nat=>[(184,i64 i)]) (fun _=>[]) [] (fun i=>s.l.length+1 - i) (0) ?_
  refine zl fun i=>?_
  refine zk ?_
  repeat' ((first|(refine zp ?_ ?_<;>first|exact⟨⟩|intro h)|(refine DC.pure rfl (jT _) ?_;rintro _ rfl)|(refine DC.pure rfl (jS _) ?_;rintro _ rfl)|(obtain⟨op1,t2,v1,m2,l2,r2,lo,hi,st,he,hx⟩:=xL hs (n:=(i:Int)) aa;refine ay.mk _ he ?_;clear he))<;>refine zk ?_)
  all_goals first|exact .inr ⟨_,rfl,ab⟩|exact .inr ⟨_,rfl,by assumption⟩|exact zi (i+1)|skip
  all_goals exact .inl ⟨rfl,trivial⟩
theorem Bc (c:Ck):∀(d:Nat) (cs:List AV),cP d cs->af 183 [c.av,.agg cs] (oY True)
 | 0,_,h=>h.elim
 | d + 1, cs, hE => by
   have ih:=Bc c d;obtain⟨op,t,v,m,l,r,hcs,hl,hr⟩:=id hE;subst hcs;refine zw func183 ?_;have hll:=l.h;have hrl:=r.h;refine zg ?_
   repeat' ((first|(refine zp ?_ ?_<;>first|exact⟨⟩|intro h)|(refine DC.pure rfl (jT _) ?_;rintro _ rfl)|(refine DC.pure rfl (jS _) ?_;rintro _ rfl)|(refine DC.pure rfl (KO _ _ hE _) ?_;rintro _ ⟨b1,rfl,-⟩)|(refine DC.pure rfl (VY c op m t v l r) ?_;rintro _ (⟨rfl,hN⟩|rfl)))<;>refine zg ?_)
   all_goals first|exact .inr ⟨_,rfl,ab⟩|exact .inr ⟨_,rfl,by assumption⟩|skip
   refine DW.aO aC aD [0,3,16,17] [] 0 (fun i:Nat=>[(18,i64 i)]) (fun _=>[]) [] (fun i=>r.l.length+1 - i) (0) ?_
   refine zl fun i=>?_
   refine zk ?_
   repeat' ((first|(refine zp ?_ ?_<;>first|exact⟨⟩|intro h)|(refine DC.pure rfl (JM c ih b u m1 o p s t1 hp hs) ?_;rintro _ (⟨rfl,-⟩|⟨e9,rfl,he9⟩))|(obtain⟨b,u,m1,o,p,s,t1,he,hp,hs⟩:=qx hr (n:=(i:Int)) aa;refine ay.mk _ he ?_;clear he))<;>refine zk ?_)
   all_goals first|exact .inr ⟨_,rfl,ab⟩|exact .inr ⟨_,rfl,by assumption⟩|exact zi (i+1)|skip
   refine DW.aO aC aD [0,3,27,28] [] 0 (fun i:Nat=>[(29,i64 i)]) (fun _=>[]) [] (fun i=>l.l.length+1 - i) (0) ?_
   refine zl fun i=>?_
   refine zk ?_
   repeat' ((first|(refine zp ?_ ?_<;>first|exact⟨⟩|intro h)|(refine DC.pure rfl (jT _) ?_;rintro _ rfl)|(refine DC.pure rfl (jS _) ?_;rintro _ rfl)|(refine DC.pure rfl (ih _ hx) ?_;rintro _ (⟨rfl,-⟩|⟨e9,rfl,he9⟩))|(refine DC.pure rfl (wh t) ?_;rintro _ ⟨b2,rfl,hb2⟩)|(refine DC.pure rfl (ZO c op m t v l r hN hl hr) ?_;rintro _ ⟨b3,rfl,-⟩)|(obtain⟨op1,t2,v1,m2,l2,r2,he,hx⟩:=nE hl (n:=(i:Int)) aa;refine ay.mk _ he ?_;clear he))<;>refine zk ?_)
   all_goals first|exact .inr ⟨_,rfl,ab⟩|exact .inr ⟨_,rfl,by assumption⟩|exact zi (i+1)|skip
   all_goals exact .inl ⟨rfl,trivial⟩
structure Ey (c:Ck)(kind:Int)(r e:BL (List AV)):Prop where
 h2:kind=2->r.l.length=1∧e.l.length=1
 h4:kind=4->e.l.length=1
 uy:kind=11->1≤r.l.length
 h7:kind=7->∃h:c.proc.toNat<c.p.procs.l.length,e.l.length=(c.p.procs.l[c.proc.toNat]'h).lK.l.length
theorem Ye (c:Ck)(a v:Int)(r e:BL (List AV))(n p w:Int)(f:BL Fm)(k:Int)(size g:Bool):af 181 [c.av,.agg [i64 a,i64 v,.ak 11 r.l,.ak 11 e.l,i64 n,i64 p,i64 w,ma f.l,i64 k,.bool size,.bool g]] (fun u=>(u = .ret (.bool true)∧Ey c a r e)∨u = .ret (.bool false)):=by
 by_cases D:1≤a∧a≤22
 . rcases (show a = 1 ∨ a = 2 ∨ a = 3 ∨ a = 4 ∨ a = 5 ∨ a = 6 ∨ a = 7 ∨ a = 8 ∨ a = 9 ∨ a = 10 ∨ a = 11 ∨ a = 12 ∨ a = 13 ∨ a = 14 ∨ a = 15 ∨ a = 16 ∨ a = 17 ∨ a = 18 ∨ a = 19 ∨ a = 20 ∨ a = 21 ∨ a = 22 by omega) with rfl | rfl | rfl | rfl | rfl | rfl | rfl | rfl | rfl | rfl | rfl | rfl | rfl | rfl | rfl | rfl | rfl | rfl | rfl | rfl | rfl | rfl
   all_goals
    refine zw func181 ?_;have C:=c.p.procs.h;have s:=c.p.dv.h;have d:=c.fK;have q:=r.h;have o:=e.h;have y:wr .i64 0=0:=aF ab ab;have z:wr .i64 1=1:=aF ab ab;have A:wr .i64 2=2:=aF ab ab;refine zg ?_
    repeat' ((first|(refine Br.t (b:=aZ (dS _ _ _ _) _) (by rw[mZ];decide) ?_)|(refine Br.f (b:=aZ (dS _ _ _ _) _) (by rw[wJ];decide) ?_)|(refine zp ?_ ?_<;>first|exact⟨⟩|intro h)|(refine DC.pure rfl (tc _ _ _) ?_;rintro _ (⟨rfl,i⟩|⟨rfl,i⟩))|(refine zh rfl (o3 _ _ mG) ?_;rintro _ (⟨rfl,m⟩|⟨rfl,m⟩)<;>simp only[length_map] at m)|(refine zh rfl (D1 c.p c.hp _ _ d.2) ?_;rintro _ ⟨E,rfl,-⟩)|(refine zh rfl (Jp c _ _ d) ?_;rintro _ ⟨B,rfl,-⟩)|(refine zh rfl (Jp c _ _ aa) ?_;rintro _ ⟨B,rfl,-⟩)|(refine DC.pure rfl (Zt c _ _ _) ?_;rintro _ ⟨F,rfl,-⟩)|(refine DC.pure rfl (Pm c _ _) ?_;rintro _ ⟨G,rfl,-⟩)|(refine DC.pure rfl (yO _ _) ?_;rintro _ ⟨H,rfl,-⟩)|(refine DC.pure rfl (GF c _ _) ?_;rintro _ ⟨I,rfl,-⟩)|(refine DC.pure rfl (Pn f _) ?_;rintro _ ⟨x,rfl,-⟩)|refine zo ?_)<;>refine zg ?_)
    all_goals first|exact .inr rfl|exact .inl ⟨rfl,⟨aa,aa,aa,aa⟩⟩|exact .inl ⟨rfl,⟨aa,aa,aa,fun _=>⟨aa,aa⟩⟩⟩
 . refine zw func181 ?_
   have C:=c.p.procs.h;have s:=c.p.dv.h;have d:=c.fK;have q:=r.h;have o:=e.h;have y:wr .i64 0=0:=aF ab ab;have z:wr .i64 1=1:=aF ab ab;have A:wr .i64 2=2:=aF ab ab;refine zg ?_
   repeat' ((refine DC.pure rfl (tc _ _ _) ?_;rintro _ (⟨rfl,i⟩|⟨rfl,i⟩))<;>refine zg ?_)
   all_goals first|exact .inr rfl|(exfalso;omega)
theorem RA {d:Nat}(c:Ck)(b I:Int)(r e:BL (List AV))(n p w:Int)(f:BL Fm)(j:Int)(size g:Bool)(k:Ey c b r e)(m:∀x∈r.l,j7 (cP d) x)(s:∀x∈e.l,cP d x):af 184 [c.av,.agg [i64 b,i64 I,.ak 11 r.l,.ak 11 e.l,i64 n,i64 p,i64 w,ma f.l,i64 j,.bool size,.bool g]] (ca fun _=>True):=by
 refine zw func184 ?_;have V:=c.p.procs.h;have F:=c.fK;have P:=r.h;have y:=e.h;have S:=k.h2;have T:=k.h4;have B:=k.uy;have U:b=7->e.l.length=(c.p.procs.l[c.proc.toNat]'aa).lK.l.length:=fun h=>by obtain⟨Q,E⟩:=k.h7 h;exact E
 refine zk ?_
 repeat' ((first|(refine zp ?_ ?_<;>intro h)|refine ay.mk _ (cU aa) ?_|(refine zh rfl (EW) ?_;rintro _ rfl)|(refine DC.pure rfl (I8 e s _) ?_;rintro _ ⟨Y,rfl,-⟩)|(refine DC.pure rfl (HU r m _) ?_;rintro _ ⟨R,rfl,-⟩)|(refine DC.pure rfl (HU ⟨List.take _ (List.drop _ r.l),by simp only[length_take,length_drop];omega⟩ (fun x q=>m x (mem_of_mem_drop (mem_of_mem_take q))) _) ?_;rintro _ ⟨X,rfl,-⟩)|(obtain⟨u,G,z,A,D,H,a,q⟩:=nE s (n:=0) aa;refine ay.mk _ a ?_;clear a)|(obtain⟨J,C,L,M,K,O,N,a,t,o⟩:=qx m (n:=0) aa;refine ay.mk _ a ?_;clear a))<;>refine zk ?_)
 all_goals first|exact⟨_,rfl,trivial⟩|skip
 . refine DW.aO aC aD [3, 4, 10, 91, 92] [] 0 (fun i : Nat => [(93, i64 i)]) (fun _ => []) [] (fun i => e.l.length + 1 - i) (0) ?_
   refine zl fun i=>?_
   refine zk ?_
   repeat' ((first|(refine zp ?_ ?_<;>intro h)|(obtain⟨u,G,z,A,D,H,a,q⟩:=nE s (n:=(i:Int)) aa;refine ay.mk _ a ?_;clear a))<;>refine zk ?_)
   all_goals first|exact⟨_,rfl,trivial⟩|exact zi (i+1)
 . refine DW.aO aC aD [3, 4, 10, 105, 106] [] 0 (fun i : Nat => [(107, i64 i)]) (fun _ => []) [] (fun i => r.l.length + 1 - i) (0) ?_
   refine zl fun i=>?_
   refine zk ?_
   repeat' ((first|(refine zp ?_ ?_<;>intro h)|(obtain⟨J,C,L,M,K,O,N,a,t,o⟩:=qx m (n:=(i:Int)) aa;refine ay.mk _ a ?_;clear a))<;>refine zk ?_)
   all_goals first|exact⟨_,rfl,trivial⟩|exact zi (i+1)
theorem Zc {d:Nat}(c:Ck)(cs:List AV)(hE:mS d cs):af 135 [c.av,.agg cs] (oY True):=by
 obtain⟨k,v,r,e,n,p,z,f,j,g,a,q,w,x⟩:=hE;subst q;refine zw func135 ?_;have hrl:=r.h;have B:=e.h;refine zg ?_
 repeat' ((first|(refine DC.pure rfl (jT _) ?_;rintro _ rfl)|(refine DC.pure rfl (jS _) ?_;rintro _ rfl)|(refine DC.pure rfl (Ye c k v r e n p z f j g a) ?_;rintro _ (⟨rfl,C⟩|rfl)))<;>refine zg ?_)
 all_goals first|exact .inr ⟨_,rfl,ab⟩|skip
 refine DW.aO aC aD [0,3,13,14] [] 0 (fun i:Nat=>[(15,i64 i)]) (fun _=>[]) [] (fun i=>r.l.length+1 - i) (0) ?_
 refine zl fun i=>?_
 refine zk ?_
 repeat' ((first|(refine zp ?_ ?_<;>intro h)|(refine DC.pure rfl (JM c (Bc c d) b u A o p1 s t1 hp hs) ?_;rintro _ (⟨rfl,-⟩|⟨e9,rfl,t⟩))|(obtain⟨b,u,A,o,p1,s,t1,m,hp,hs⟩:=qx w (n:=(i:Int)) aa;refine ay.mk _ m ?_;clear m))<;>refine zk ?_)
 all_goals first|exact .inr ⟨_,rfl,by assumption⟩|exact zi (i+1)|skip
 refine DW.aO aC aD [0,3,24,25] [] 0 (fun i:Nat=>[(26,i64 i)]) (fun _=>[]) [] (fun i=>e.l.length+1 - i) (0) ?_
 refine zl fun i=>?_
 refine zk ?_
 repeat' ((first|(refine zp ?_ ?_<;>intro h)|(refine DC.pure rfl (jT _) ?_;rintro _ rfl)|(refine DC.pure rfl (jS _) ?_;rintro _ rfl)|(refine DC.pure rfl (Bc c d _ hx) ?_;rintro _ (⟨rfl,-⟩|⟨e9,rfl,t⟩))|(refine DC.pure rfl (RA c k v r e n p z f j g a C w x) ?_;rintro _ ⟨b3,rfl,-⟩)|(obtain⟨op1,t2,v1,m2,l2,r2,m,hx⟩:=nE x (n:=(i:Int)) aa;refine ay.mk _ m ?_;clear m))<;>refine zk ?_)
 all_goals first|exact .inr ⟨_,rfl,ab⟩|exact .inr ⟨_,rfl,by assumption⟩|exact zi (i+1)|skip
 all_goals exact .inl ⟨rfl,trivial⟩
theorem YC {H:ai}{k nm sz:Nat}{m g h i j d o:AV}{y:Int}{acc:List Int}(w:H.get k=some (.arr sz [[m,g,h,i,j,d,o,.az nm 0 ((acc.map fun a:Int=>[i64 a]).length+1) 1]]))
 (A:aM (snap H 19) [m,g,h,i,j,d,o]=some [m,g,h,i,j,d,o])(B:H.get nm=some (.arr 1 ([i64 y]::acc.map fun a:Int=>[i64 a]))) :
 snap H 20 (.ptr k 0 0)=some (.bq [m,g,h,i,j,d,o,.ak 1 ([i64 y]::acc.map fun a:Int=>[i64 a])]):=by
 have t:=gV (H:=H) (k:=nm) (sz:=1) (n:=18) (f:=fun a:Int=>[i64 a]) (y:=y) (acc:=acc) (fun _=>rfl) B
 have u:∀(l r:List AV) (x z:AV),aM (snap H 19) l=some r->snap H 19 x=some z->aM (snap H 19) (l++[x])=some (r++[z]):=by
  intro l
  induction l with
  | nil=>intro r x z c p;cases c;simp[aM,p]
  | cons b l C =>
    intro r x z c p;simp only[aM] at c;split at c
    . cases c
    . rename_i K E
      split at c
      . cases c
      . rename_i F D
        cases c;simp only[cons_append,aM,E,C F x z D p]
 have I:=u _ _ _ _ A t;have G:snap H 20 (.ptr k 0 0)=match H.get k with
  | some (.arr _ J) => match J[0]? with
    | some e => match aM (snap H 19) (e.drop 0) with
      | some s=>some (.bq s)
      | none=>none
    | none=>none
  | _=>none:=rfl
 rw[G,w];simp only[getElem?_cons_zero,drop_zero]
 erw [I]
 rfl
structure NB (p:cR) where
 q:Int
 acc:List Int
 hq : -1≤q∧q<p.procs.l.length
 ha:∀a∈acc,0≤a∧a<(p.procs.l.length:Int)
 hl:(acc.length:Int)+q+1≤p.procs.l.length
 cF:acc=[]->0≤q
theorem Ji (p:cR)(a:jo p.procs.l)(q:Int)(h:0≤q∧q<p.procs.l.length) : -1≤(p.procs.l[q.toNat]'aa).parent∧(p.procs.l[q.toNat]'aa).parent≤q - 1:=by
 obtain⟨c,b,_⟩:=a q.toNat _ aa;omega
theorem Po (p:cR)(f:jo p.procs.l)(o:p.procs.l.length≤64)(n:Int)(r:0≤n∧n<p.procs.l.length):af 134 [p.av,i64 n] (fun t=>∃c:Ck,t = .ret c.av∧c.p=p):=by
 refine zw func134 ?_
 conv=>whnf
 refine DW.aO aC aD [2,4,5] [5] 2000 (fun i:NB p=>[(6,i64 i.q)]) (fun i=>(5,.arr 8 [[mo p.procs.l,i64 p.static,nj p.image.l,p_ p.files.l,.ak 1 (p.conds.l.map fun s=>[.str s.l]),aU p.dv.l,i64 n,fc 1000 1 (i.acc.map fun a=>[i64 a])]])::e_ 1000 1 (i.acc.map fun a=>[i64 a])) [(1000,.cell 5 7)] (fun i=>(i.q+1).toNat) (⟨n,[],aa,(fun _ h=>absurd h ag),by simp;omega,fun _=>r.1⟩) ?_
 conv=>whnf
 refine⟨?_,fun i=>?_⟩
 . conv => whnf
   (exact Ed)
 obtain⟨q,b,m,d,v,j⟩:=i;rcases b with _|⟨y,b⟩
 . have g := j rfl
   have e:=Ji p f q ⟨g,m.2⟩;refine zk ?_
   repeat' ((first|refine zf ?_|(refine zp ?_ ?_<;>first|exact⟨⟩|intro h)|refine ay.mk _ (cU (n:=q) aa) ?_)<;>refine zk ?_)
   all_goals (refine⟨⟨(p.procs.l[q.toNat]'aa).parent,[q],aa,(by intro a d;rw[mem_singleton] at d;omega),(by simp only[length_cons,length_nil];omega),(fun h=>by cases h)⟩,?_,rfl,?_⟩<;>first|((conv=>whnf);(exact Ed);done)|((try dsimp only)<;>omega))
 . have u := v
   simp only[length_cons] at u
   by_cases g:0≤q
   . have e := Ji p f q ⟨g, m.2⟩
     refine zk ?_
     repeat' ((first|refine zf ?_|(refine Rq.mk (di 8 64 ag rfl rfl q9 ab) ?_)|(refine zp ?_ ?_<;>first|exact⟨⟩|intro h)|refine ay.mk _ (cU (n:=q) aa) ?_)<;>refine zk ?_)
     all_goals (refine⟨⟨(p.procs.l[q.toNat]'aa).parent,y::(b++[q]),aa,(by intro a h;simp only[mem_cons,mem_append,mem_singleton,not_mem_nil,or_false] at h;rcases h with h|h|h;(exact d a (by simp[h]));(exact d a (by simp[h]));omega),(by simp only[length_cons,length_append,length_nil];omega),(fun h=>by cases h)⟩,?_,rfl,?_⟩<;>first|((conv=>whnf);(exact Ed);done)|((try dsimp only)<;>omega))
   . refine zg ?_
     repeat' ((refine zp ?_ ?_<;>first|exact⟨⟩|intro h)<;>refine zg ?_)
     generalize w:snap _ 20 _=x
     obtain rfl:=Eq.trans w.symm (YC aB aB aB)
     conv=>whnf
     exact⟨⟨p,n,⟨y::b,by simp only[length_cons];omega⟩,r,d,f⟩,rfl,rfl⟩
theorem Wm {d:Nat}{l:List (List AV)}{n:Int}(m:∀x∈l,mS d x)(h:n.toNat<l.length):∃(c k:Int) (r e:BL (List AV)) (g j i:Int) (f:BL Fm) (b:Int) (size a:Bool),
 l[n.toNat]? = some [i64 c,i64 k,.ak 11 r.l,.ak 11 e.l,i64 g,i64 j,i64 i,ma f.l,i64 b,.bool size,.bool a]∧mS d [i64 c,i64 k,.ak 11 r.l,.ak 11 e.l,i64 g,i64 j,i64 i,ma f.l,i64 b,.bool size,.bool a]:=by
 have p:=m _ (getElem_mem h);obtain⟨c,k,r,e,g,j,i,f,b,size,a,o,s,q⟩:=id p
 grind
theorem PM (p:cR):af 128 [.bq p.cells] (oY (jo p.procs.l∧1≤p.procs.l.length∧p.procs.l.length≤64)):=by
 refine zw func128 ?_;have E:=p.procs.h;refine zg ?_
 repeat' ((first|(refine zp ?_ ?_<;>intro h)|(refine DC.pure rfl (jT _) ?_;rintro _ rfl)|(refine DC.pure rfl (jS _) ?_;rintro _ rfl)|(refine DC.pure rfl (kp _ _ _) ?_;rintro _ ⟨x,rfl,v⟩)|(refine DC.pure rfl (Y4 p) ?_;rintro _ ⟨C,rfl,-⟩)|(refine DC.pure rfl (RV p) ?_;rintro _ (⟨rfl,k⟩|⟨m,rfl,a⟩))|(refine DC.pure rfl (WX p) ?_;rintro _ (⟨rfl,g⟩|⟨m,rfl,a⟩)))<;>refine zg ?_)
 all_goals first|exact .inr ⟨_,rfl,ab⟩|exact .inr ⟨_,rfl,by assumption⟩|skip
 all_goals
  refine DW.aO aC aD [0,21,22] [] 0 (fun i:Nat=>[(23,i64 i)]) (fun _=>[]) [] (fun i=>p.procs.l.length+1 - i) (0) ?_
  refine zl fun i=>?_
  refine zg ?_
  repeat' ((first|(refine zp ?_ ?_<;>intro h)|(refine DC.pure rfl (Po p g k.2 _ ⟨aa,aa⟩) ?_;rintro _ ⟨c,rfl,D⟩))<;>refine zg ?_)
  all_goals first|exact .inl ⟨rfl,g,k⟩|skip
  have w:=(p.procs.l[i]'aa).body.h;refine DW.aO aC aD [0,1,2,3,21,22,23,24,25,26,27,28,29,30,31,32,33] [] 0 (fun j:Nat=>[(34,i64 j)]) (fun _=>[]) [] (fun j=>(p.procs.l[i]'aa).body.l.length+1 - j) (0) ?_
  refine zl fun j=>?_
  refine zk ?_
  repeat' ((first|(refine zp ?_ ?_<;>intro h)|(refine DC.pure rfl (Zc c _ u) ?_;rintro _ (⟨rfl,-⟩|⟨m,rfl,a⟩))|(obtain⟨s,y,r,e,z,A,B,f,q,t,b,d,u⟩:=Wm (p.procs.l[i]'aa).hb (n:=(j:Int)) aa;refine ay.mk _ d ?_;clear d))<;>refine zk ?_)
  all_goals first|exact .inr ⟨_,rfl,by assumption⟩|exact zi (j+1)|exact zi (i+1)
theorem PR (p:cR):af 95 [p.av] (eX fun e=>e=0->jo p.procs.l∧1≤p.procs.l.length∧p.procs.l.length≤64):=by
 refine zw func95 ?_;refine zg ?_
 repeat' ((refine DC.flat rfl (Pt (PM p)) ?_;rintro _ ⟨e,rfl,b⟩<;>refine⟨rfl,?_⟩)<;>refine zg ?_)
 all_goals exact⟨_,rfl,b⟩
end Go.Ago
namespace Go.Ago
open Go.Proofs List Nat Tryz
theorem AF (p:cR):af 95 [p.av] (eX fun e=>e=0->jo p.procs.l∧1≤p.procs.l.length∧p.procs.l.length≤64):=PR p
noncomputable def dJ (p:cR):Int:=Classical.choose (DP.nz (AF p))
theorem AJ (p:cR):dJ p=0->jo p.procs.l∧1≤p.procs.l.length∧p.procs.l.length≤64:=(Classical.choose_spec (DP.nz (AF p))).1
theorem AD (p:cR):af 95 [p.av] (fun b=>b = .ret (i64 (dJ p))):=(Classical.choose_spec (DP.nz (AF p))).2
end Go.Ago
namespace Go.Ago
open Go.Proofs List Nat Tryz
attribute [local irreducible] bN bM aZ bK b_ wr bp bL comp DC DP DW DV
attribute [local irreducible] dJ ct
theorem NH (p:cR)(a b:Int):af 198 [p.av,i64 a,i64 b] (fun k=>∃(n:Int) (x:Bool) (e:Int),k = .ret (.ao [i64 n,.bool x,i64 e])∧(x=true->0≤b∧b<p.procs.l.length)):=by
 refine zw func198 ?_;have m:=p.procs.h;have i:=p.files.h;have j:=p.dv.h;have g:=p.conds.h;refine zg ?_
 repeat' ((first|(refine zp ?_ ?_<;>intro h)|(refine DC.pure rfl (AD _) ?_;rintro _ rfl)|(refine DC.pure rfl (o3 _ _ mG) ?_;rintro _ (⟨rfl,c⟩|⟨rfl,c⟩)<;>simp only[length_map] at c)|(refine DC.pure rfl (D1 p (AJ p bA).1 _ _ aa) ?_;rintro _ ⟨o,rfl,f⟩))<;>refine zg ?_)
 all_goals first|exact⟨_,_,_,rfl,fun _=>c⟩|exact⟨_,_,_,rfl,fun h=>by cases h⟩
theorem NF (p:cR)(a b:Int):af 199 [p.av,i64 a,i64 b] (fun g=>∃(x:Bool) (e:Int),g = .ret (.ao [.bool x,i64 e])∧(x=true->1≤b∧b<p.procs.l.length)):=by
 refine zw func199 ?_;have m:=p.procs.h;have i:=p.files.h;have j:=p.dv.h;have k:=p.conds.h;refine zg ?_
 repeat' ((first|(refine zp ?_ ?_<;>intro h)|(refine DC.pure rfl (AD _) ?_;rintro _ rfl)|(refine DC.pure rfl (o3 _ _ mG) ?_;rintro _ (⟨rfl,c⟩|⟨rfl,c⟩)<;>simp only[length_map] at c)|(refine DC.pure rfl (Ku p (AJ p bA).1 _ _ aa) ?_;rintro _ (⟨rfl,d⟩|rfl)))<;>refine zg ?_)
 all_goals first|exact⟨_,_,rfl,fun _=>d⟩|exact⟨_,_,rfl,fun h=>by cases h⟩
theorem XQ (l:BL Int)(v:Int):af 47 [aU l.l,i64 v] (eX fun n=>True):=by
 refine zw func47 ?_;have b:=l.h
 conv=>whnf
 refine DW.aO aC aD [0,1,4,7] [] 0 (fun i:Nat=>[(8,i64 i)]) (fun _=>[]) [] (fun i=>l.l.length+1 - i) (0) ?_
 refine zl fun i=>?_
 refine zg ?_
 repeat' ((refine zp ?_ ?_<;>intro h)<;>refine zg ?_)
 all_goals first|exact⟨_,rfl,trivial⟩|exact zi (i+1)
theorem XP (l:BL Int)(v:Int):af 12 [aU l.l,i64 v] (ca fun _=>True):=by
 have k1:=XQ l;exact zw func12 W
theorem xd (p:cR)(n:Int)(l:BL Int):af 148 [p.av,i64 n,aU l.l] (ca fun _=>True):=by
 refine zw func148 ?_;have i:=p.procs.h;have d:=p.files.h;have e:=p.dv.h;have f:=p.conds.h;have g:wr .i64 (((p.files.l.map Fl.cells).length:Int) - 1)=(p.files.l.length:Int) - 1:=by rw[length_map];exact aF aa aa
 refine zg ?_
 repeat' ((first|(refine zp ?_ ?_<;>intro h)|(refine DC.pure rfl (qj _ _ _) ?_;rintro _ (⟨rfl,a⟩|⟨rfl,a⟩))|(refine DC.pure rfl (XP l _) ?_;rintro _ ⟨j,rfl,c⟩))<;>refine zg ?_)
 all_goals exact⟨_,rfl,trivial⟩
theorem Hq (p:cR)(c n:Int):af 156 [p.av,i64 c,i64 n] (ca fun _=>True):=by
 refine zw func156 ?_;have j:=p.procs.h;have e:=p.files.h;have f:=p.dv.h;have d:=p.conds.h;refine zg ?_
 repeat' ((first|(refine zp ?_ ?_<;>intro h)|(refine DC.pure rfl (uB _ _ _) ?_;rintro _ ⟨k,rfl,g⟩)|(refine DC.flat rfl (xd p _ ⟨[1,3],by(show 2<_;decide)⟩) ?_;rintro _ ⟨i,rfl,a⟩<;>refine⟨rfl,?_⟩)|(refine DC.flat rfl (xd p _ ⟨[3],by(show 1<_;decide)⟩) ?_;rintro _ ⟨i,rfl,a⟩<;>refine⟨rfl,?_⟩))<;>refine zg ?_)
 all_goals exact⟨_,rfl,trivial⟩
theorem Ex (c n:Int)(l:BL Ty):af 106 [i64 c,i64 n,iN l.l] (fun d=>∃(t:Ty) (e:Int),d = .ret (.ao [t.av,i64 e])):=by
 refine zw func106 ?_;refine zg ?_
 repeat' ((first|(refine zp ?_ ?_<;>intro h)|(refine DC.pure rfl (Ff _ _ l) ?_;rintro _ ⟨t,b,rfl⟩))<;>refine zg ?_)
 all_goals first|exact⟨t,_,rfl⟩|exact⟨⟨0,0,0,false,[],ab⟩,_,rfl⟩
theorem Hs (t:Ty)(b:Int)(l:BL Ty):af 104 [t.av,i64 b,iN l.l] (ca fun _=>True):=by
 refine zw func104 ?_;refine zg ?_
 repeat' ((first|(refine zp ?_ ?_<;>intro h)|(refine DC.pure rfl (Ex _ _ l) ?_;rintro _ ⟨c,e,rfl⟩))<;>refine zg ?_)
 all_goals exact⟨_,rfl,trivial⟩
theorem SO (l:BL Fm):af 147 [ma l.l] (fun e=>∃a b:Bool,e = .ret (.ao [.bool a,.bool b])):=by
 refine zw func147 ?_;have f:=l.h
 conv=>whnf
 refine DW.aO aC aD [0,2,7,8] [] 0 (fun i:Nat×Bool=>[(9,i64 i.1),(3,.bool i.2)]) (fun _=>[]) [] (fun i=>l.l.length+1 - i.1) (⟨0,false⟩) ?_
 refine zl fun i=>?_
 refine zg ?_
 repeat' ((first|(refine zp ?_ ?_<;>first|exact⟨⟩|intro h)|(refine DC.pure rfl (uB _ _ _) ?_;rintro _ ⟨g,rfl,d⟩)|(refine DC.pure rfl (oe ⟨5,0,0,false,_,l.l[i.1].ep.h⟩) ?_;rintro _ rfl))<;>refine zg ?_)
 all_goals first|exact⟨_,_,rfl⟩|exact zi ((i.1+1,_))
theorem Ze (t:Ty):af 150 [t.av] (ca fun _=>True):=by
 have k1:=@CP;exact zw func150 W
theorem ZP (l:BL Ty):af 197 [iN l.l,.fn (.func 150) [] []] (eX fun _=>True):=by
 refine zw func197 ?_;have c:=l.h
 conv=>whnf
 refine DW.aO aC aD [0,1,4,7] [] 0 (fun i:Nat=>[(8,i64 i)]) (fun _=>[]) [] (fun i=>l.l.length+1 - i) (0) ?_
 refine zl fun i=>?_
 refine zg ?_
 repeat' ((first|(refine zp ?_ ?_<;>intro h)|(refine DC.pure rfl (Ze _) ?_;rintro _ ⟨d,rfl,b⟩))<;>refine zg ?_)
 all_goals first|exact⟨_,rfl,trivial⟩|exact zi (i+1)
theorem M_ (l:BL Ty):af 149 [iN l.l,.fn (.func 150) [] []] (ca fun _=>True):=by
 have k1:=ZP l;exact zw func149 W
end Go.Ago
namespace Go.Ago
open Go.Proofs List Nat Tryz
attribute [local irreducible] bN bM aZ bK b_ wr bp bL comp DC DP DW DV
attribute [local irreducible] dJ ct aL
def cH (k:Kc)(p n:Int):Prop:=∃h:p.toNat<k.c.b.l.length,0≤n∧n≤((k.c.b.l[p.toNat]'h).ins.l.length:Int)
theorem Hr (k:Kc)(p n:Int)(d:0≤p∧p<k.c.b.l.length):af 151 [k.av,i64 p,i64 n] (kQ (cH k p n)):=by
 refine DP.dec ((WG k p n d).mono ?_)
 rintro _ ⟨b,rfl,a⟩
 exact⟨b,rfl,a.trans ⟨fun h=>⟨aa,h⟩,fun ⟨_,h⟩=>h⟩⟩
def dP (k:Kc)(i:Ins):Prop:=(i.op=14->cH k k.proc i.n)∧(i.op=15->aL k i.a∧cH k k.proc i.n)∧(i.op=16->(0≤i.p∧i.p<k.c.p.procs.l.length)∧cH k i.p i.n)∧(i.op=17->i.d = -1∨aL k i.d)∧(i.op=18->i.a = -1∨aL k i.a)
def dI (k:Kc)(i:Ins):Prop:=(i.op=22->aL k i.d∧(i.a = -1∨aL k i.a))∧(i.op=23->aL k i.a∧(i.b = -1∨aL k i.b))∧(i.op=26->aL k i.d)∧(i.op=28->aL k i.d∧cH k k.proc i.m) ∧
 (i.op=29->aL k i.d∧(i.a = -1∨aL k i.a)∧cH k k.proc i.m)∧(i.op=30->aL k i.a∧(i.b = -1∨aL k i.b))∧(i.op=31->aL k i.a∧aL k i.b)∧(i.op=32->aL k i.d∧aL k i.a∧aL k i.b)∧(i.op=33->aL k i.d∧aL k i.a∧aL k i.b) ∧
 (i.op=34->aL k i.d)∧(i.op=35->aL k i.d)∧(i.op=36->aL k i.d)
end Go.Ago
namespace Go.Ago
open Go.Proofs List Nat Tryz
attribute [local irreducible] bN bM aZ bK b_ wr bp bL comp DC DP DW DV
attribute [local irreducible] dJ ct aL cH dP dI
def ec (i:Ins):Prop:=(1≤i.op∧i.op≤38)∧(hasB i.op 68=false->i.d = -1)∧(hasB i.op 65=false->i.a = -1)∧(hasB i.op 66=false->i.b = -1)∧(hasB i.op 76=false->i.l.l=[])
def dX (k:Kc)(i:Ins):Prop:=(∀r∈i.l.l,aL k r)∧(i.op=2->aL k i.d)∧(i.op=3->aL k i.d∧aL k i.a)∧(i.op=38->aL k i.d∧aL k i.a)∧(i.op=4->aL k i.d)∧(i.op=5->aL k i.a)∧(i.op=6->aL k i.d∧aL k i.a)∧(i.op=7->aL k i.d∧aL k i.a∧aL k i.b)∧(i.op=8->aL k i.d∧aL k i.a)∧(i.op=9->aL k i.a∧aL k i.b)∧(i.op=10->aL k i.d∧aL k i.a∧(i.b = -1∨aL k i.b))∧(i.op=11->aL k i.d∧aL k i.a)∧(i.op=12->aL k i.d)∧(i.op=13->aL k i.d∧aL k i.a∧aL k i.b)∧(14≤i.op->i.op<22->dP k i)∧(22≤i.op->i.op≠38->dI k i)
def LI (k:Kc)(l:List Int)(n:Nat):Prop:=∀(j:Nat) (h:j<l.length),j<n->aL k l[j]
theorem LI.nil {k l}:LI k l 0:=fun _ _ h=>aa
theorem LI.step {k l n}(h:LI k l n)(b:n<l.length)(hi:aL k l[n]):LI k l (n+1):=fun j c d=>by
 rcases Nat.lt_or_ge j n with a|a
 . exact h j _ a
 grind
theorem LI.all {k:Kc}{l:List Int}{n:Nat}(h:LI k l n)(c:l.length≤n):∀r∈l,aL k r:=fun r a=>by
 obtain⟨j,b,rfl⟩:=getElem_of_mem a;exact h j _ aa
end Go.Ago
namespace Go.Ago
open Go.Proofs List Nat Tryz
attribute [local irreducible] bN bM aZ bK b_ wr bp bL comp DC DP DW DV
attribute [local irreducible] dJ ct aL cH dP dI ec dX
structure OutOK (c:Cd):Prop where
 ck:dJ c.p=0
 len:c.b.l.length=c.p.procs.l.length
 aj:∀(p:Nat) (h:p<c.b.l.length),0≤c.b.l[p].aj∧c.b.l[p].aj≤4000
def RI (l:List Bd)(n:Nat):Prop:=∀(j:Nat) (h:j<l.length),j<n->0≤l[j].aj∧l[j].aj≤4000
theorem RI.nil {l}:RI l 0:=fun _ _ h=>aa
theorem RI.step {l n}(h:RI l n)(b:n<l.length)(hi:0≤l[n].aj∧l[n].aj≤4000):RI l (n+1):=fun j c d=>by
 rcases Nat.lt_or_ge j n with a|a
 . exact h j _ a
 grind
theorem Wq (p:eC):af 97 [p.av] (ca fun _=>True):=by
 refine zw func97 ?_;have b:=p.lK.h;refine zg ?_
 repeat' ((refine zp ?_ ?_<;>intro h)<;>refine zg ?_)
 all_goals exact⟨_,rfl,trivial⟩
theorem WW (l:BL eC):af 136 [mo l.l,.fn (.func 97) [] []] (eX fun _=>True):=by
 refine zw func136 ?_;have c:=l.h
 conv=>whnf
 refine DW.aO aC aD [0,1,4,7] [] 0 (fun i:Nat=>[(8,i64 i)]) (fun _=>[]) [] (fun i=>l.l.length+1 - i) (0) ?_
 refine zl fun i=>?_
 refine zg ?_
 repeat' ((first|(refine zp ?_ ?_<;>intro h)|(refine DC.pure rfl (Wq _) ?_;rintro _ ⟨d,rfl,b⟩))<;>refine zg ?_)
 all_goals first|exact⟨_,rfl,trivial⟩|exact zi (i+1)
theorem JC (l:BL eC):af 96 [mo l.l,.fn (.func 97) [] []] (ca fun _=>True):=by
 have k1:=WW l;exact zw func96 W
def fu (c:Cd)(h:OutOK c)(p:Nat)(a:p<c.b.l.length):Kc:=⟨c,p,⟨aa,aa⟩,h.len,(AJ c.p h.ck).1⟩
def vz (c:Cd)(h:OutOK c)(p:Nat)(a:p<c.b.l.length)(i:Ins):Prop:=ec i∧dX (fu c h p a) i
structure CI (c:Cd)(h:OutOK c)(p:Nat):Prop where
 lo:∀(q:Nat) (hq:q<c.b.l.length),q<p->∀i∈c.b.l[q].ins.l,vz c h q hq i
def BI (c:Cd)(h:OutOK c)(p:Nat)(a:p<c.b.l.length)(n:Nat):Prop:=∀(j:Nat) (d:j<c.b.l[p].ins.l.length),j<n->vz c h p a c.b.l[p].ins.l[j]
def rh (c:Cd):Prop:=∃h:OutOK c,∀(q:Nat) (a:q<c.b.l.length),∀i∈c.b.l[q].ins.l,vz c h q a i
theorem BI.nil {c h p a}:BI c h p a 0:=fun _ _ h=>aa
theorem BI.step {c h p a n}(e:BI c h p a n)(f:n<c.b.l[p].ins.l.length)(hi:vz c h p a c.b.l[p].ins.l[n]):BI c h p a (n+1):=fun j g i=>by
 rcases Nat.lt_or_ge j n with d|d
 . exact e j _ d
 grind
theorem CI.nil {c h}:CI c h 0:=⟨fun _ _ h=>aa⟩
theorem CI.step {c h p}(k:CI c h p)(g:p<c.b.l.length){n:Nat}(m:BI c h p g n)(o:c.b.l[p].ins.l.length≤n):CI c h (p+1):=⟨fun q s r i d=>by
 rcases Nat.lt_or_ge q p with a|a
 . exact k.lo q _ a i d
 have:q=p:=aa;subst this;obtain⟨j,f,rfl⟩:=getElem_of_mem d;exact m j f aa⟩
theorem T_ {c:Cd}(h:OutOK c)(p:Nat)(a:p<c.b.l.length):0≤fj (fu c h p a)∧fj (fu c h p a)≤4000:=h.aj p _
end Go.Ago
