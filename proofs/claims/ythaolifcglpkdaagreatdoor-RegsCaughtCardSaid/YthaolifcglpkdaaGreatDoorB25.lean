/-
  Part B25: lemmas, each with its own conditions.
-/
import Derived.Test.YthaolifcglpkdaaGreatDoorB24
set_option maxRecDepth 100000
set_option maxHeartbeats 0
set_option linter.all false
namespace Go.Ago
open Go.Proofs List Nat Tryz
attribute [local irreducible] bA bw aV bp bG wr aZ bF comp DC DP DW DV DY
theorem J3 {d:Nat}(c:Ck)(he0:∀cs,cP d cs->af 183 [c.av,.agg cs] (oW True))(b u n o:Int)(p s:BL (List AV))(t:Ty)(hp:∀x∈p.l,cP d x)(hs:∀x∈s.l,rh (cP d) x):af 182 [c.av,.agg [i64 b,i64 u,i64 n,i64 o,.ak 11 p.l,.ak 14 s.l,i64 t.kind,i64 t.p,i64 t.q,.bool t.fz,.str t.eA]] (oW True):=by
 refine zw func182 ?_;have hpl:=p.h;have hsl:=s.h;refine zg ?_
 repeat' ((first|(refine zp ?_ ?_<;>first|exact⟨⟩|intro h)|(refine DC.pure rfl (jU _) ?_;rintro _ rfl)|(refine DC.pure rfl (jT _) ?_;rintro _ rfl)|(refine DC.pure rfl (oc t) ?_;rintro _ rfl)|(refine DC.pure rfl (kz _ _ _) ?_;rintro _ ⟨b1,rfl,hb1⟩)|(refine DC.pure rfl (X2 c b u n o p s t) ?_;rintro _ ⟨m9,x9,rfl⟩)|(refine DC.pure rfl (EU t) ?_;rintro _ ⟨al,rfl,hal⟩)|(refine zh rfl (DG t) ?_;rintro _ ⟨sz,rfl,hsz⟩))<;>refine zg ?_)
 all_goals first|exact .inr ⟨_,rfl,ab⟩|exact .inr ⟨_,rfl,by assumption⟩|skip
 all_goals
  refine DW.aO aC aD [0,3,4,6,7,97,98] [] 0 (fun i:Nat×Int=>[(99,i64 i.1),(8,i64 i.2)]) (fun _=>[]) [] (fun i=>s.l.length+1 - i.1) ((0,wr .i64 (o+sz))) ?_
  refine zl fun i=>?_
  refine zk ?_
  repeat' ((first|(refine zp ?_ ?_<;>first|exact⟨⟩|intro h)|(refine DC.pure rfl (jU _) ?_;rintro _ rfl)|(refine DC.pure rfl (jT _) ?_;rintro _ rfl)|(refine DC.pure rfl (kz _ _ _) ?_;rintro _ ⟨b1,rfl,hb1⟩)|(obtain⟨op1,t2,v1,m2,l2,r2,lo,hi,st,he,hx⟩:=xV hs (n:=(i.1:Int)) aa;refine az.mk _ he ?_;clear he))<;>refine zk ?_)
  all_goals first|exact .inr ⟨_,rfl,ab⟩|exact .inr ⟨_,rfl,by assumption⟩|exact zi ((i.1+1,_))|skip
  refine DW.aO aC aD [0,3,146,147] [] 0 (fun i:Nat=>[(148,i64 i)]) (fun _=>[]) [] (fun i=>p.l.length+1 - i) (0) ?_
  refine zl fun i=>?_
  refine zk ?_
  repeat' ((first|(refine zp ?_ ?_<;>first|exact⟨⟩|intro h)|(refine DC.pure rfl (he0 _ hx) ?_;rintro _ (⟨rfl,-⟩|⟨e9,rfl,he9⟩))|(obtain⟨op1,t2,v1,m2,l2,r2,he,hx⟩:=nD hp (n:=(i:Int)) aa;refine az.mk _ he ?_;clear he))<;>refine zk ?_)
  all_goals first|exact .inr ⟨_,rfl,ab⟩|exact .inr ⟨_,rfl,by assumption⟩|exact zi (i+1)|skip
  refine DW.aO aC aD [0,3,157,158] [] 0 (fun i:Nat=>[(159,i64 i)]) (fun _=>[]) [] (fun i=>s.l.length+1 - i) (0) ?_
  refine zl fun i=>?_
  refine zk ?_
  repeat' ((first|(refine zp ?_ ?_<;>first|exact⟨⟩|intro h)|(refine DC.pure rfl (he0 _ hx) ?_;rintro _ (⟨rfl,-⟩|⟨e9,rfl,he9⟩))|(obtain⟨op1,t2,v1,m2,l2,r2,lo,hi,st,he,hx⟩:=xV hs (n:=(i:Int)) aa;refine az.mk _ he ?_;clear he))<;>refine zk ?_)
  all_goals first|exact .inr ⟨_,rfl,ab⟩|exact .inr ⟨_,rfl,by assumption⟩|exact zi (i+1)|skip
  refine DW.aO aC aD [3,169,170] [] 0 (fun i:Nat=>[(171,i64 i)]) (fun _=>[]) [] (fun i=>p.l.length+1 - i) (0) ?_
  refine zl fun i=>?_
  refine zk ?_
  repeat' ((first|(refine zp ?_ ?_<;>first|exact⟨⟩|intro h)|(refine DC.pure rfl (jU _) ?_;rintro _ rfl)|(refine DC.pure rfl (jT _) ?_;rintro _ rfl)|(obtain⟨op1,t2,v1,m2,l2,r2,he,hx⟩:=nD hp (n:=(i:Int)) aa;refine az.mk _ he ?_;clear he))<;>refine zk ?_)
  all_goals first|exact .inr ⟨_,rfl,ab⟩|exact .inr ⟨_,rfl,by assumption⟩|exact zi (i+1)|skip
  refine DW.aO aC aD [182,183] [] 0 (fun i:Nat=>[(184,i64 i)]) (fun _=>[]) [] (fun i=>s.l.length+1 - i) (0) ?_
  refine zl fun i=>?_
  refine zk ?_
  repeat' ((first|(refine zp ?_ ?_<;>first|exact⟨⟩|intro h)|(refine DC.pure rfl (jU _) ?_;rintro _ rfl)|(refine DC.pure rfl (jT _) ?_;rintro _ rfl)|(obtain⟨op1,t2,v1,m2,l2,r2,lo,hi,st,he,hx⟩:=xV hs (n:=(i:Int)) aa;refine az.mk _ he ?_;clear he))<;>refine zk ?_)
  all_goals first|exact .inr ⟨_,rfl,ab⟩|exact .inr ⟨_,rfl,by assumption⟩|exact zi (i+1)|skip
  all_goals exact .inl ⟨rfl,trivial⟩
theorem Bo (c:Ck):∀(d:Nat) (cs:List AV),cP d cs->af 183 [c.av,.agg cs] (oW True)
 | 0,_,h=>h.elim
 | d + 1, cs, hE => by
   have ih:=Bo c d;obtain⟨op,t,v,m,l,r,hcs,hl,hr⟩:=id hE;subst hcs;refine zw func183 ?_;have hll:=l.h;have hrl:=r.h;refine zg ?_
   repeat' ((first|(refine zp ?_ ?_<;>first|exact⟨⟩|intro h)|(refine DC.pure rfl (jU _) ?_;rintro _ rfl)|(refine DC.pure rfl (jT _) ?_;rintro _ rfl)|(refine DC.pure rfl (K8 _ _ hE _) ?_;rintro _ ⟨b1,rfl,-⟩)|(refine DC.pure rfl (Wv c op m t v l r) ?_;rintro _ (⟨rfl,hN⟩|rfl)))<;>refine zg ?_)
   all_goals first|exact .inr ⟨_,rfl,ab⟩|exact .inr ⟨_,rfl,by assumption⟩|skip
   refine DW.aO aC aD [0,3,16,17] [] 0 (fun i:Nat=>[(18,i64 i)]) (fun _=>[]) [] (fun i=>r.l.length+1 - i) (0) ?_
   refine zl fun i=>?_
   refine zk ?_
   repeat' ((first|(refine zp ?_ ?_<;>first|exact⟨⟩|intro h)|(refine DC.pure rfl (J3 c ih b u m1 o p s t1 hp hs) ?_;rintro _ (⟨rfl,-⟩|⟨e9,rfl,he9⟩))|(obtain⟨b,u,m1,o,p,s,t1,he,hp,hs⟩:=qv hr (n:=(i:Int)) aa;refine az.mk _ he ?_;clear he))<;>refine zk ?_)
   all_goals first|exact .inr ⟨_,rfl,ab⟩|exact .inr ⟨_,rfl,by assumption⟩|exact zi (i+1)|skip
   refine DW.aO aC aD [0,3,27,28] [] 0 (fun i:Nat=>[(29,i64 i)]) (fun _=>[]) [] (fun i=>l.l.length+1 - i) (0) ?_
   refine zl fun i=>?_
   refine zk ?_
   repeat' ((first|(refine zp ?_ ?_<;>first|exact⟨⟩|intro h)|(refine DC.pure rfl (jU _) ?_;rintro _ rfl)|(refine DC.pure rfl (jT _) ?_;rintro _ rfl)|(refine DC.pure rfl (ih _ hx) ?_;rintro _ (⟨rfl,-⟩|⟨e9,rfl,he9⟩))|(refine DC.pure rfl (wy t) ?_;rintro _ ⟨b2,rfl,hb2⟩)|(refine DC.pure rfl (zak c op m t v l r hN hl hr) ?_;rintro _ ⟨b3,rfl,-⟩)|(obtain⟨op1,t2,v1,m2,l2,r2,he,hx⟩:=nD hl (n:=(i:Int)) aa;refine az.mk _ he ?_;clear he))<;>refine zk ?_)
   all_goals first|exact .inr ⟨_,rfl,ab⟩|exact .inr ⟨_,rfl,by assumption⟩|exact zi (i+1)|skip
   all_goals exact .inl ⟨rfl,trivial⟩
end Go.Ago
