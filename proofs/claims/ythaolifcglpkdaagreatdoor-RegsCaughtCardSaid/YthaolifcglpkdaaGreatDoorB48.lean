/-
  Part B48: lemmas, each with its own conditions.
-/
import Derived.Test.YthaolifcglpkdaaGreatDoorB47
set_option maxRecDepth 100000
set_option maxHeartbeats 0
set_option linter.all false
section
namespace Go.Ago
open List Nat
theorem DP.ex {P:Program}{E:Env}{f:FuncId}{args:List AV}{Q:AE->Prop}(h:DP P E f args Q):∃ae,Q ae:=by
 obtain⟨ae,_,h⟩:=h;exact⟨ae,h⟩
end Go.Ago
namespace Go.Ago
open Go.Proofs List Nat
attribute [local irreducible] bA bw aV bp bG wr aZ bF comp DC DP DW DV
attribute [local irreducible] cR ee bP aQ bM
attribute [local irreducible] du ct aL cE dE dm dR dL bU dw dG bK bn bB eh eo
theorem fp.sh {c d:Cd}{of:List (List Int)}(h:fp c d of)(hs:EN c d of):∀q,pB c d of q:=fun q hqc hq ho=>by
 obtain⟨_,g,X,rfl,hg,hX⟩:=(h.holds hqc hq ho).ex;have hgi:g.ins.l=d.b.l[q].ins.l:=by obtain⟨_,g2,_⟩:=hg;simp only[g2,zbt]
 obtain⟨I,hI⟩:=hs q hqc hq ho;obtain⟨hk,hr⟩:=hI g hgi hg.fw;have hh:=gk.has hk hX;refine⟨g,X,hg,hX,fun p hp n hn ma m l r hl hr'=>?_⟩
 have hp':p<g.ins.l.length:=by rw[hgi];exact hp
 have:=hr p n hp' hn ma;have e:g.ins.l[p]=d.b.l[q].ins.l[p]:=by simp only[hgi]
 rw[e] at this;exact hh p l r (this.2 m l r hl hr')
theorem pK (c d:Cd)(k:Int)(of:List (List Int))(hpr:fp c d of)(hcs:bK c.b.l≤100000)(hk:4≤k∧k≤16)(hck:bU c=0)(hckd:bU d=0)(h:vD c k d of):af 15 [c.av,i64 k,d.av,.agg [.ak 1 (of.map cx)]] (fun ae=>ae = .ret (i64 0)):=by
 refine(FI c d k of hpr hcs hk hck hckd h.hf).mono ?_
 rintro _ ⟨e,rfl,he⟩
 rw[he.2 (hpr.sh h.sh)]
structure mG (c:Cd)(k:Int)(d:Cd)(of:List (List Int)):Prop where
 ck:vD c k d of
 ok:bU d=0
 sum:bK d.b.l≤4 * bK c.b.l
 ah:∀b∈d.b.l,b.ah≤60+16
 za8:∀m:Int,(∀b∈c.b.l,b.ah≤m)->∀b∈d.b.l,b.ah≤k+m
theorem Oe (c:Cd)(k:Int)(hsm:dS c 500 60)(hk:4≤k∧k≤16)(hck:bU c=0):af 11 [c.av,i64 k] (fun ae=>∃(d:Cd) (of:List (List Int)),ae = .ret (.ao [d.av,.agg [.ak 1 (of.map cx)],i64 0])∧mG c k d of):=by
 have hs:bK c.b.l≤500:=hsm.sum;have hx:cJ c:=(uh c fun m=>zbu sH aa).1 hck
 refine(Of c k hsm hk hck).told ?_
 rintro _ ⟨d,of,v,rfl,ht,T,h⟩
 have hr:∀b∈c.b.l,b.ah≤100:=fun b hb=>by have:=hsm.ah b hb;omega
 have hrr:∀m:Int,(∀b∈c.b.l,b.ah≤m)->∀b∈d.b.l,b.ah≤k+m:=fun m hm b hb=>by
  obtain⟨j,hj,rfl⟩:=zbo.1 hb;have hjc:j<c.b.l.length:=by rw[<-h.len];exact hj
  have:=(h.ah hx hjc hj aa).2;have:=hm _ (za9 hjc);omega
 refine⟨_,.ao [d.av,.agg [.ak 1 (of.map cx)],i64 0],rfl,Told.ao ⟨.r,Told.agg ⟨ht,trivial⟩,.r,trivial⟩,d,of,rfl,⟨h.Qr hx hk hr hs,h.ck hx hk hr hs,h.sum hx,fun b hb=>?_,hrr⟩⟩
 have:=hrr 60 (fun b hb=>hsm.ah b hb) b hb
 omega
theorem dS.pr {c d:Cd}{k:Int}{of:List (List Int)}{ins most:Nat}(hsm:dS c ins most)(hm:most≤1000)(h:vD c k d of)(hs:bK d.b.l≤2000):fp c d of:=
 ⟨h.hc,h.hd,h.co,hs,fun b hb=>by have:=hsm.ah b hb;omega,hsm.fH,by have:=hsm.nb;omega⟩
end Go.Ago
end
