/-
  Part A05: lemmas, each with its own conditions.
-/
import Derived.ChangeKeysEq
import Derived.Laws.StructEq
import Derived.Test.YthaolifcglpkdaaGreatDoorA04
set_option maxRecDepth 100000
set_option maxHeartbeats 0
set_option linter.all false
section
namespace Go.Ago
open List Nat
section
variable {P:Program} {E:Env} {G:eZ} {c:Ctx} {w:World} {H:ai} {nm:Nat}
def ks (c:Ctx)(w:World):Option AV->Option Value->Prop
 | none,none=>True
 | some x,some v=>Rel c w x v
 | _,_=>False
theorem run_sliceBound {k:IntKind}{n:Int}{y:Nat}{code:BoundsCode}(h0:0≤n)(b:n≤y)(w:World):(Instr.sliceBound (.int k n) y code).run P w = .ok n.toNat w:=by
 simp[Instr.sliceBound,asIntOf,h0,b]
theorem wg {d a:Int}{x:Option AV}{v:Option Value}(b:ks c w x v)(h:du d x=some a):(v=none∧a=d)∨∃k,v=some (.int k a):=by
 cases x with
 | none => cases v with
   | none=>simp[du] at h;grind
   | some v=>exact b.elim
 | some x => cases v with
   | none=>exact b.elim
   | some v =>
     cases b with
     | int k n=>simp[du] at h;simp_all
     | _=>simp[du] at h
theorem qI {isSlice:Bool}{len cap:Nat}{lo hi:Option AV}{f g:Option Value}{a b:Int}(h:ks c w lo f)(j:ks c w hi g)(i:du 0 lo=some a)(l:du len hi=some b)
 (h0:0≤a)(m:a≤b)(p:b≤len)(o:len≤cap)(w':World):(Instr.sliceBounds isSlice len cap f g none).run P w' = .ok (a.toNat,b.toNat,cap) w':=by
 rcases wg h i with⟨rfl,rfl⟩|⟨k,rfl⟩<;>rcases wg j l with⟨rfl,rfl⟩|⟨q,rfl⟩
 . rfl
 . simp[Instr.sliceBounds,run_sliceBound (y:=cap) aa aa]
 . simp[Instr.sliceBounds,run_sliceBound h0 aa]
 . have : a ≤ b.toNat := aa
   simp[Instr.sliceBounds,run_sliceBound (n:=b) (y:=cap) aa aa,run_sliceBound h0 this]
theorem Db {len cap:Nat}{lo hi:Option AV}{i h:Option Value}{a b m:Int}{km:IntKind}(o:ks c w lo i)(l:ks c w hi h)(s:du 0 lo=some a)(j:du len hi=some b)
 (h0:0≤a)(u:a≤b)(t:b≤m)(p:m≤cap)(q:h≠none)(w':World):(Instr.sliceBounds true len cap i h (some (.int km m))).run P w' = .ok (a.toNat,b.toNat,m.toNat) w':=by
 have e:=run_sliceBound (P:=P) (k:=km) (code := .slice3Acap) aa p w';rcases wg l j with⟨rfl,rfl⟩|⟨r,rfl⟩
 . grind
 have f:=run_sliceBound (P:=P) (k:=r) (n:=b) (y:=m.toNat) (code := .slice3B) aa aa w';rcases wg o s with⟨rfl,rfl⟩|⟨k,rfl⟩
 . simp[Instr.sliceBounds,e,f]
 . have g := run_sliceBound (P := P) (k := k) (y := b.toNat) (code := .slice3C) h0 aa w'
   simp[Instr.sliceBounds,e,f,g]
theorem Rk (l:List UInt8)(a b:Nat):(⟨l.toArray⟩:ByteArray).extract a b=⟨((l.drop a).take (b - a)).toArray⟩:=by
 apply ByteArray.ext
 simp
theorem mB {a b n:Int}(h:jy a b n=true):0≤a∧a≤b∧b≤n:=by
 simp[jy] at h;omega
theorem sW {es:List (List AV)}(a n:Nat):∀(i:Nat) e,((es.drop a).take n)[i]? = some e->es[a+i]? = some e∧i<n:=by
 grind
theorem KX {k i sz cap:Nat}{B:fp}{a:Addr}(g:c.f k=some B)(j:B.sz=sz)(d:0<cap->a=⟨B.b,B.s+i * sz,none⟩∧(i+cap) * sz≤B.n)(o:cap≤9223372036854775807){l h m:Nat}(u:l≤h)(r:h≤m)(t:m≤cap)(w:World) :
 Rel c w (.az k (i+l) (h - l) sz) (.slice (if m=l then some a else (some a).map (·.add (l * sz))) (h - l) (m - l)):=by
 by_cases e:m=l
 . subst e
   rw[if_pos rfl];have:h - m=0:=aa;rw[this,Nat.sub_self];exact Rel.az g j (Nat.le_refl _) (fun h=>absurd h aa) aa
 . rw [if_neg e]
   obtain⟨rfl,q⟩:=d aa;refine Rel.az g j aa (fun _=>⟨?_,?_⟩) aa
   . show (⟨B.b, B.s + i * sz, none⟩ : Addr).add (l * sz) = _
     rw[add_plain,Nat.add_mul,Nat.add_assoc]
   . have : (i + l + (m - l)) * sz ≤ (i + cap) * sz := mul_le_mul_right _ aa
     omega
theorem Kh {es:List (List AV)}{sz cap:Nat}{a:Addr}(vs:Nat->Nat->Value)(hi:0<es.length->c.au a.block)(n:∀(i:Nat) e,es[i]? = some e->e.length=sz)
 (t:∀(i j:Nat),i<es.length->j<sz->w.cell? (a.add (i * sz+j))=some (vs i j))(o:∀(i j:Nat) e x,es[i]? = some e->e[j]? = some x->Rel c.bare w x (vs i j))
 {l h m:Nat}(u:l≤h)(r:h≤es.length)(s:h≤m)(p:m≤cap) :
 Rel c w (.ak sz ((es.drop l).take (h - l))) (.slice (if m=l then some a else (some a).map (·.add (l * sz))) (h - l) (m - l)):=by
 have g:((es.drop l).take (h - l)).length=h - l:=by simp;omega
 have b:∀(i:Nat) e,((es.drop l).take (h - l))[i]? = some e->e.length=sz:=fun i e d=>n _ e (sW l (h - l) i e d).1
 by_cases e:m=l
 . rw [if_pos e]
   have q:(es.drop l).take (h - l)=[]:=eq_nil_of_length_eq_zero aa;have f:h - l=0:=aa;rw[q,f];exact Rel.ak (es:=[]) (fun _ _=>undef) ag ag ag ag ag
 . rw [if_neg e]
   have := Rel.ak (c := c) (w := w) (es := (es.drop l).take (h - l)) (sz := sz) (cap := m - l) (a := a.add (l * sz)) (fun i j => vs (l + i) j) aa (fun h => by rw [block_add]; grind) b (fun i j v y=>by
    rw[vG,<-Nat.add_assoc,<-Nat.add_mul]
    grind) (fun i j e x d k=>o (l+i) j e x (sW l (h - l) i e d).1 k)
   grind
theorem Yy (hE:bW P E)(L:aN G c w H){t:TypeId}{y:AV}{u:Value}(hy:Rel c w y u){lo hi mx:Option AV}{lv V J:Option Value}(r:ks c w lo lv)(v:ks c w hi V)(n:ks c w mx J)
 {x:bk ⊕ AV}(h:(nP E t y lo hi mx).run H=some x):aW G c w H nm x ((Instr.sliceAt t u lv V J).run P w):=by
 obtain⟨ti,hti,h⟩:=cL h;obtain⟨d,O,hd',Q⟩:=jV (hE.ti t ti hti);cases I:ti.desc with
 | string =>
   rw[I] at h Q;obtain rfl:d = .string:=Q;cases hy with
   | str l =>
     dsimp only at h;cases mx with
     | some _=>exact(aE h).elim
     | none =>
       cases J with
       | some _=>exact n.elim
       | none =>
         cases j:du 0 lo with
         | none=>rw[j] at h;exact(aE h).elim
         | some a =>
           cases p:du l.length hi with
           | none=>rw[j,p] at h;exact(aE h).elim
           | some b =>
             rw[j,p] at h;obtain⟨q,h⟩:=cy h;obtain rfl:=bw h;obtain⟨F,D,A⟩:=mB q;have s:(⟨l.toArray⟩:ByteArray).size=l.length:=by simp[ByteArray.size]
             have g:=qI (P:=P) (isSlice:=false) (len:=l.length) (cap:=l.length) r v j p F D A (Nat.le_refl _) w;simp only[Instr.sliceAt,Sem.run_bind,O,Result.andThen_ok,Instr.slice,Option.isSome_none,Bool.false_eq_true,if_false,s,g,Sem.run_pure,Rk];exact aW.quiet L (.str _)
   | _=>exact(aE h).elim
 | slice e =>
   rw[I] at h Q;obtain rfl:d = .slice e:=Q;have hunf:∀u',(Instr.sliceAt t u' lv V J).run P w=(Instr.slice t u' lv V J).run P w:=fun u'=>by simp[Instr.sliceAt,O]
   rw[hunf];have C:∀z,E.ti e=some z->(sizeOf e).run P w = .ok z.size w:=fun z o=>kj (hE.ti e z o) w
   cases hy with
   | ah =>
     obtain⟨z,o,h⟩:=cL h;cases mx with
     | some _=>exact(aE h).elim
     | none =>
       cases J with
       | some _=>exact n.elim
       | none =>
         cases j:du 0 lo with
         | none=>rw[j] at h;exact(aE h).elim
         | some a =>
           cases p:du 0 hi with
           | none=>rw[j,p] at h;exact(aE h).elim
           | some b =>
             rw[j,p] at h;obtain⟨q,h⟩:=cy h;obtain rfl:=bw h;obtain⟨F,D,A⟩:=mB q;obtain rfl:a=0:=aa;obtain rfl:b=0:=aa;have g:=qI (P:=P) (isSlice:=true) (len:=0) (cap:=0) r v j p F D A (Nat.le_refl _) w;simp only[Instr.slice,Sem.run_bind,O,Result.andThen_ok,g,C z o,Sem.run_pure];simp only[Int.toNat_zero,Nat.sub_self,if_true];exact aW.quiet L .ah
   | iB =>
     obtain⟨z,o,h⟩:=cL h;cases mx with
     | some _=>exact(aE h).elim
     | none =>
       cases J with
       | some _=>exact n.elim
       | none =>
         cases j:du 0 lo with
         | none=>rw[j] at h;exact(aE h).elim
         | some a =>
           cases p:du 0 hi with
           | none=>rw[j,p] at h;exact(aE h).elim
           | some b =>
             rw[j,p] at h;obtain⟨q,h⟩:=cy h;obtain rfl:=bw h;obtain⟨F,D,A⟩:=mB q;obtain rfl:a=0:=aa;obtain rfl:b=0:=aa;have g:=qI (P:=P) (isSlice:=true) (len:=0) (cap:=0) r v j p F D A (Nat.le_refl _) w;simp only[Instr.slice,Sem.run_bind,O,Result.andThen_ok,g,C z o,Sem.run_pure];simp only[Int.toNat_zero,Nat.sub_self,if_true];exact aW.quiet L .iB
   | fk W =>
     obtain⟨z,o,h⟩:=cL h;obtain⟨s,h⟩:=cy h;cases j:du 0 lo with
     | none=>rw[j] at h;exact(aE h).elim
     | some a =>
       cases p:du ([]:List (List AV)).length hi with
       | none=>rw[j,p] at h;exact(aE h).elim
       | some b =>
         rw[j,p] at h;dsimp only at h;cases mx with
         | none =>
           cases J with
           | some _=>exact n.elim
           | none =>
             obtain⟨q,h⟩:=cy h;obtain rfl:=bw h;obtain⟨F,D,A⟩:=mB q;simp only[length_nil] at p A;obtain rfl:a=0:=aa;obtain rfl:b=0:=aa;have g:=qI (P:=P) (isSlice:=true) (len:=0) (cap:=0) r v j p F D A (Nat.le_refl _) w;simp only[Instr.slice,Sem.run_bind,O,Result.andThen_ok,g,C z o,Sem.run_pure];simp only[Int.toNat_zero,Nat.sub_self,if_true];exact aW.quiet L (.fk W)
         | some Y =>
           cases J with
           | none=>exact n.elim
           | some Z =>
             cases hi with
             | none=>cases n<;>exact(aE h).elim
             | some hi'' =>
               cases n with
               | int km m =>
                 obtain⟨q,h⟩:=cy h;simp only[Bool.and_eq_true,decide_eq_true_eq] at q;obtain⟨F,D,A⟩:=mB q.1;simp only[length_nil] at p q;obtain rfl:a=0:=aa;obtain rfl:b=0:=aa;obtain rfl:m=0:=aa;have g:=Db (P:=P) (len:=0) (cap:=0) (km:=km) r v j p F D A aa (by cases V<;>simp_all[ks]) w
                 simp only[Instr.slice,Sem.run_bind,O,Result.andThen_ok,g,C z o,Sem.run_pure];rcases sP h with⟨M,h⟩|⟨M,h⟩
                 . obtain rfl := bw h
                   simp only[Int.toNat_zero,Nat.sub_self,if_true];exact aW.quiet L .iB
                 grind
               | _=>exact(aE h).elim
   | cW ad =>
     obtain⟨z,o,h⟩:=cL h;cases mx with
     | some _=>exact(aE h).elim
     | none =>
       cases J with
       | some _=>exact n.elim
       | none =>
         cases j:du 0 lo with
         | none=>rw[j] at h;exact(aE h).elim
         | some a =>
           cases p:du 0 hi with
           | none=>rw[j,p] at h;exact(aE h).elim
           | some b =>
             rw[j,p] at h;obtain⟨q,h⟩:=cy h;obtain rfl:=bw h;obtain⟨F,D,A⟩:=mB q;obtain rfl:a=0:=aa;obtain rfl:b=0:=aa;have g:=qI (P:=P) (isSlice:=true) (len:=0) (cap:=0) r v j p F D A (Nat.le_refl _) w;simp only[Instr.slice,Sem.run_bind,O,Result.andThen_ok,g,C z o,Sem.run_pure];simp only[Int.toNat_zero,Nat.sub_self,if_true];exact aW.quiet L (.cW ad)
   | @az _ _ k i T W K B ad hf hs N S R =>
     obtain⟨z,o,h⟩:=cL h;obtain⟨s,h⟩:=cy h;have s:W=z.size:=by simpa using s
     subst s;cases j:du 0 lo with
     | none=>rw[j] at h;exact(aE h).elim
     | some a =>
       cases p:du T hi with
       | none=>rw[j,p] at h;exact(aE h).elim
       | some b =>
         rw[j,p] at h;dsimp only at h;cases mx with
         | none =>
           cases J with
           | some _=>exact n.elim
           | none =>
             obtain⟨q,h⟩:=cy h;obtain rfl:=bw h;obtain⟨F,D,A⟩:=mB q;have g:=qI (P:=P) (isSlice:=true) (len:=T) (cap:=K) r v j p F D A N w;simp only[Instr.slice,Sem.run_bind,O,Result.andThen_ok,g,C z o,Sem.run_pure];exact aW.quiet L (KX hf hs S R aa aa (Nat.le_refl _) w)
         | some Y =>
           cases J with
           | none=>exact n.elim
           | some Z =>
             cases hi with
             | none=>cases n<;>exact(aE h).elim
             | some U =>
               cases n with
               | int km m =>
                 obtain⟨q,h⟩:=cy h;simp only[Bool.and_eq_true,decide_eq_true_eq] at q;obtain⟨F,D,A⟩:=mB q.1;have g:=Db (P:=P) (len:=T) (cap:=K) (km:=km) r v j p F D A aa (by cases V<;>simp_all[ks]) w
                 simp only[Instr.slice,Sem.run_bind,O,Result.andThen_ok,g,C z o,Sem.run_pure];rcases sP h with⟨M,h⟩|⟨M,h⟩
                 . obtain rfl := bw h
                   have M:a=m:=by simpa using M
                   subst M;obtain rfl:b=a:=aa;simp only[Nat.sub_self,if_true];exact aW.quiet L (.cW ad)
                 . obtain rfl := bw h
                   exact aW.quiet L (KX hf hs S R aa aa aa w)
               | _=>exact(aE h).elim
   | @ak _ _ W es K ad vs N U hl hc hr =>
     obtain⟨z,o,h⟩:=cL h;obtain⟨s,h⟩:=cy h;have s:W=z.size:=by simpa using s
     subst s;cases j:du 0 lo with
     | none=>rw[j] at h;exact(aE h).elim
     | some a =>
       cases p:du es.length hi with
       | none=>rw[j,p] at h;exact(aE h).elim
       | some b =>
         rw[j,p] at h;dsimp only at h;cases mx with
         | none =>
           cases J with
           | some _=>exact n.elim
           | none =>
             obtain⟨q,h⟩:=cy h;obtain rfl:=bw h;obtain⟨F,D,A⟩:=mB q;have g:=qI (P:=P) (isSlice:=true) (len:=es.length) (cap:=K) r v j p F D A N w;simp only[Instr.slice,Sem.run_bind,O,Result.andThen_ok,g,C z o,Sem.run_pure];exact aW.quiet L (Kh vs U hl hc hr aa aa aa (Nat.le_refl _))
         | some Y =>
           cases J with
           | none=>exact n.elim
           | some Z =>
             cases hi with
             | none=>cases n<;>exact(aE h).elim
             | some hi'' =>
               cases n with
               | int km m =>
                 obtain⟨q,h⟩:=cy h;simp only[Bool.and_eq_true,decide_eq_true_eq] at q;obtain⟨F,D,A⟩:=mB q.1;have g:=Db (P:=P) (len:=es.length) (cap:=K) (km:=km) r v j p F D A aa (by cases V<;>simp_all[ks]) w
                 simp only[Instr.slice,Sem.run_bind,O,Result.andThen_ok,g,C z o,Sem.run_pure];rcases sP h with⟨M,h⟩|⟨M,h⟩
                 . obtain rfl := bw h
                   have M:a=m:=by simpa using M
                   subst M;obtain rfl:b=a:=aa;simp only[Nat.sub_self,if_true];exact aW.quiet L (.cW ad)
                 . obtain rfl := bw h
                   exact aW.quiet L (Kh (cap:=K) vs U hl hc hr aa aa aa aa)
               | _=>exact(aE h).elim
   | _=>exact(aE h).elim
 | _=>rw[I] at h;exact(aE h).elim
end
end Go.Ago
end
section
namespace Go.Ago
open List Nat
section
variable {P:Program} {E:Env} {G:eZ} {c:Ctx} {w:World} {H:ai} {nm:Nat}
def valOf (a:Bool)(vs:List Value):Value:=match a with
 | true => .agg vs.toArray
 | false=>vs.headD undef
theorem Gh (hE:bW P E)(d:Nat):∀(t:TypeId) (M:TI) (xs ys:List AV) (vs us:List Value) (b:Bool),E.ti t=some M->ff E d t xs ys=some b->aQ c w xs vs->aQ c w ys us->
 ∀n,d≤n->(Op.equalIn n t (valOf M.agg vs) (valOf M.agg us)).run P w = .ok b w:=by
 induction d with
 | zero=>intro t M xs ys vs us b _ h;simp[ff] at h
 | succ d ih =>
   intro t M xs ys vs us b hti h hx hy n hn;obtain⟨n,rfl⟩:∃m,n=m+1:=⟨n - 1,aa⟩;simp only[ff,hti] at h;have ht:=hE.ti t M hti;obtain⟨L,dd,z,a1,a2,a3,a4,a5,W,a7,a8,a9,a10,a11⟩:=ht.ok;cases hq:M.kF with
   | false=>grind
   | true =>
     rw[hq] at h;dsimp only at h;cases p:M.desc with
     | int k =>
       rw[p] at h W;obtain rfl:dd = .int k:=W;have I:M.agg=false:=a5
       match xs,ys,h with
       | [.int k1 x], [.int k2 y], h =>
         obtain⟨v,vs',rfl,hv,hvs⟩:=hx.dT;obtain⟨u,us',rfl,hu,hus⟩:=hy.dT;cases hv;cases hu;dsimp only at h;cases hk:decide (k1=k2) with
         | false=>grind
         | true =>
           rw[hk] at h;have hk:k1=k2:=by simpa using hk
           subst hk;simp only[Option.some.injEq] at h;subst h;simp[Op.equalIn,run_underlying a2,I,valOf]
     | bool =>
       rw[p] at h W;obtain rfl:dd = .bool:=W;have I:M.agg=false:=a5
       match xs,ys,h with
       | [.bool x], [.bool y], h =>
         obtain⟨v,vs',rfl,hv,hvs⟩:=hx.dT;obtain⟨u,us',rfl,hu,hus⟩:=hy.dT;cases hv;cases hu;simp only[Option.some.injEq] at h;subst h;simp[Op.equalIn,run_underlying a2,I,valOf]
     | string =>
       rw[p] at h W;obtain rfl:dd = .string:=W;have I:M.agg=false:=a5
       match xs,ys,h with
       | [.str x], [.str y], h =>
         obtain⟨v,vs',rfl,hv,hvs⟩:=hx.dT;obtain⟨u,us',rfl,hu,hus⟩:=hy.dT;cases hv;cases hu;simp only[Option.some.injEq] at h;subst h;simp only[Op.equalIn,Sem.run_bind,run_underlying a2,Result.andThen_ok,I,valOf,headD_cons,Sem.run_pure]
         congr 1
         rw[beq_toListBytes,ByteArray.toList_mk,ByteArray.toList_mk]
     | struct fs =>
       rw[p] at h W;dsimp only at h;obtain⟨A,rfl,X,hfs⟩:=W;have I:M.agg=true:=a5;have dw:=(ht.kF hq).2 fs p;have hfo:P.fieldsOf t=A:=by simp[Program.fieldsOf,a2]
       simp only[I,valOf];rw[run_equalIn_struct w n t vs.toArray us.toArray aY dw,hfo];have hfl:A.toList.length=fs.length:=by simpa using X
       have hfs':∀(i r J:Nat) (t:TypeId),fs[i]? = some (r,J,t)->∃f L,A.toList[i]? = some f∧f.offset=r∧f.type=t∧P.info? t=some L∧L.size=J∧f.name ≠ "_":=
        fun i r J t e=>by
         grind
       clear a2 a5 hfs X hfo p
       generalize A.toList=fl at *
       clear A
       induction fs generalizing fl b with
       | nil =>
         obtain rfl:fl=[]:=eq_nil_of_length_eq_zero aa;simp only[ff.eqF,Option.some.injEq] at h;subst h;rfl
       | cons q fs ihf =>
         obtain⟨r,J,ft⟩:=q;cases fl with
         | nil=>grind
         | cons f fl =>
           obtain⟨f',finfo,b1,b2,b3,b4,b5,b6⟩:=hfs' 0 r J ft rfl;simp at b1;subst b1;simp only[ff.eqF] at h;cases F:(ble (r+J) xs.length && ble (r+J) ys.length) with
           | false=>grind
           | true =>
             rw[F] at h;dsimp only at h;simp only[Bool.and_eq_true] at F;have O:=le_of_ble_eq_true F.1;have Q:=le_of_ble_eq_true F.2;cases C:ff E d ft ((xs.drop r).take J) ((ys.drop r).take J) with
             | none=>grind
             | some r1 =>
               cases h2:ff.eqF (ff E d) fs xs ys with
               | none=>grind
               | some r2 =>
                 rw[C,h2] at h;simp only[Option.some.injEq] at h;subst h;have hft:∃l,E.ti ft=some l:=by
                  cases d with
                  | zero=>simp[ff] at C
                  | succ d =>
                    simp only[ff] at C
                    grind
                 obtain⟨l,htf⟩:=hft;have a:=hE.ti ft l htf;have X:l.size=J:=by
                  obtain⟨i2,_,_,c1,_,c3,_⟩:=a.ok;rw[b4] at c1;cases c1;rw[<-c3,b5]
                 have B:∀{Z:List AV} {N:List Value},aQ c w Z N->r+J≤Z.length->(part ft N.toArray r).run P w = .ok (valOf l.agg ((N.drop r).take J)) w:=by
                  intro Z N hr hl;have hwl:Z.length=N.length:=hr.1;simp only[part,Sem.run_bind,u_ a,Result.andThen_ok];cases D:l.agg with
                  | true =>
                    simp only[if_true,Sem.run_bind,kj a,Result.andThen_ok,Sem.run_pure,valOf,X];simp
                  | false =>
                    have h1z:0<J:=by
                     obtain⟨_,_,z,_,_,_,_,_,_,_,e8,e9,_,e11⟩:=a.ok;have uy:=e11 c w;rw[D] at uy;rcases eq_zero_or_pos J with h0|h0
                     . exfalso
                       have hz0:l.zero=[]:=eq_nil_of_length_eq_zero aa;have he8:=e8 c w;rw[hz0] at he8;have:=he8.fY;cases d with
                       | zero=>simp[ff] at C
                       | succ d =>
                         simp only[ff,htf] at C;subst h0;cases hq2:l.kF<;>rw[hq2] at C<;>dsimp only at C
                         . cases C
                         . cases K : l.desc <;> rw [K] at C <;> simp at C
                           . obtain ⟨_, dd2, _, _, _, _, _, R, U, _⟩ := a.ok
                             rw[K] at U;obtain⟨_,rfl,_⟩:=U;rw[D] at R;cases R
                           . obtain ⟨_, dd2, _, _, _, _, _, R, U, _⟩ := a.ok
                             rw[K] at U;obtain rfl:=U;rw[D] at R;cases R
                     . exact h0
                    have V:r<N.length:=aa;simp only[Bool.false_eq_true,if_false,getElem?_toArray,getElem?_eq_getElem V,Sem.run_pure,valOf]
                    congr 1
                    rw[headD_eq_head?_getD,head?_take,if_neg aa,head?_drop,getElem?_eq_getElem V];rfl
                 have e1:=ih ft l _ _ _ _ r1 htf C ((hx.drop r).take J) ((hy.drop r).take J) n aa;have e2 := ihf r2 h2 fl aY (fun i o s t e=>by
                  obtain⟨g,L,c1,c2⟩:=hfs' (i+1) o s t aY
                  grind)
                 simp only[Op.eqFields,b6,ne_eq,not_false_eq_true,if_true,Sem.run_bind,b3,b2,B hx O,B hy Q,Result.andThen_ok,e1];cases r1 with
                 | true=>grind
                 | false=>simp
     | array len e =>
       rw[p] at h W;dsimp only at h;obtain rfl:dd = .array len e:=W;have I:M.agg=true:=a5;cases Y:E.ti e with
       | none=>grind
       | some l =>
         rw[Y] at h;dsimp only at h;have a:=hE.ti e l Y;obtain⟨i2,_,_,c1,_,_,_⟩:=a.ok;have hcell:P.cellsOf e=l.size:=by
          have k1:=run_sizeOf (P:=P) w c1;rw[kj a] at k1
          injection k1 with k1
          exact k1.symm
         simp only[I,valOf];rw[run_equalIn_array (w:=w) n vs.toArray us.toArray a2 c1,hcell];clear a2 a5 p
         generalize List.range len=is at h
         induction is generalizing b with
         | nil =>
           simp only[map_nil,ff.eqF,Option.some.injEq] at h;subst h;rfl
         | cons j is ihf =>
           simp only[map_cons,ff.eqF] at h;cases F:(ble (j * l.size+l.size) xs.length && ble (j * l.size+l.size) ys.length) with
           | false=>grind
           | true =>
             rw[F] at h;dsimp only at h;simp only[Bool.and_eq_true] at F;have O:=le_of_ble_eq_true F.1;have Q:=le_of_ble_eq_true F.2;cases C:ff E d e ((xs.drop (j * l.size)).take l.size) ((ys.drop (j * l.size)).take l.size) with
             | none=>grind
             | some r1 =>
               cases h2:ff.eqF (ff E d) (is.map fun i=>(i * l.size,l.size,e)) xs ys with
               | none=>grind
               | some r2 =>
                 rw[C,h2] at h;simp only[Option.some.injEq] at h;subst h;have B:∀{Z:List AV} {N:List Value},aQ c w Z N->j * l.size+l.size≤Z.length->(part e N.toArray (j * l.size)).run P w = .ok (valOf l.agg ((N.drop (j * l.size)).take l.size)) w:=by
                  intro Z N hr hl;have hwl:Z.length=N.length:=hr.1;simp only[part,Sem.run_bind,u_ a,Result.andThen_ok];cases D:l.agg with
                  | true =>
                    simp only[if_true,Sem.run_bind,kj a,Result.andThen_ok,Sem.run_pure,valOf];simp
                  | false =>
                    have h1z:0<l.size:=by
                     obtain⟨_,_,z,_,_,_,_,_,_,_,e8,e9,_,e11⟩:=a.ok;rcases eq_zero_or_pos l.size with h0|h0
                     . exfalso
                       cases d with
                       | zero=>simp[ff] at C
                       | succ d =>
                         simp only[ff,Y] at C;rw[h0] at C;cases hq2:l.kF<;>rw[hq2] at C<;>dsimp only at C
                         . cases C
                         . cases K : l.desc <;> rw [K] at C <;> simp at C
                           . obtain ⟨_, dd2, _, _, _, _, _, R, U, _⟩ := a.ok
                             rw[K] at U;obtain⟨_,rfl,_⟩:=U;rw[D] at R;cases R
                           . obtain ⟨_, dd2, _, _, _, _, _, R, U, _⟩ := a.ok
                             rw[K] at U;obtain rfl:=U;rw[D] at R;cases R
                     . exact h0
                    have V:j * l.size<N.length:=aa;simp only[Bool.false_eq_true,if_false,getElem?_toArray,getElem?_eq_getElem V,Sem.run_pure,valOf]
                    congr 1
                    rw[headD_eq_head?_getD,head?_take,if_neg aa,head?_drop,getElem?_eq_getElem V];rfl
                 have e1:=ih e l _ _ _ _ r1 Y C ((hx.drop (j * l.size)).take l.size) ((hy.drop (j * l.size)).take l.size) n aa;have e2:=ihf r2 h2;simp only[Op.eqItems,Sem.run_bind,B hx O,B hy Q,Result.andThen_ok,e1];cases r1 with
                 | true=>grind
                 | false=>simp
     | _=>grind
theorem EC {t:TypeId}(f:bW P E){xs ys:List AV}{b:Bool}(h:ff E 10 t xs ys=some b):P.eqGuardType P.depth t=false:=by
 simp only[ff] at h;cases e:E.ti t with
 | none=>simp_all
 | some a =>
   rw[e] at h;dsimp only at h;cases d:a.kF with
   | false=>simp_all
   | true=>exact((f.ti t a e).kF d).1
theorem pX {t:TypeId}{v u:Value}{b:Bool}(h:∀d,(Op.equalIn (d+1) t v u).run P w = .ok b w):(Op.equal t v u).run P w = .ok b w:=h _
theorem na (d:aN G c w H){neq:Bool}{t:TypeId}{e a:Operand}{v u:Value}{b:Bool}(j:∀f,(eqGuard f t e a v u).run P w = .ok () w)
 (i:binOp .eql t v u=(do pure (.bool (<-Op.equal t v u)):Sem Value))(g:binOp .neq t v u=(do pure (.bool (!(<-Op.equal t v u))):Sem Value))(h:(Op.equal t v u).run P w = .ok b w) :
 aW G c w H nm (.inl ⟨.bool (eV neq b),[]⟩) ((do eqGuard (if neq then .neq else .eql) t e a v u;binOp (if neq then .neq else .eql) t v u:Sem Value).run P w):=by
 cases neq
 . simp_all
   exact aW.quiet d (.bool _)
 simp_all
 exact aW.quiet d (.bool _)
theorem Re {e:BinOp}{t:TypeId}{b a:Operand}(d:(iE b || iE a)=true):(eqGuard e t b a .nilIface .nilIface).run P w = .ok () w:=by
 unfold eqGuard;cases b<;>cases a<;>first|(simp[iE] at d;done)|(split<;>simp)
theorem HM {x:AV}{v:Value}(h:Rel c w x v)(b:Bool)(e:isNil x=some b):(b=true∧v = .slice none 0 0)∨(b=false∧∃a len cap,v = .slice (some a) len cap):=by
 cases h with
 | ah=>simp only[isNil,Option.some.injEq] at e;grind
 | az _ _ _ _=>simp only[isNil,Option.some.injEq] at e;grind
 | @ak _ _ l g cap a n _ _ _ _ _ =>
   cases g with
   | nil=>simp[isNil] at e
   | cons y m=>simp only[isNil,Option.some.injEq] at e;grind
 | _=>simp[isNil] at e
set_option maxHeartbeats 2000000 in
theorem Gl (hE:bW P E)(hw:aN G c w H){neq:Bool}{t:TypeId}{ox oy:Operand}{x y:AV}{v u:Value}(hx:Rel c w x v)(hy:Rel c w y u){r:bk ⊕ AV}
 (h:(vb E neq t (iE ox || iE oy) x y).run H=some r) :
 aW G c w H nm r ((do eqGuard (if neq then .neq else .eql) t ox oy v u;binOp (if neq then .neq else .eql) t v u:Sem Value).run P w):=by
 obtain⟨ti,hti,h⟩:=cL h;have ht:=hE.ti t ti hti;obtain⟨info,d,z,a1,a2,a3,a4,a5,i,a7,a8,a9,a10,a11⟩:=ht.ok;cases f:ti.desc with
 | bool =>
   rw[f] at h i;obtain rfl:d = .bool:=i;cases hx with
   | bool a =>
     cases hy with
     | bool b =>
       obtain rfl:=bw h;exact na hw (fun op=>by unfold eqGuard;simp) rfl rfl (pX fun d=>by simp[Op.equalIn,run_underlying a2])
     | _=>exact(aE h).elim
   | _=>exact(aE h).elim
 | ptr =>
   rw[f] at h i;obtain⟨e,rfl⟩:=i;cases hx<;>cases hy<;>(try exact(aE h).elim)<;>
    (obtain rfl := bw h
     exact na hw (fun op=>by unfold eqGuard;simp) rfl rfl (pX fun d=>by simp[Op.equalIn,run_underlying a2]))
 | slice e =>
   rw[f] at h i;obtain rfl:d = .slice e:=i;have hnx:=HM hx;have hny:=HM hy;dsimp only at h;cases ex:isNil x with
   | none=>rw[ex] at h;cases ey:isNil y<;>rw[ey] at h<;>(try cases ‹Bool›)<;>exact(aE h).elim
   | some p =>
     cases ey:isNil y with
     | none=>rw[ex,ey] at h;cases p<;>exact(aE h).elim
     | some q =>
       rw[ex,ey] at h;have h1:=hnx p ex;have h2:=hny q ey;cases p<;>cases q<;>(try exact(aE h).elim)<;>simp only[Bool.false_eq_true,Bool.true_eq_false,false_and,true_and,or_false,false_or,reduceCtorEq] at h1 h2<;>
        (obtain rfl := bw h
         first
          | (obtain⟨a1',l1,c1,rfl⟩:=h1;subst h2)
          | (obtain⟨a1',l1,c1,rfl⟩:=h2;subst h1)
         exact na hw (fun op=>by unfold eqGuard;simp) rfl rfl (pX fun d=>by simp[Op.equalIn,run_underlying a2]))
 | func =>
   rw[f] at h i;obtain⟨p,q,s,rfl⟩:=i;cases hx<;>cases hy<;>(try exact(aE h).elim)<;>
    (obtain rfl := bw h
     exact na hw (fun op=>by unfold eqGuard;simp) rfl rfl (pX fun d=>by simp[Op.equalIn,run_underlying a2]))
 | iface =>
   rw[f] at h i;obtain⟨ms,rfl⟩:=i;cases hx with
   | eH =>
     cases hy with
     | eH =>
       cases hc:(iE ox || iE oy) with
       | false=>rw[hc] at h;exact(aE h).elim
       | true =>
         rw[hc] at h;obtain rfl:=bw h;exact na hw (fun op=>Re hc) rfl rfl (pX fun d=>by simp[Op.equalIn,run_underlying a2])
     | cG t' hv =>
       obtain rfl:=bw h;exact na hw (fun op=>by unfold eqGuard;simp) rfl rfl (pX fun d=>by simp[Op.equalIn,run_underlying a2])
     | _=>exact(aE h).elim
   | cG t' hv =>
     cases hy with
     | eH =>
       obtain rfl:=bw h;exact na hw (fun op=>by unfold eqGuard;simp) rfl rfl (pX fun d=>by simp[Op.equalIn,run_underlying a2])
     | _=>exact(aE h).elim
   | _=>exact(aE h).elim
 | struct fs =>
   rw[f] at h i;obtain⟨fields,rfl,_⟩:=i;have hag:ti.agg=true:=a5;cases hx with
   | @agg _ _ xs vs hl hr =>
     cases hy with
     | @agg _ _ ys us hl' hr' =>
       dsimp only at h;cases he:ff E 10 t xs ys with
       | none=>rw[he] at h;exact(aE h).elim
       | some b =>
         rw[he] at h;obtain rfl:=bw h;have hg:=EC hE he;have g:=Gh (c:=c) (w:=w) hE 10 t ti xs ys vs us b hti he ⟨hl,hr⟩ ⟨hl',hr'⟩;rw[hag] at g;exact na hw (fun op=>by unfold eqGuard;simp_all) rfl rfl (g 10000 aa)
     | _=>exact(aE h).elim
   | _=>exact(aE h).elim
 | array len e =>
   rw[f] at h i;obtain rfl:=i;have hag:ti.agg=true:=a5;cases hx with
   | @agg _ _ xs vs hl hr =>
     cases hy with
     | @agg _ _ ys us hl' hr' =>
       dsimp only at h;cases he:ff E 10 t xs ys with
       | none=>rw[he] at h;exact(aE h).elim
       | some b =>
         rw[he] at h;obtain rfl:=bw h;have hg:=EC hE he;have g:=Gh (c:=c) (w:=w) hE 10 t ti xs ys vs us b hti he ⟨hl,hr⟩ ⟨hl',hr'⟩;rw[hag] at g;exact na hw (fun op=>by unfold eqGuard;simp_all) rfl rfl (g 10000 aa)
     | _=>exact(aE h).elim
   | _=>exact(aE h).elim
 | _=>rw[f] at h;exact(aE h).elim
theorem toNat_and (k:IntKind)(a:BinOp)(x y:Int)(h:a = .and∨a = .or∨a = .xor∨a = .andNot)(w:World):(Op.intBits a k x y).run P w = .ok (.int k (dS a k x y)) w:=by
 rcases h with rfl|rfl|rfl|rfl<;>simp[Op.intBits,dS]
theorem Ou (J:bW P E)(j:aN G c w H){g:BinOp}{t:TypeId}{o q:Operand}{x y:AV}{v u:Value}(I:Rel c w x v)(B:Rel c w y u){r:bk ⊕ AV}
 (h:(mz E g t (iE o || iE q) x y).run H=some r) :
 aW G c w H nm r ((do eqGuard g t o q v u;binOp g t v u:Sem Value).run P w):=by
 have d:∀(M:¬∃(k:IntKind) (a:Int) (s:IntKind) (b:Int),x = .int k a∧y = .int s b) (K:¬∃(a b:List UInt8),x = .str a∧y = .str b),
  aW G c w H nm r ((do eqGuard g t o q v u;binOp g t v u:Sem Value).run P w):=by
  intro M K;have C : (match g with
   | .eql=>vb E false t (iE o || iE q) x y
   | .neq=>vb E true t (iE o || iE q) x y
   | _ => .fail).run H=some r:=by
   unfold mz at h;split at h
   . grind
   . grind
   . exact h
  cases g<;>first
   | exact(aE C).elim
   | exact Gl (neq:=false) J j I B C
   | exact Gl (neq:=true) J j I B C
 cases I with
 | int k a =>
   cases B with
   | int s b =>
     have f:∀g,(eqGuard g t o q (.int k a) (.int s b)).run P w = .ok () w:=by
      intro g;unfold eqGuard;split<;>simp
     simp only[Sem.run_bind,f,Result.andThen_ok];clear d;cases g
     case shl=>
      obtain⟨i,h⟩:=cy h;obtain rfl:=bw h;have i:0≤b:=by simpa using i
      have:¬b<0:=aa;simp only[binOp,Op.shift,this,if_false,Sem.run_pure,wr];exact aW.quiet j (.int _ _)
     case shr=>
      obtain⟨i,h⟩:=cy h;obtain rfl:=bw h;have i:0≤b:=by simpa using i
      have:¬b<0:=aa;simp only[binOp,Op.shift,this,if_false,Sem.run_pure];exact aW.quiet j (.int _ _)
     all_goals
      simp only[mz] at h;cases A:decide (k=s) with
      | false=>rw[A] at h;exact(aE h).elim
      | true =>
        rw[A] at h;have A:k=s:=by simpa using A
        subst A;dsimp only at h
        first
        | (obtain rfl := bw h
           first
           | (simp only[binOp,ne_eq,not_true,if_false,Op.intArith,Sem.run_pure,wr];exact aW.quiet j (.int _ _))
           | (simp only[binOp,ne_eq,not_true,if_false,Op.intCmp,Sem.run_pure];exact aW.quiet j (.bool _)))
        | (obtain ⟨i, h⟩ := cy h
           obtain rfl:=bw h;have i:¬b=0:=by simpa using i
           simp only[binOp,ne_eq,not_true,if_false,Op.intDiv,i,Sem.run_pure,wr];exact aW.quiet j (.int _ _))
   | _=>exact d (by rintro⟨_,_,_,_,m,p⟩;cases p) (by rintro⟨_,_,m,p⟩;cases m)
 | str a =>
   cases B with
   | str b =>
     have f:∀g,(eqGuard g t o q (.string ⟨a.toArray⟩) (.string ⟨b.toArray⟩)).run P w = .ok () w:=by
      intro g;unfold eqGuard;split<;>simp
     simp only[Sem.run_bind,f,Result.andThen_ok];clear d;cases g<;>(try exact(aE h).elim)
     case add=>
      obtain⟨i,h⟩:=cy h;obtain rfl:=bw h;have i:=le_of_ble_eq_true i;have z:∀l:List UInt8,(⟨l.toArray⟩:ByteArray).size=l.length:=fun l=>by rfl
      have:¬(((⟨a.toArray⟩:ByteArray).size+(⟨b.toArray⟩:ByteArray).size:Nat):Int) > IntKind.i64.max:=by
       rw[z,z];simp[IntKind.max,IntKind.signed,IntKind.bits];omega
      simp only[binOp,Op.stringOp,this,if_false,Sem.run_pure];have e:(⟨a.toArray⟩:ByteArray)++⟨b.toArray⟩=⟨(a++b).toArray⟩:=by
       apply ByteArray.ext
       apply Array.ext'
       simp
      rw[e];exact aW.quiet j (.str _)
     all_goals
      obtain rfl:=bw h;simp only[binOp,Op.stringOp,Sem.run_pure,ByteArray.toList_mk];exact aW.quiet j (.bool _)
   | _=>exact d (by rintro⟨_,_,_,_,m,p⟩;cases m) (by rintro⟨_,_,m,p⟩;cases p)
 | _=>exact d (by rintro⟨_,_,_,_,m,p⟩;cases m) (by rintro⟨_,_,m,p⟩;cases m)
end
end Go.Ago
end
