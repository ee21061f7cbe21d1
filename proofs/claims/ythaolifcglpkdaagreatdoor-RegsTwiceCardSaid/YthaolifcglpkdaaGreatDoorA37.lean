/-
  Part A37: lemmas, each with its own conditions.
-/
import Derived.Shelf.Spec.SlicesInsert
import Derived.Shelf.Spec.SlicesInsertGrow
import Derived.Shelf.Slices.Delete
import Derived.Test.YthaolifcglpkdaaGreatDoorA33
set_option maxRecDepth 100000
set_option maxHeartbeats 0
set_option linter.all false
namespace Go.Ago
open Go.Proofs List Nat Tryz
attribute [local irreducible] bN bM aZ bK b_ wr bp bL comp DC DP DW DV
theorem rL:∀{d c:List (Int×AV)},cu d->cu c->(∀k x,(k,x)∈d↔(k,x)∈c)->d=c
 | [],[],_,_,_=>rfl
 | [],(b,y)::s,_,_,h=>by grind
 | (a,x)::r,[],_,_,h=>by grind
 | (a, x) :: r, (b, y) :: s, m, l, h => by
   obtain⟨n,j⟩:=qH.1 m;obtain⟨o,i⟩:=qH.1 l;have f:a=b∧x=y:=by
    grind
   obtain⟨rfl,rfl⟩:=f;rw[rL j i fun k z=>⟨fun g=>by
    grind,fun g=>by
    grind⟩]
def dq (a:List (Int×AV)):List (Int×AV)->List (Int×AV)
 | []=>a
 | (k,y)::l=>dq (eo a k y) l
theorem ki:∀{l a:List (Int×AV)},cu a->cu (dq a l)
 | [],_,h=>h
 | (k,y)::l,a,h=>ki (l:=l) (nL h)
theorem qo {g:Int->AV}:∀{l a:List (Int×AV)},cu a->(∀p∈l,p.2=g p.1)->∀j x,(j,x)∈dq a l↔(x=g j∧∃y,(j,y)∈l)∨((j,x)∈a∧∀y,(j,y)∉l)
 | [],a,_,_,j,x=>by simp[dq]
 | (k, y) :: l, a, c, d, j, x => by
   rw[dq,qo (nL c) (fun p e=>d p (by simp_all)),iY c]
   grind
def dK (es l:List (Int×AV))(g:Int->AV):List (Int×AV):=(es.filter fun p=>!l.any fun q=>decide (q.1=p.1)).map fun p=>(p.1,g p.1)
theorem so {es l:List (Int×AV)}{g:Int->AV}{j:Int}:(∃y,(j,y)∈dK es l g)↔(∃x,(j,x)∈es)∧∀y,(j,y)∉l:=by
 unfold dK
 constructor
 . grind
 rintro⟨⟨x,a⟩,b⟩
 refine⟨g j,mem_map.2 ⟨(j,x),mem_filter.2 ⟨a,?_⟩,rfl⟩⟩
 grind
theorem rI {es l:List (Int×AV)}{g:Int->AV}:∀p∈dK es l g,p.2=g p.1:=by
 intro p a;obtain⟨q,_,rfl⟩:=mem_map.1 a;rfl
theorem rH {es:List (Int×AV)}{g:Int->AV}:dK es es g=[]:=by
 refine eq_nil_iff_forall_not_mem.2 fun p a=>?_
 obtain⟨⟨x,b⟩,h⟩:=so.1 ⟨p.2,a⟩
 grind
theorem se {a es l:List (Int×AV)}{g:Int->AV}(b:cu a){k:Int}{x:AV}(n:∀p∈l,p∈es)(h:(k,x)∈l):eo (dq a (dK es l g)) k (g k)=dq a (dK es (fD l k) g):=by
 refine rL (nL (ki b)) (ki b) fun j y=>?_
 rw[iY (ki b),qo b rI,qo b rI,so];have e:∀(y:AV),(∀z,(j,z)∉dK es l g)↔¬((∃x,(j,x)∈es)∧∀y,(j,y)∉l):=fun _=>by rw[<-so (g:=g)];simp
 have f:(∀z,(j,z)∉dK es (fD l k) g)↔¬((∃x,(j,x)∈es)∧∀y,(j,y)∉fD l k):=by rw[<-so (g:=g)];simp
 rw[e y]
 by_cases i:j=k
 . have m : ∀ y, (j, y) ∉ fD l j := fun y c => (nw.1 c).2 rfl
   grind
 . have m : (∀ y, (j, y) ∉ fD l k) ↔ ∀ y, (j, y) ∉ l := ⟨fun d y c => d y (nw.2 ⟨c, i⟩), fun d y c => d y (nw.1 c).1⟩
   grind
abbrev aq (b:Bool)(l:List Int):List AV:=[.bool b,aU l]
abbrev bE (M:List (Int×AV))(b:Bool)(l:List Int):AV := .agg [.cK M,.bool b,aU l]
theorem HY {M:List (Int×AV)}{g:Int->AV}(c:cu M):dq [] (dK M [] g)=M.map fun p=>(p.1,g p.1):=by
 have a:cu []:=by simp[cu]
 have b:cu (M.map fun p=>(p.1,g p.1)):=by unfold cu at *;grind
 refine rL (ki a) b fun k x=>?_
 rw[qo a rI,so]
 grind
def jr (v:AV):Prop:=∃b l,v = .agg (aq b l)
theorem YO {ρ:Nat->Nat}{v:AV}(h:jr v):v.r1 ρ=v:=by obtain⟨b,l,rfl⟩:=h;rfl
theorem YN {n:Nat}{v:AV}(h:jr v):v.l1 n=true:=by obtain⟨b,l,rfl⟩:=h;rfl
theorem YP {H:ai}{n:Nat}{v:AV}(h:jr v):snap H (n+2) v=some v:=by obtain⟨b,l,rfl⟩:=h;rfl
def gA (es:List (Int×AV)):Prop:=∀p∈es,jr p.2
theorem kN {es es':List (Int×AV)}{ρ:Nat->Nat}(b:es=es')(h:gA es'):an.mp es=(an.mp es').cp ρ:=by
 subst b
 congr 1
 conv=>lhs;rw[<-map_id es]
 refine map_congr_left fun p a=>?_
 have:=YO (ρ:=ρ) (h _ a)
 grind
theorem kM {es:List (Int×AV)}{n:Nat}(h:gA es):(es.all fun p=>p.2.l1 n)=true:=all_eq_true.2 fun p a=>YN (h p a)
theorem Ds {H:ai}{n:Nat}:∀{es:List (Int×AV)},gA es->aM (gh (snap H (n+2))) es=some es
 | [],_=>rfl
 | (a, v) :: l, h => by
   have e:=YP (H:=H) (n:=n) (h (a,v) ag);have d:=Ds (H:=H) (n:=n) (es:=l) fun p c=>h p (by simp_all)
   simp[aM,gh]
   grind
theorem YM {es:List (Int×AV)}{k:Int}{v:AV}(b:cu es)(h:gA es)(c:jr v):gA (eo es k v):=by
 rintro⟨j,x⟩ a
 rcases(iY b j x).1 a with⟨_,rfl⟩|⟨a,_⟩
 . exact c
 exact h _ a
theorem eK {es l a:List (Int×AV)}{g:Int->AV}(c:cu a)(h:gA a)(d:∀k,jr (g k)):gA (dq a (dK es l g)):=by
 rintro⟨j,x⟩ b
 rcases(qo c rI j x).1 b with⟨rfl,_⟩|⟨b,_⟩
 . grind
 exact h _ b
theorem eI:cu []:=by simp[cu]
theorem gw:gA []:=fun p a=>by cases a
theorem Io {f:AV->Option AV}{k:Int}{v w:AV}(j:f v=some w):∀{es es':List (Int×AV)},aM (gh f) es=some es'->aM (gh f) (eo es k v)=some (eo es' k w)
 | [], _, h => by
   simp only[aM,Option.some.injEq] at h;subst h;simp[eo,aM,gh,j]
 | (a, x) :: l, es', h => by
   simp only[aM] at h;cases b:gh f (a,x) with
   | none=>rw[b] at h;cases h
   | some y =>
     rw[b] at h;dsimp only at h;cases e:aM (gh f) l with
     | none=>rw[e] at h;cases h
     | some p =>
       rw[e] at h;cases h;obtain⟨c,z⟩:=y;have o:c=a:=by
        unfold gh at b;dsimp only at b;cases i:f x with
        | none=>rw[i] at b;cases b
        | some u=>rw[i] at b;cases b;rfl
       subst o;simp only[eo]
       by_cases n:c<k
       . rw [decide_eq_true n]
         simp only[aM];rw[b,Io j e]
       . rw [decide_eq_false n]
         dsimp only;have g:gh f (k,v)=some (k,w):=by unfold gh;dsimp only;rw[j]
         by_cases m:c=k
         . rw [decide_eq_true m]
           simp only[aM];rw[g,e]
         . rw [decide_eq_false m]
           simp only[aM];rw[g,b,e]
theorem jQ {α a:Type}{f:α->Option a}{x:α}{l:List α}{y:a}{r:List a}(h:f x=some y)(b:aM f l=some r):aM f (x::l)=some (y::r):=by simp[aM,h,b]
theorem sU {H:ai}{n:Nat}{cs a:List AV}(h:aM (snap H n) cs=some a):snap H (n+1) (.agg cs)=some (.agg a):=by simp[snap,h]
theorem KZ {H:ai}{n nm:Nat}{es:List (Int×AV)}{k:Int}{v w:AV}(h:H.get nm=some (.mp (eo es k v)))(b:gA es)(a:snap H (n+2) v=some w):snap H (n+3) (.cY nm)=some (.cK (eo es k w)):=by
 rw[snap];rw[h]
 dsimp
 rw[Io a (Ds b)]
theorem yR {H:ai}{n k:Nat}{es:List (Int×AV)}(h:H.get k=some (.mp es))(a:gA es):snap H (n+3) (.cY k)=some (.cK es):=by
 rw[snap];rw[h]
 dsimp
 rw[Ds a]
theorem Dh (M:List (Int×AV))(hM:cu M)(b:Bool)(l:List Int)(r f:Int)(g:Int->AV)(o:Bool)(l2:List Int)(h0:af 170 [.agg (aq b l),i64 r] (fun i=>i = .ret (.agg (aq o l2))))
 (hv:gA M)(d:∀k,jr (g k))(h:∀k x,(k,x)∈M->af 170 [x,i64 r] (fun i=>i = .ret (g k))) :
 af 116 [bE M b l,i64 r,i64 f] (fun i=>i = .ret (bE (eo (M.map fun p=>(p.1,g p.1)) f (.agg (aq false [r]))) o l2)):=by
 refine zw func116 ?_;refine zg ?_
 repeat' ((refine DC.pure rfl (h0) ?_;rintro _ rfl)<;>refine zg ?_)
 refine DW.si aC aD M 12 18 19 20 [1,2,6,7,18] [2] 200 (fun _=>[]) (fun l=>[(2,.mp (dq [] (dK M l g)))]) [] hM rfl rfl rfl rfl rfl rfl rfl rfl rfl rfl ?_
 conv=>whnf
 refine⟨?_,fun l=>?_,?_,fun l qf c k x a=>?_⟩
 . conv => whnf
   (repeat' first|exact True.intro|apply And.intro|rfl|exact kN (by first|rfl|exact(congrArg (dq []) rH).symm) (eK eI gw d)|exact kM (eK eI gw d))
 . conv => whnf
   rfl
 . conv => whnf
   generalize m:snap _ 20 _=rr
   obtain rfl:=m.symm.trans (sU (n:=19) (jQ (KZ (n:=16) (w := .agg (aq false [r])) rfl (eK eI gw d) rfl) rfl))
   conv=>whnf
   rw[HY hM]
 . obtain ⟨b1, l1, rfl⟩ := hv (k, x) (c _ a)
   obtain⟨b3,l3,j⟩:=d k;have hw:=h k _ (c _ a);rw[j] at hw;have e:=se (g:=g) eI c a;rw[j] at e;refine zg ?_
   repeat' ((refine zh rfl (hw) ?_;rintro _ rfl)<;>refine zg ?_)
   refine⟨rfl,rfl,rfl,?_⟩
   conv=>whnf
   (repeat' first|exact True.intro|apply And.intro|rfl|exact kN (by exact e) (eK eI gw d)|exact kM (eK eI gw d))
theorem X6 (M:List (Int×AV))(hM:cu M)(b:Bool)(r f:Int)(g:Int->AV)(o:Bool)(l2:List Int)(h0:af 170 [.agg [.bool b,.ah],i64 r] (fun i=>i = .ret (.agg (aq o l2))))
 (hv:gA M)(d:∀k,jr (g k))(h:∀k x,(k,x)∈M->af 170 [x,i64 r] (fun i=>i = .ret (g k))) :
 af 116 [.agg [.cK M,.bool b,.ah],i64 r,i64 f] (fun i=>i = .ret (bE (eo (M.map fun p=>(p.1,g p.1)) f (.agg (aq false [r]))) o l2)):=by
 refine zw func116 ?_;refine zg ?_
 repeat' ((refine DC.pure rfl (h0) ?_;rintro _ rfl)<;>refine zg ?_)
 refine DW.si aC aD M 12 18 19 20 [1,2,6,7,18] [2] 200 (fun _=>[]) (fun l=>[(2,.mp (dq [] (dK M l g)))]) [] hM rfl rfl rfl rfl rfl rfl rfl rfl rfl rfl ?_
 conv=>whnf
 refine⟨?_,fun l=>?_,?_,fun l qf c k x a=>?_⟩
 . conv => whnf
   (repeat' first|exact True.intro|apply And.intro|rfl|exact kN (by first|rfl|exact(congrArg (dq []) rH).symm) (eK eI gw d)|exact kM (eK eI gw d))
 . conv => whnf
   rfl
 . conv => whnf
   generalize m:snap _ 20 _=rr
   obtain rfl:=m.symm.trans (sU (n:=19) (jQ (KZ (n:=16) (w := .agg (aq false [r])) rfl (eK eI gw d) rfl) rfl))
   conv=>whnf
   rw[HY hM]
 . obtain ⟨b1, l1, rfl⟩ := hv (k, x) (c _ a)
   obtain⟨b3,l3,j⟩:=d k;have hw:=h k _ (c _ a);rw[j] at hw;have e:=se (g:=g) eI c a;rw[j] at e;refine zg ?_
   repeat' ((refine zh rfl (hw) ?_;rintro _ rfl)<;>refine zg ?_)
   refine⟨rfl,rfl,rfl,?_⟩
   conv=>whnf
   (repeat' first|exact True.intro|apply And.intro|rfl|exact kN (by exact e) (eK eI gw d)|exact kM (eK eI gw d))
end Go.Ago
namespace Go.Ago
open Go.Proofs List Nat Tryz
attribute [local irreducible] bN bM aZ bK b_ wr bp bL comp DC DP DW DV
attribute [local irreducible] nv gk
theorem wT {es:List (Int×AV)}{k:Int}{v:AV}(h:cu es):gk (eo es k v) k=some v:=Bg (nL h) ((iY h k v).2 (ag))
theorem Ig {z v:AV}:nv z false (some v)=v:=by unfold nv;rfl
def dy (a:Bool)(b:Int->Bool)(es l:List (Int×AV)):Bool:=a || (es.filter fun p=>!l.any fun q=>decide (q.1=p.1)).any fun p=>b p.1
theorem xr {a:Bool}{b:Int->Bool}{es:List (Int×AV)}:dy a b es es=a:=by
 unfold dy
 grind
theorem UE {c:Bool}{i:Int->Bool}{es l:List (Int×AV)}{k:Int}{x:AV}(o:∀p∈l,p∈es)(h:(k,x)∈l):dy c i es (fD l k)=(dy c i es l || i k):=by
 unfold dy;rw[Bool.or_assoc]
 congr 1
 rw[Bool.eq_iff_iff];simp only[any_eq_true,mem_filter,Bool.not_eq_true',any_eq_false,decide_eq_true_eq,Bool.or_eq_true]
 constructor
 . rintro ⟨p, ⟨j, g⟩, d⟩
   by_cases m:p.1=k
   . exact .inr (by rw[<-m];exact d)
   . exact .inl ⟨p,⟨j,fun q f e=>g q (by obtain⟨a,b⟩:=q;exact nw.2 ⟨f,fun n=>m (by rw[<-e];exact n)⟩) e⟩,d⟩
 . rintro (⟨p, ⟨j, g⟩, d⟩ | d)
   . exact⟨p,⟨j,fun q f e=>g q (by obtain⟨a,b⟩:=q;exact(nw.1 f).1) e⟩,d⟩
   . exact⟨(k,x),⟨o _ h,fun q f e=>by obtain⟨a,b⟩:=q;exact(nw.1 f).2 e⟩,d⟩
theorem K3 {H:ai}{n:Nat}{x y b a:AV}(d:snap H n x=some b)(c:snap H n y=some a):snap H (n+1) (.ao [x,y])=some (.ao [b,a]):=by simp[snap,aM,d,c]
theorem uM (M N:List (Int×AV))(hM:cu M)(hN:cu N)(b c:Bool)(l m:List Int)(g D ob:Int->AV)(t:Int->Bool)(E:Bool)(F:List Int)
 (h0:af 167 [.agg (aq b l),.agg (aq c m)] (fun i=>i = .ret (.agg (aq E F))))(h1:af 168 [.agg (aq E F),.agg (aq b l)] (fun i=>i = .ret (.bool true)))
 (j:∀k,jr (g k))(L:∀k,jr (D k))(O:∀k,jr (ob k))(hv:gA M)(hw:gA N)
 (A:∀k,(∃x,(k,x)∈M∨(k,x)∈N)->af 65 [bE M b l,i64 k] (fun i=>i = .ret (D k)))(C:∀k,(∃x,(k,x)∈M∨(k,x)∈N)->af 65 [bE N c m,i64 k] (fun i=>i = .ret (ob k)))
 (B:∀k,(∃x,(k,x)∈M∨(k,x)∈N)->af 167 [D k,ob k] (fun i=>i = .ret (g k)))(u:∀k,(∃x,(k,x)∈M∨(k,x)∈N)->af 168 [g k,D k] (fun i=>i = .ret (.bool (t k)))) :
 af 114 [bE M b l,bE N c m] (fun i=>i = .ret (.ao [bE (dq (dq [] (dK M [] g)) (dK N [] g)) E F,.bool (dy (dy false (fun k=>!t k) M []) (fun k=>!t k) N [])])):=by
 have e:cu (dq [] (dK M [] g)):=ki eI;have q:gA (dq [] (dK M [] g)):=eK eI gw j;have w:wr IntKind.i64 (0+1)=1:=aF aa aa;have hw2:wr IntKind.i64 (wr IntKind.i64 (0+1)+1)=2:=by rw[w];exact aF aa aa
 refine zw func114 ?_;refine zg ?_
 repeat' ((first|(refine DC.pure rfl (h0) ?_;rintro _ rfl)|(refine DC.pure rfl (h1) ?_;rintro _ rfl))<;>refine zg ?_)
 refine DW.rounds aC aD 3 ?_
 conv=>whnf
 refine zg ?_
 repeat' ((first|(refine zp ?_ ?_<;>first|exact⟨⟩|intro h)|refine zo ?_)<;>refine zg ?_)
 refine DW.si aC aD M 30 33 34 35 [2,3,4,5,6,9,28,29,30,31,32,33] [4] 200 (fun l=>[(7,.bool (dy false (fun k=>!t k) M l))]) (fun l=>[(4,.mp (dq [] (dK M l g)))]) [] hM rfl rfl rfl rfl rfl rfl rfl rfl rfl rfl ?_
 conv=>whnf
 refine⟨?_,fun l=>?_,?_,fun l G hl2 k x hkx=>?_⟩
 . conv => whnf
   (repeat' first|exact True.intro|apply And.intro|rfl|exact congrArg AV.bool xr.symm|exact kN (by first|rfl|exact(congrArg (dq []) rH).symm) (eK eI gw j)|exact kM (eK eI gw j))
 . conv => whnf
   rfl
 . refine zk ?_
   repeat' ((first|(refine ay.mk _ (by rw[w];rfl) ?_)|(refine zp ?_ ?_<;>first|exact⟨⟩|intro h))<;>refine zk ?_)
   refine DW.si aC aD N 239 33 34 35 [2,3,4,5,6,9,28,29,30,31,32,33] [4] 200 (fun l=>[(7,.bool (dy (dy false (fun k=>!t k) M []) (fun k=>!t k) N l))]) (fun l=>[(4,.mp (dq (dq [] (dK M [] g)) (dK N l g)))]) [] hN rfl rfl rfl rfl rfl rfl rfl rfl rfl rfl ?_
   conv=>whnf
   refine⟨?_,fun l=>?_,?_,fun l G hl2 k x hkx=>?_⟩
   . conv => whnf
     (repeat' first|exact True.intro|apply And.intro|rfl|exact congrArg AV.bool xr.symm|exact kN (by first|rfl|exact(congrArg (dq _) rH).symm) (eK e q j)|exact kM (eK e q j))
   . conv => whnf
     rfl
   . refine zg ?_
     repeat' ((refine zp ?_ ?_<;>first|exact⟨⟩|intro h)<;>refine zg ?_)
     all_goals (generalize H:snap _ 20 _=rr;obtain rfl:=H.symm.trans (K3 (n:=19) (sU (n:=18) (jQ (yR (n:=15) rfl (eK e q j)) rfl)) rfl);(conv=>whnf);(rw[h]))
   . have a : ∃ y, (k, y) ∈ M ∨ (k, y) ∈ N := ⟨x, .inr (hl2 _ hkx)⟩
     obtain⟨bx,lx,rfl⟩:=hw (k,x) (hl2 _ hkx);obtain⟨ba,la,I⟩:=L k;obtain⟨bb,lb,J⟩:=O k;obtain⟨bg,lg,z⟩:=j k;have o:=A k a;have p:=C k a;have d:=B k a;have f:=u k a;rw[I] at o d f;rw[J] at p d;rw[z] at d f;have r:=se (g:=g) e hl2 hkx;rw[z] at r;have s:∀v,gk (eo (dq (dq [] (dK M [] g)) (dK N l g)) k v) k=some v:=fun v=>wT (ki e)
     refine zg ?_
     repeat' ((first|(refine zb ?_ ?_<;>(intro h))|(refine zh rfl o ?_;rintro _ rfl)|(refine zh rfl p ?_;rintro _ rfl)|(refine zh rfl d ?_;rintro _ rfl)|(refine zh rfl f ?_;rintro _ rfl)|rw[s,Ig])<;>refine zg ?_)
     all_goals refine⟨rfl,rfl,rfl,?_⟩
     all_goals conv=>whnf
     all_goals (repeat' first|exact True.intro|apply And.intro|rfl|exact congrArg AV.bool zB|exact kN r (eK e q j)|exact kM (eK e q j))
 . have a : ∃ y, (k, y) ∈ M ∨ (k, y) ∈ N := ⟨x, .inl (hl2 _ hkx)⟩
   obtain⟨bx,lx,rfl⟩:=hv (k,x) (hl2 _ hkx);obtain⟨ba,la,I⟩:=L k;obtain⟨bb,lb,J⟩:=O k;obtain⟨bg,lg,z⟩:=j k;have o:=A k a;have p:=C k a;have d:=B k a;have f:=u k a;rw[I] at o d f;rw[J] at p d;rw[z] at d f;have r:=se (g:=g) eI hl2 hkx;rw[z] at r;have s:∀v,gk (eo (dq [] (dK M l g)) k v) k=some v:=fun v=>wT (ki eI)
   refine zg ?_
   repeat' ((first|(refine zb ?_ ?_<;>(intro h))|(refine zh rfl o ?_;rintro _ rfl)|(refine zh rfl p ?_;rintro _ rfl)|(refine zh rfl d ?_;rintro _ rfl)|(refine zh rfl f ?_;rintro _ rfl)|rw[s,Ig])<;>refine zg ?_)
   all_goals refine⟨rfl,rfl,rfl,?_⟩
   all_goals conv=>whnf
   all_goals (repeat' first|exact True.intro|apply And.intro|rfl|exact congrArg AV.bool zB|exact kN r (eK eI gw j)|exact kM (eK eI gw j))
theorem xy (M N:List (Int×AV))(hM:cu M)(hN:cu N)(b c:Bool)(l m:List Int)(g C ob:Int->AV)(s:Int->Bool)(I:Bool)(G:List Int)
 (h0:af 167 [.agg (aq b l),.agg (aq c m)] (fun f=>f = .ret (.agg (aq I G))))(h1:af 168 [.agg (aq I G),.agg (aq b l)] (fun f=>f = .ret (.bool false)))
 (i:∀k,jr (g k))(L:∀k,jr (C k))(O:∀k,jr (ob k))(hv:gA M)(hw:gA N)
 (t:∀k,(∃x,(k,x)∈M∨(k,x)∈N)->af 65 [bE M b l,i64 k] (fun f=>f = .ret (C k)))(z:∀k,(∃x,(k,x)∈M∨(k,x)∈N)->af 65 [bE N c m,i64 k] (fun f=>f = .ret (ob k)))
 (B:∀k,(∃x,(k,x)∈M∨(k,x)∈N)->af 167 [C k,ob k] (fun f=>f = .ret (g k)))(u:∀k,(∃x,(k,x)∈M∨(k,x)∈N)->af 168 [g k,C k] (fun f=>f = .ret (.bool (s k)))) :
 af 114 [bE M b l,bE N c m] (fun f=>f = .ret (.ao [bE (dq (dq [] (dK M [] g)) (dK N [] g)) I G,.bool (dy (dy true (fun k=>!s k) M []) (fun k=>!s k) N [])])):=by
 have e:cu (dq [] (dK M [] g)):=ki eI;have j:gA (dq [] (dK M [] g)):=eK eI gw i;have A:wr IntKind.i64 (0+1)=1:=aF aa aa;have hw2:wr IntKind.i64 (wr IntKind.i64 (0+1)+1)=2:=by rw[A];exact aF aa aa
 refine zw func114 ?_;refine zg ?_
 repeat' ((first|(refine DC.pure rfl (h0) ?_;rintro _ rfl)|(refine DC.pure rfl (h1) ?_;rintro _ rfl))<;>refine zg ?_)
 refine DW.rounds aC aD 3 ?_
 conv=>whnf
 refine zg ?_
 repeat' ((first|(refine zp ?_ ?_<;>first|exact⟨⟩|intro h)|refine zo ?_)<;>refine zg ?_)
 refine DW.si aC aD M 30 33 34 35 [2,3,4,5,6,9,28,29,30,31,32,33] [4] 200 (fun l=>[(7,.bool (dy true (fun k=>!s k) M l))]) (fun l=>[(4,.mp (dq [] (dK M l g)))]) [] hM rfl rfl rfl rfl rfl rfl rfl rfl rfl rfl ?_
 conv=>whnf
 refine⟨?_,fun l=>?_,?_,fun l H hl2 k x hkx=>?_⟩
 . conv => whnf
   (repeat' first|exact True.intro|apply And.intro|rfl|exact congrArg AV.bool xr.symm|exact kN (by first|rfl|exact(congrArg (dq []) rH).symm) (eK eI gw i)|exact kM (eK eI gw i))
 . conv => whnf
   rfl
 . refine zk ?_
   repeat' ((first|(refine ay.mk _ (by rw[A];rfl) ?_)|(refine zp ?_ ?_<;>first|exact⟨⟩|intro h))<;>refine zk ?_)
   refine DW.si aC aD N 239 33 34 35 [2,3,4,5,6,9,28,29,30,31,32,33] [4] 200 (fun l=>[(7,.bool (dy (dy true (fun k=>!s k) M []) (fun k=>!s k) N l))]) (fun l=>[(4,.mp (dq (dq [] (dK M [] g)) (dK N l g)))]) [] hN rfl rfl rfl rfl rfl rfl rfl rfl rfl rfl ?_
   conv=>whnf
   refine⟨?_,fun l=>?_,?_,fun l H hl2 k x hkx=>?_⟩
   . conv => whnf
     (repeat' first|exact True.intro|apply And.intro|rfl|exact congrArg AV.bool xr.symm|exact kN (by first|rfl|exact(congrArg (dq _) rH).symm) (eK e j i)|exact kM (eK e j i))
   . conv => whnf
     rfl
   . refine zg ?_
     repeat' ((refine zp ?_ ?_<;>first|exact⟨⟩|intro h)<;>refine zg ?_)
     all_goals (generalize F:snap _ 20 _=rr;obtain rfl:=F.symm.trans (K3 (n:=19) (sU (n:=18) (jQ (yR (n:=15) rfl (eK e j i)) rfl)) rfl);(conv=>whnf);rfl)
   . have a : ∃ y, (k, y) ∈ M ∨ (k, y) ∈ N := ⟨x, .inr (hl2 _ hkx)⟩
     obtain⟨bx,lx,rfl⟩:=hw (k,x) (hl2 _ hkx);obtain⟨ba,la,J⟩:=L k;obtain⟨bb,lb,E⟩:=O k;obtain⟨bg,lg,w⟩:=i k;have p:=t k a;have q:=z k a;have d:=B k a;have o:=u k a;rw[J] at p d o;rw[E] at q d;rw[w] at d o;have r:=se (g:=g) e hl2 hkx;rw[w] at r;have D:∀v,gk (eo (dq (dq [] (dK M [] g)) (dK N l g)) k v) k=some v:=fun v=>wT (ki e)
     refine zg ?_
     repeat' ((first|(refine zh rfl p ?_;rintro _ rfl)|(refine zh rfl q ?_;rintro _ rfl)|(refine zh rfl d ?_;rintro _ rfl))<;>refine zg ?_)
     all_goals refine⟨rfl,rfl,rfl,?_⟩
     all_goals conv=>whnf
     all_goals (repeat' first|exact True.intro|apply And.intro|rfl|exact congrArg AV.bool zB|exact kN r (eK e j i)|exact kM (eK e j i))
 . have a : ∃ y, (k, y) ∈ M ∨ (k, y) ∈ N := ⟨x, .inl (hl2 _ hkx)⟩
   obtain⟨bx,lx,rfl⟩:=hv (k,x) (hl2 _ hkx);obtain⟨ba,la,J⟩:=L k;obtain⟨bb,lb,E⟩:=O k;obtain⟨bg,lg,w⟩:=i k;have p:=t k a;have q:=z k a;have d:=B k a;have o:=u k a;rw[J] at p d o;rw[E] at q d;rw[w] at d o;have r:=se (g:=g) eI hl2 hkx;rw[w] at r;have D:∀v,gk (eo (dq [] (dK M l g)) k v) k=some v:=fun v=>wT (ki eI)
   refine zg ?_
   repeat' ((first|(refine zh rfl p ?_;rintro _ rfl)|(refine zh rfl q ?_;rintro _ rfl)|(refine zh rfl d ?_;rintro _ rfl))<;>refine zg ?_)
   all_goals refine⟨rfl,rfl,rfl,?_⟩
   all_goals conv=>whnf
   all_goals (repeat' first|exact True.intro|apply And.intro|rfl|exact congrArg AV.bool zB|exact kN r (eK eI gw i)|exact kM (eK eI gw i))
end Go.Ago
namespace Go.Ago
open Go.Proofs List Nat Tryz
attribute [local irreducible] bN bM aZ bK b_ wr bp bL comp DC DP DW DV
structure j5 (l:List Int)(r:Int)(n:Nat):Prop where
 le:n≤l.length
 lo:∀(i:Nat) (h:i<l.length),i<n->l[i]<r
 hi:∀(i:Nat) (h:i<l.length),n≤i->r≤l[i]
structure ku (l:List Int)(r:Int)(x:Nat×Nat):Prop where
 le:x.1≤x.2∧x.2≤l.length
 lo:∀(i:Nat) (h:i<l.length),i<x.1->l[i]<r
 hi:∀(i:Nat) (h:i<l.length),x.2≤i->r≤l[i]
theorem xe {l:List Int}(h:a_ l){i j:Nat}(b:j<l.length)(a:i<j):l[i]'aa<l[j]:=pairwise_iff_getElem.1 h i j _ _ a
theorem ku.start {l:List Int}{r:Int}:ku l r (0,l.length):=⟨⟨zero_le _,Nat.le_refl _⟩,fun i h a=>absurd a (ag),fun i h a=>absurd h (aa)⟩
theorem ku.up {l:List Int}{r:Int}{lo hi m:Nat}(d:a_ l)(h:ku l r (lo,hi))(f:m<hi)(j:l[m]'(by have:=h.le.2;dsimp only at this;omega)<r)(g:lo≤m):ku l r (m+1,hi):=⟨⟨aa,h.le.2⟩,fun i c k=>by
 have a:m<l.length:=by grind
 by_cases e:i=m
 . grind
 . have:=xe d a (show i<m by omega);omega,h.hi⟩
theorem ku.dn {l:List Int}{r:Int}{lo hi m:Nat}(c:a_ l)(h:ku l r (lo,hi))(j:m<hi)(f:¬l[m]'(by have:=h.le.2;dsimp only at this;omega)<r)(d:lo≤m):ku l r (lo,m):=⟨⟨d,by grind⟩,h.lo,fun i a g=>by
 by_cases e:i=m
 . grind
 have:=xe c a (show m<i by omega);omega⟩
theorem ku.end_ {l:List Int}{r:Int}{lo hi:Nat}(h:ku l r (lo,hi))(c:¬lo<hi):j5 l r lo:=⟨by have:=h.le;omega,h.lo,fun i a b=>h.hi i _ (aa)⟩
theorem j5.yes {l:List Int}{r:Int}{n:Nat}(h:n<l.length)(e:l[n]=r):r∈l:=by grind
theorem j5.no {l:List Int}{r:Int}{n:Nat}(b:j5 l r n)(e:a_ l)(h:∀h:n<l.length,l[n]≠r):r∉l:=fun d=>by
 obtain⟨i,a,rfl⟩:=mem_iff_getElem.1 d
 by_cases c:i<n
 . have:=b.lo i a c;omega
 . by_cases g : i = n
   . grind
   . have f : n < l.length := aa
     have k:=xe e a (show n<i by omega)
     have j:=b.hi n f (Nat.le_refl _);omega
theorem De (l:List Int)(hinc:a_ l)(r:Int)(hl:l.length≤100000):af 90 [aU l,i64 r] (fun ae=>∃(n:Nat) (b:Bool),ae = .ret (.ao [i64 n,.bool b])∧j5 l r n∧b=decide (r∈l)):=by
 refine zw func90 ?_
 conv=>whnf
 refine DW.aO aC aD [0,1,4,5,6] [] 0 (fun x:{x:Nat×Nat // ku l r x}=>[(7,i64 x.1.1),(8,i64 x.1.2)]) (fun _=>[]) [] (fun x=>x.1.2 - x.1.1) (⟨(0,l.length),ku.start⟩) ?_
 conv=>whnf
 refine⟨?_,fun x=>?_⟩
 . conv => whnf
   (exact No)
 rcases x with⟨⟨a,hi⟩,hx⟩
 have hx1:=hx.le.1;have hx2:=hx.le.2;dsimp only at hx1 hx2;refine zk ?_
 repeat' ((first|(refine Rq.mk (HB (lo:=a) (hi:=hi) aa (by rw[length_map];omega)) ?_)|refine ay.mk _ (Ja (l:=l) (lo:=a) (hi:=hi) aa aa) ?_|refine ay.mk _ (bI (l:=l) (i:=a) aa) ?_|(refine zp ?_ ?_<;>intro h)|(refine DC.pure rfl (H7 (l[(a+hi) / 2]'aa) r) ?_;rintro _ (⟨rfl,hc⟩|⟨rfl,hc⟩))|(refine DC.pure rfl (Tq (l[a]'aa)) ?_;rintro _ rfl))<;>refine zk ?_)
 . refine ⟨⟨((a + hi) / 2 + 1, hi), hx.up hinc aa hc aa⟩, ?_, rfl, bG⟩
   conv=>whnf
   repeat' first|exact True.intro|exact congrArg (AV.int .i64) (by(try dsimp only);rw[sq aa,aF aa aa];(try omega))|rfl|refine And.intro ?_ ?_
 . refine ⟨⟨(a, (a + hi) / 2), hx.dn hinc aa hc aa⟩, ?_, rfl, bG⟩
   conv=>whnf
   repeat' first|exact True.intro|exact congrArg (AV.int .i64) (by(try dsimp only);rw[sq aa])|rfl|refine And.intro ?_ ?_
 all_goals first
  | exact⟨a,true,rfl,hx.end_ aa,(decide_eq_true (j5.yes (n:=a) aa bA)).symm⟩
  | exact⟨a,false,rfl,hx.end_ aa,(decide_eq_false ((hx.end_ aa).no hinc fun h=>(by first|assumption|(exfalso;omega)))).symm⟩
end Go.Ago
section
namespace Go.Ago
open Go.Proofs List Nat Tryz
theorem vd (b:Nat):∀(vs:List Value) (o:Nat) (w:World),(w.setCells b o vs).os=w.os∧(w.setCells b o vs).tape=w.tape∧(w.setCells b o vs).output=w.output∧(w.setCells b o vs).heap.size=w.heap.size∧∀x,x≠b->(w.setCells b o vs).heap[x]? = w.heap[x]?
 | [],_,_=>⟨rfl,rfl,rfl,rfl,fun _ _=>rfl⟩
 | v :: r, o, w => by
   obtain⟨h,d,e,f,g⟩:=vd b r _ _;refine⟨h,d,e,f.trans ?_,fun x c=>(g x c).trans ?_⟩
   . simp
   . simp [World.setCell]
     grind
section
variable {G:eZ} {c:Ctx} {w w':World} {H:ai}
theorem Hj {nx b off cap:Nat}{d:List Int}{H':ai}(C:∀j o,H'.get j=some o->H.get j=some o∧∀B,c.f j=some B->B.b≠b)(n:aN G c w H)(X:∀k,nx≤k->c.f k=none)(Z:w'.os=w.os)(Y:w'.tape=w.tape)(R:w'.output=w.output)(u:w.heap.size≤w'.heap.size)
 (l:∀x,x<w.heap.size->x≠b->w'.heap[x]? = w.heap[x]?)(q:Own c H b∨w.heap.size≤b)(I:b<w'.heap.size)(A:d.length≤cap)(L:∀(j:Nat) (h:j<d.length),w'.cell? ⟨b,off+j,none⟩=some (.int .i64 d[j])) :
 ∃c',ExtM nx c w H c' w' H'∧aN G c' w' H'∧(∀k,nx≤k->c'.f k=none)∧Rel c' w' (.ak 1 (d.map ic)) (.slice (some ⟨b,off,none⟩) d.length cap):=by
 have s:∀x,c.au x->x≠b:=fun x a e=>by
  subst e;rcases q with q|q
  . exact n.kO a q
  . have:=n.bH _ a;omega
 have z:c.le ⟨c.f,fun x=>c.au x∨x=b⟩:=⟨fun _ _ e=>e,fun x a => .inl a⟩
 refine⟨⟨c.f,fun x=>c.au x∨x=b⟩,⟨fun _ _=>rfl,fun x a => .inl a,Z,Y,R,u,fun x a hn=>l x a fun e=>?_,fun x a=>?_,fun x a=>?_⟩,
  ⟨fun x a=>?_,fun k B e=>Nat.lt_of_lt_of_le (n.bX k B e) u,fun k o e=>?_,fun k M o N B P e Q f U J=>n.inj k M o N B P (C k o e).1 (C M N Q).1 f U J,fun g O e=>(n.bR g O e).mono z fun x a=>l x (n.bH x a) (s x a)⟩,X,?_⟩
 . subst e
   rcases q with q|q
   . exact hn q
   . omega
 . rcases a with a | rfl
   . exact .inl a
   . exact .inr q
 . obtain ⟨k, o, B, K, E, rfl⟩ := a
   exact .inl ⟨k,o,B,(C k o K).1,E,rfl⟩
 . rcases a with a | rfl
   . exact Nat.lt_of_lt_of_le (n.bH x a) u
   . exact I
 . obtain ⟨K, E⟩ := C k o e
   obtain⟨B,D,S,T⟩:=n.obj k o K;refine⟨B,D,fun r=>?_,T.mono (l _ (n.bX k B D) (E B D)) (fun V=>V.mono z fun x a=>l x (n.bH x a) (s x a)) fun x a=>⟨.inl a,l x (n.bH x a) (s x a)⟩⟩
   rcases r with r|r
   . exact S r
   . exact E B D r
 . have := @Rel.ak ⟨c.f, fun x => c.au x ∨ x = b⟩ w' 1 (d.map ic) cap ⟨b, off, none⟩ (fun i _ => .int .i64 (d.getD i 0)) (by rw [length_map]; exact A) (fun _ => .inr rfl) (fun i e p => ?_) (fun i j r hj => ?_) (fun i j e x p a => ?_)
   . rw[length_map] at this;exact this
   . rw [getElem?_map] at p
     cases v:d[i]? with
     | none=>rw[v] at p;cases p
     | some y=>rw[v] at p;cases p;rfl
   . rw [length_map] at r
     have t:j=0:=aa;subst t;have:=L i r;rw[show(⟨b,off,none⟩:Addr).add (i * 1+0)=⟨b,off+i,none⟩ by simp[Addr.add],this]
     simp[getD,r]
   . rw [getElem?_map] at p
     cases v:d[i]? with
     | none=>rw[v] at p;cases p
     | some y =>
       rw[v] at p;cases p;have t:j=0:=by
        have:=(List.getElem?_eq_some_iff.1 a).1;simp[ic] at this;exact this
       subst t;have F:x=i64 y:=by simpa[ic] using a.symm
       subst F;rw[getD_eq_getElem?_getD,v];exact .int _ _
theorem J4 {k n:Nat}{zs:List Int}(r:aN G c w H)(o:H.get k=some (.arr 1 (zs.map ic)))(a:zs≠[])(J:n=zs.length){v:Value}(C:Rel c w (.az k 0 n 1) v) :
 ∃B cap arr t,v = .slice (some ⟨B.b,B.s,none⟩) n cap∧c.f k=some B∧n≤cap∧B.s+cap≤arr.size∧w.heap[B.b]? = some (.cells arr t (0,0))∧(∀(j:Nat) (h:j<zs.length),arr[B.s+j]? = some (.int .i64 zs[j]))∧cap≤9223372036854775807:=by
 obtain⟨B,e,D,arr,t,p,L,E,F,q⟩:=r.obj k _ o;have d:0<zs.length:=length_pos_iff.2 a;cases C with
 | az g K m y z =>
   rw[e] at g;cases g;obtain⟨rfl,I⟩:=y aa;refine⟨B,_,arr,t,?_,e,m,aa,p,fun j x=>?_,z⟩
   . simp
   . obtain ⟨_, A⟩ := q j [i64 (zs[j])] (by simp [x, ic])
     obtain⟨v,i,l⟩:=A 0 _ rfl;cases l;rw[show B.s+(j * 1+0)=B.s+j by omega] at i
     exact i
theorem cell_of {b:Nat}{arr:Array Value}{t:TypeId}{fr:Nat×Nat}(h:w.heap[b]? = some (.cells arr t fr))(k:Nat):w.cell? ⟨b,k,none⟩=arr[k]?:=by
 unfold World.cell?;simp[h]
theorem Bs {b:Nat}{arr:Array Value}{t:TypeId}(h:w.heap[b]? = some (.cells arr t (0,0)))(k:Nat):w.frozen? ⟨b,k,none⟩=false:=by
 unfold World.frozen?;simp[h]
theorem KP {b:Nat}{arr:Array Value}{t:TypeId}{fr:Nat×Nat}(h:w.heap[b]? = some (.cells arr t fr)):w.shape? b=some (t,arr.size):=by
 unfold World.shape?;simp[h]
end
end Go.Ago
namespace Go.Proofs
open List Nat
def Tryz.H5:Go.Shelf.Ren:=⟨fun|21=>207|27=>252|28=>253|35=>297|39=>326|n=>n,fun|22=>26|3=>3|4=>4|0=>0|n=>n,fun|n=>n⟩
theorem Tryz.H4:Go.Proofs.Lays2.n21 prog Tryz.H5:={
 mixed:=by kernel_rfl
 f21:=func207.trans (congrArg some (by kernel_rfl))
 f27:=func252.trans (congrArg some (by kernel_rfl))
 f28:=func253.trans (congrArg some (by kernel_rfl))
 f35:=func297.trans (congrArg some (by kernel_rfl))
 f39:=func326.trans (congrArg some (by kernel_rfl))
 t0:=underlying0
 a0:=isAgg0
 z0:=sizeOf0
 v0:=zeroValue0
 t3:=underlying3
 a3:=isAgg3
 z3:=sizeOf3
 v3:=zeroValue3
 t4:=underlying4
 a4:=isAgg4
 z4:=sizeOf4
 v4:=zeroValue4
 t22:=underlying26
 a22:=isAgg26
 z22:=sizeOf26
 v22:=zeroValue26
 i3:=by kernel_rfl }
end Go.Proofs
namespace Go.Ago
open Go.Proofs List Nat Tryz
abbrev vI (x:Int):Value := .int .i64 x
def iD (zs:List Int)(i:Nat)(r:Int):List Int:=zs.take i++r::zs.drop i
theorem HF {zs:List Int}{i:Nat}{r:Int}(h:i≤zs.length):(iD zs i r).length=zs.length+1:=by simp[iD];omega
theorem HE {zs:List Int}{i j:Nat}{r:Int}(h:i≤zs.length)(b:j<(iD zs i r).length):(iD zs i r)[j]=if j<i then zs.getD j 0 else if j=i then r else zs.getD (j - 1) 0:=by
 have a:=by rw[HF h] at *;exact b
 have e:(iD zs i r)[j]? = some (if j<i then zs.getD j 0 else if j=i then r else zs.getD (j - 1) 0):=by
  unfold iD
  grind
 grind
theorem Tn {H:ai}{nx k l m:Nat}{R:AE->ai->Nat->Prop}{i0:Int}(zs:List Int)(r:Int)(i:Nat)(hi:i<zs.length)(hl:zs.length≤100000)(hm:m=zs.length)(hi0:i0=(i:Int))(hk:H.get k=some (.arr 1 (zs.map ic)))(hlk:H.get l=some (.arr 1 [ic r]))(hkl:k≠l)
 (hR:R (.ret (.ak 1 ((iD zs i r).map ic))) (.put k none H) nx):c9 207 [.az k 0 m 1,i64 i0,.az l 0 1 1] H nx R:=by
 subst hm;subst hi0;refine⟨_,_,nx,⟨⟨_,func207,rfl,ab⟩,fun c w vs hw hf hr=>?_⟩,hR⟩
 obtain⟨v0,us,rfl,h0,hr⟩:=hr.dT;obtain⟨v1,us,rfl,h1,hr⟩:=hr.dT;obtain⟨v2,us,rfl,h2,hr⟩:=hr.dT;obtain rfl:=hr.fY;cases h1;have cF:zs≠[]:=fun e=>by rw[e] at hi;cases hi
 obtain⟨B,cap,arr,t,rfl,b1,b2,b3,b4,b5,b6⟩:=J4 (k:=k) (zs:=zs) hw hk cF rfl h0;obtain⟨C,cap1,arr1,t1,rfl,c1,c2,c3,c4,c5,c6⟩:=J4 (k:=l) (zs:=[r]) hw hlk ag rfl h2;have c5':=c5 0 ag;simp only[getElem_cons_zero,Nat.add_zero] at c5';have hvb:C.b≠B.b:=fun e=>by
  exact hkl (hw.inj l k _ _ C B hlk hk c1 b1 e).symm
 have hHB:∀j o,(Tr.put k none H:ai).get j=some o->H.get j=some o∧j≠k:=fun j o e=>by
  rw[Tr.get] at e;cases b:beq j k with
  | true=>rw[b] at e;cases e
  | false=>rw[b] at e;exact⟨e,fun e2=>by rw[e2,beq_refl] at b;cases b⟩
 have hBlt:=hw.bX k B b1;have hcs:∀j v,(zs.map vI)[j]? = some v->w.cell? ⟨B.b,B.s+j,none⟩=some v:=fun j v hv=>by
  rw[cell_of b4];rw[getElem?_map] at hv;cases hd:zs[j]? with
  | none=>rw[hd] at hv;cases hv
  | some y =>
    rw[hd] at hv;cases hv;obtain⟨hj,rfl⟩:=List.getElem?_eq_some_iff.1 hd;exact b5 j hj
 have hvs:∀j v,[vI r][j]? = some v->w.cell? ⟨C.b,C.s+j,none⟩=some v:=fun j v hv=>by
  match j,hv with
  | 0,hv=>cases hv;rw[cell_of c4];exact c5'
  | j+1,hv=>simp at hv
 have h1c:∀v∈zs.map vI,v.oneCell'=true:=fun v hv=>by obtain⟨y,_,rfl⟩:=mem_map.1 hv;rfl
 have h1v:∀v∈[vI r],v.oneCell'=true:=fun v hv=>by rw[mem_singleton.1 hv];rfl
 have hci:(zs.map vI).length=zs.length:=length_map _;have hown:Own c H B.b:=⟨k,_,B,hk,b1,rfl⟩;have hil:=@HF zs i r aa
 by_cases hroom:zs.length+1≤cap
 . refine (Any2.slices_Insert_int_shift Tryz.H4 B.b B.s zs.length cap i C.b C.s 1 cap1 (zs.map vI) [vI r] w hi aa hroom b6 hvb hci rfl hcs (fun j hj => ?_) (fun j hj => Bs b4 _) hvs h1c h1v t1 t arr1.size arr.size (KP c4) (KP b4) aa (Bs c4 _) (Bs c4 _)).mono ?_
   . rw[cell_of b4,Array.getElem?_eq_getElem aa];rfl
   rintro e w' ⟨rfl,rfl⟩
   have hd:((zs.map vI).drop i).length=zs.length - i:=ag;obtain⟨k1,k2,k3,k4,k5⟩:=vd B.b ((zs.map vI).drop i) (B.s+(i+1)) w.drew;obtain⟨m1,m2,m3,m4,m5⟩:=vd B.b [vI r] (B.s+i) (w.drew.setCells B.b (B.s+(i+1)) ((zs.map vI).drop i));have a:∀j,j<zs.length+1->(w.drew.cell? ⟨B.b,B.s+j,none⟩).isSome=true:=fun j hj=>by
    show(w.cell? ⟨B.b,B.s+j,none⟩).isSome=true;rw[cell_of b4,Array.getElem?_eq_getElem aa];rfl
   obtain⟨c',g1,g2,g3,g4⟩:=Hj (w':=(w.drew.setCells B.b (B.s+(i+1)) ((zs.map vI).drop i)).setCells B.b (B.s+i) [vI r]) (off:=B.s) (cap:=cap) (d:=iD zs i r) (H' := .put k none H) (fun j o e=>⟨(hHB j o e).1,fun B' q e2=>(hHB j o e).2 (hw.inj j k _ _ B' B (hHB j o e).1 hk q b1 e2)⟩) hw hf (m1.trans k1) (m2.trans k2) (m3.trans k3) (by rw[m4,k4];exact Nat.le_refl _)
    (fun x hx cF => (m5 x cF).trans (k5 x cF)) (.inl hown) (by rw [m4, k4]; exact hBlt) aa (fun j hj=>by
     have hj2:j<zs.length+1:=aa;rw[HE aa hj]
     by_cases h1:j=i
     . subst h1
       rw[if_neg aa,if_pos rfl];have := World.cell?_setCells_in B.b [vI r] (B.s + j) (w.drew.setCells B.b (B.s + (j + 1)) ((zs.map vI).drop j)) (fun j' hj'=>by
        have:j'=0:=by simpa using hj'
        subst this;exact isSome_setCells B.b _ _ _ (fun q hq=>by rw[hd] at hq;rw[show B.s+(j+1)+q=B.s+(j+1+q) by omega];exact a _ aa) _ (by have:=a j aa;simpa using this)) 0 ag
       simpa using this
     . rw [World.cell?_setCells_out B.b _ _ _ _ (fun _ _ => by show B.s + j < B.s + i ∨ B.s + i + 1 ≤ B.s + j; omega)]
       by_cases h2:j<i
       . rw [if_pos h2, World.cell?_setCells_out B.b _ _ _ _ (fun _ _ => by show B.s + j < B.s + (i + 1) ∨ _; omega)]
         show w.cell? ⟨B.b,B.s+j,none⟩=_;rw[cell_of b4,b5 j aa];simp[getD,show j<zs.length by omega]
       . rw [if_neg h2, if_neg h1]
         have:=World.cell?_setCells_in B.b ((zs.map vI).drop i) (B.s+(i+1)) w.drew (fun q hq=>by rw[hd] at hq;rw[show B.s+(i+1)+q=B.s+(i+1+q) by omega];exact a _ aa) (j - (i+1)) aa
         rw[show B.s+(i+1)+(j - (i+1))=B.s+j by omega] at this
         rw[this];simp[getD,show j - 1<zs.length by omega,show i+(j - (i+1))=j - 1 by omega])
   rw[hil] at g4;exact⟨c',_,nx,.ret (.ak 1 ((iD zs i r).map ic)),g1,g2,Nat.le_refl _,g3,g4,rfl,rfl,rfl⟩
 . refine (Any2.slices_Insert_int_grow Tryz.H4 B.b B.s zs.length cap i C.b C.s 1 cap1 (zs.map vI) [vI r] w hi aa b2 aa aa hci rfl hcs hvs h1c h1v).mono ?_
   rintro e w' ⟨rfl,rfl⟩
   have hd:((zs.map vI).drop i).length=zs.length - i:=ag
   generalize hA:((zs.map vI).take i).toArray++Builtin.zeroCells (vI 0).cells (zs.length+1 - i)++Builtin.zeroCells (vI 0).cells (grownCap w (zs.length+1) cap _ - (zs.length+1))=A
   generalize hG:grownCap w (zs.length+1) cap _=Gc
   have hGc:zs.length+1≤Gc:=by rw[<-hG];exact grownCap_ge ..
   have hAs:zs.length+1≤A.size:=by rw[<-hA];simp[Builtin.zeroCells,show(vI 0).cells.size=1 from rfl];omega
   have hAt:∀j,j<i->A[j]? = some (vI (zs.getD j 0)):=fun j hj=>by
    rw[<-hA,Array.append_assoc,Array.getElem?_append_left ez];simp[getD,hj,show j<zs.length by omega]
   generalize Tryz.H5.t 3=T0
   obtain⟨k1,k2,k3,k4,k5⟩:=vd w.heap.size [vI r] i (w.alloc (.cells A T0)).drew;obtain⟨m1,m2,m3,m4,m5⟩:=vd w.heap.size ((zs.map vI).drop i) (i+1) ((w.alloc (.cells A T0)).drew.setCells w.heap.size i [vI r]).drew;have hz:(w.alloc (.cells A T0)).drew.heap.size=w.heap.size+1:=by show(w.heap.push _).size=_;rw[Array.size_push]
   have hcell:∀j,(w.alloc (.cells A T0)).drew.cell? ⟨w.heap.size,j,none⟩=A[j]?:=fun j=>cell_of (w:=(w.alloc (.cells A T0)).drew) (fr:=(0,0)) (by show(w.heap.push _)[w.heap.size]? = _;rw[Array.getElem?_push,if_pos rfl]) j
   have a:∀j,j<zs.length+1->((w.alloc (.cells A T0)).drew.cell? ⟨w.heap.size,j,none⟩).isSome=true:=fun j hj=>by
    rw[hcell,Array.getElem?_eq_getElem aa];rfl
   have hsome2:∀j,j<zs.length+1->(((w.alloc (.cells A T0)).drew.setCells w.heap.size i [vI r]).drew.cell? ⟨w.heap.size,j,none⟩).isSome=true:=fun j hj=>by
    show(((w.alloc (.cells A T0)).drew.setCells w.heap.size i [vI r]).cell? ⟨w.heap.size,j,none⟩).isSome=true;exact isSome_setCells _ _ _ _ (fun q hq=>a _ (by simp at hq;omega)) _ (a j hj)
   have hold:∀x,x<w.heap.size->(w.alloc (.cells A T0)).drew.heap[x]? = w.heap[x]?:=fun x hx=>by
    show(w.heap.push _)[x]? = _;rw[Array.getElem?_push,if_neg aa]
   obtain⟨c',g1,g2,g3,g4⟩:=Hj (w':=((w.alloc (.cells A T0)).drew.setCells w.heap.size i [vI r]).drew.setCells w.heap.size (i+1) ((zs.map vI).drop i)) (off:=0) (cap:=Gc) (d:=iD zs i r) (H' := .put k none H) (fun j o e=>⟨(hHB j o e).1,fun B' q e2=>by have:=hw.bX j B' q;omega⟩) hw hf (m1.trans k1) (m2.trans k2) (m3.trans k3) (by rw[m4];show w.heap.size≤(World.setCells _ _ _ _).heap.size;rw[k4,hz];omega)
    (fun x hx cF => (m5 x cF).trans ((k5 x cF).trans (hold x hx))) (.inr (Nat.le_refl _)) (by rw [m4]; show w.heap.size < (World.setCells _ _ _ _).heap.size; rw [k4, hz]; omega) aa (fun j hj=>by
     have hj2:j<zs.length+1:=aa;rw[HE aa hj,Nat.zero_add]
     by_cases h1:j<i+1
     . rw [World.cell?_setCells_out w.heap.size _ _ _ _ (fun _ _ => by show j < i + 1 ∨ _; omega)]
       show((w.alloc (.cells A T0)).drew.setCells w.heap.size i [vI r]).cell? ⟨w.heap.size,j,none⟩=_
       by_cases h2:j=i
       . subst h2
         rw[if_neg aa,if_pos rfl];have:=World.cell?_setCells_in w.heap.size [vI r] j (w.alloc (.cells A T0)).drew (fun q hq=>a _ (by simp at hq;omega)) 0 ag
         simpa using this
       . rw[World.cell?_setCells_out w.heap.size _ _ _ _ (fun _ _=>by show j<i∨_;omega),hcell,hAt j aa,if_pos aa]
     . have := World.cell?_setCells_in w.heap.size ((zs.map vI).drop i) (i + 1) ((w.alloc (.cells A T0)).drew.setCells w.heap.size i [vI r]).drew (fun q hq => hsome2 _ (by rw [hd] at hq; omega)) (j - (i + 1)) aa
       rw[show i+1+(j - (i+1))=j by omega] at this
       rw[this,if_neg aa,if_neg aa];simp[getD,show j - 1<zs.length by omega,show i+(j - (i+1))=j - 1 by omega])
   rw[hil] at g4;exact⟨c',_,nx,.ret (.ak 1 ((iD zs i r).map ic)),g1,g2,Nat.le_refl _,g3,g4,rfl,rfl,rfl⟩
end Go.Ago
namespace Go.Proofs
open List Nat
def Tryz.Uz:Go.Shelf.Ren:=⟨fun|23=>208|n=>n,fun|22=>26|3=>3|4=>4|0=>0|n=>n,fun|n=>n⟩
theorem Tryz.Uy:Go.Proofs.Lays2.n23 prog Tryz.Uz:={
 mixed:=by kernel_rfl
 f23:=func208.trans (congrArg some (by kernel_rfl))
 t0:=underlying0
 a0:=isAgg0
 z0:=sizeOf0
 v0:=zeroValue0
 t3:=underlying3
 a3:=isAgg3
 z3:=sizeOf3
 v3:=zeroValue3
 t4:=underlying4
 a4:=isAgg4
 z4:=sizeOf4
 v4:=zeroValue4
 t22:=underlying26
 a22:=isAgg26
 z22:=sizeOf26
 v22:=zeroValue26
 i3:=by kernel_rfl }
end Go.Proofs
namespace Go.Ago
open Go.Proofs Go.RowKit Go.Sort List Nat Tryz
def iz (zs:List Int)(i:Nat):List Int:=zs.take i++zs.drop (i+1)
theorem QB {zs:List Int}{i:Nat}(h:i<zs.length):(iz zs i).length=zs.length - 1:=by simp[iz];omega
theorem QC (zs:List Int)(i:Nat)(hi:i<zs.length):c9 208 [.az 0 0 zs.length 1,i64 i,i64 ((i+1:Nat):Int)] (.put 0 (some (.arr 1 (zs.map ic))) .nil) 1
 (fun I H' n=>I = .ret (.az 0 0 (iz zs i).length 1)∧n=1∧H' = .put 0 (some (.arr 1 ((iz zs i++[0]).map ic))) .nil):=by
 refine⟨_,_,1,⟨⟨_,func208,rfl,ab⟩,fun c w R y F D=>?_⟩,rfl,rfl,rfl⟩
 have m:zs≠[]:=fun e=>by rw[e] at hi;cases hi
 obtain⟨H,A,rfl,L,a⟩:=D.dT;obtain⟨T,A,rfl,O,a⟩:=a.dT;obtain⟨S,A,rfl,M,a⟩:=a.dT;obtain rfl:=a.fY;cases O;cases M;obtain⟨B,g,E,t,G,u,f,j,J,h,K,q,l⟩:=C7 y m (vs:=[H]) ⟨rfl,fun i x v e p=>by
  match i,e,p with
  | 0,e,p=>cases e;cases p;exact L
  | i+1,e,_=>simp at e⟩
 cases G;refine(Any.slices_Delete_int Tryz.Uy B.b B.s g i (i+1) zs w (C6 h q) j l aa aa).mono ?_
 rintro e z ⟨rfl,n,o⟩
 have r:=QB hi;obtain⟨P,Q⟩:=C5 (d:=iz zs i++[0]) (os:=#[]) (n:=n) (w':=z) y u f h K (by rw[length_append,r];simp;omega) (by rw[grow_empty,o];simp[iz])
 have C:Rel c z (.az 0 0 (iz zs i).length 1) (.slice (some ⟨B.b,B.s,none⟩) (iz zs i).length g):=Rel.az u f aa (fun _=>⟨ag,aa⟩) l
 rw[show zs.length - (i+1 - i)=(iz zs i).length by omega]
 exact⟨c,_,1,.ret (.az 0 0 (iz zs i).length 1),P,Q,Nat.le_refl _,F,C,rfl,rfl,rfl⟩
theorem QD {n:Nat}{b a:Int}(zs:List Int)(i:Nat)(hi:i<zs.length)(d:n=zs.length)(e:b=(i:Int))(f:a=((i+1:Nat):Int)):c9 208 [.az 0 0 n 1,i64 b,i64 a] (.put 0 (some (.arr 1 (zs.map ic))) .nil) 1
 (fun c H' _=>c = .ret (.az 0 0 (iz zs i).length 1)∧H'.get 0=some (.arr 1 ((iz zs i++[0]).map ic))):=by
 subst d;subst e;subst f;refine(QC _ i hi).mono ?_
 rintro _ _ _ ⟨rfl,_,rfl⟩;exact⟨rfl,rfl⟩
end Go.Ago
end
namespace Go.Ago
open Go.Proofs Go.RowKit List Nat Tryz
theorem P5 (a:Addr)(c:Nat)(w:World):Calls prog 16 #[.slice (some a) 0 c] w fun e w'=>e = .returned (.slice (some ⟨w.heap.size,0,none⟩) 0 0)∧Below w.heap.size w w':=by
 have d:prog.underlying 26=some (.slice 3):=aG;have p:(prog.info? 3).map (fun i=>(i.zero,i.size,i.bytes))=some (some (.int .i64 0),1,8):=aG
 have q26:∀(w:World) (a:Option Addr) (n c l k:Nat),(binOp .eql 26 (.slice a n c) (.slice none l k)).run prog w = .ok (.bool a.isNone) w:=fun w a n c l k=>Lib.run_eql_slice_nil w _ _ a n c l k d
 have o:∀w,Sem.run prog (underlying 26) w = .ok (TypeDesc.slice 3) w:=run_underlying d;have g:∀w,_root_.Go.Src prog 1 26 (.slice (some a) 0 c) 0 [] w:=fun w=>_root_.Go.Src.ofSlice w d a 0 c [] ag (fun j u h=>by simp at h) (fun v m=>by cases m)
 go_enter func16,ntmps16
 go_wp2_with (at_builtin;refine wpList_append_room1 _ rfl _ _ 26 26 rfl 3 _ _ d p w.heap.size 0 0 0 rfl _ rfl 0 [] (g _) (Nat.le_refl _) (fun j h=>absurd h (not_lt_zero _)) (fun j h=>absurd h (not_lt_zero _)) ?_)
 go_ret
 exact⟨rfl,(Below.refl _ w).alloc (Nat.le_refl _) _⟩
theorem P6 (w:World):Calls prog 16 #[.slice none 0 0] w fun e w'=>e = .returned (.slice none 0 0)∧w'=w:=by
 have d:prog.underlying 26=some (.slice 3):=by rfl
 have g:=fun w a n c h i=>Lib.run_eql_slice_nil w _ _ a n c h i d
 go_wp2
 go_ret
 simp
theorem P4:PC prog fx 16 [.ak 1 []] (· = .ret .cW):=by
 refine PC.Cz ⟨_,func16,rfl,ab⟩ fun c w o n i=>?_
 obtain⟨v,m,rfl,f,h⟩:=i.dT;obtain rfl:=h.fY
 generalize g:AV.ak 1 []=x at f
 cases f<;>cases g
 . rename_i d a _ _ _ _ _ _
   refine(P5 a d w).mono ?_
   rintro e k ⟨rfl,l⟩
   exact⟨l,.ret .cW,fun j _=>Rel.cW _,rfl⟩
 . refine (P6 w).mono ?_
   rintro e k ⟨rfl,rfl⟩
   exact⟨Below.refl _ _,.ret .cW,fun j _=>Rel.iB,rfl⟩
theorem FG:af 16 [.ak 1 []] (fun a=>a = .ret .cW):=⟨_,P4,rfl⟩
end Go.Ago
