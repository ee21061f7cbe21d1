/-
  Part A25: lemmas, each with its own conditions.
-/
import Derived.Test.YthaolifcglpkdaaGreatDoorA24
set_option maxRecDepth 100000
set_option maxHeartbeats 0
set_option linter.all false
namespace Go.Ago
open List Nat
def er (ws:List aA)(r:Nat):List aA:=ws.set (r / 64) (ws.getD (r / 64) 0 ||| BitVec.twoPow 64 (r % 64))
def iA (ws:List aA)(r:Nat):List aA:=ws.set (r / 64) (ws.getD (r / 64) 0 &&& ~~~ BitVec.twoPow 64 (r % 64))
theorem W5 {ws:List aA}{r n m:Int}(d:n=((r.toNat / 64:Nat):Int))(c:m=((r.toNat % 64:Nat):Int))(a:n.toNat<ws.length) :
 (ws.map jZ).set (0+n.toNat) [AV.int .u64 (dS .or .u64 (ws[n.toNat].toNat:Int) (wr .u64 (1 * 2 ^ min m.toNat IntKind.u64.bits)))]=(er ws r.toNat).map jZ:=by
 subst c;rw[show IntKind.u64.bits=64 from rfl,KQ _ aa,CJ]
 have b:n.toNat=r.toNat / 64:=aa;simp only[b] at a ⊢;simp only[er,map_set,Nat.zero_add,getD,getElem?_eq_getElem a,Option.getD_some]
theorem QO {ws:List aA}{r n m:Int}(d:n=((r.toNat / 64:Nat):Int))(c:m=((r.toNat % 64:Nat):Int))(a:n.toNat<ws.length) :
 (ws.map jZ).set (0+n.toNat) [AV.int .u64 (dS .andNot .u64 (ws[n.toNat].toNat:Int) (wr .u64 (1 * 2 ^ min m.toNat IntKind.u64.bits)))]=(iA ws r.toNat).map jZ:=by
 subst c;rw[show IntKind.u64.bits=64 from rfl,KQ _ aa,NT]
 have b:n.toNat=r.toNat / 64:=aa;simp only[b] at a ⊢;simp only[iA,map_set,Nat.zero_add,getD,getElem?_eq_getElem a,Option.getD_some]
theorem v8 {ws:List aA}{r s:Nat}(a:r<64 * ws.length):bB (er ws r) s=(decide (s=r) || bB ws s):=by
 unfold bB er
 grind
theorem Oz {ws:List aA}{r s:Nat}(a:r<64 * ws.length):bB (iA ws r) s=(!decide (s=r) && bB ws s):=by
 unfold bB iA
 grind
def cx (a b:List aA):List aA:=zipWith (· ||| ·) a b
theorem v7 {a b:List aA}{s:Nat}(h:a.length=b.length):bB (cx a b) s=(bB a s || bB b s):=by
 unfold bB cx
 grind
end Go.Ago
namespace Go.Ago
open Go.Proofs List Nat Tryz
attribute [local irreducible] bN bM aZ bK b_ wr bp bL comp DC DP DW DV DY
theorem Xi (i:Ins):af 119 [i.av] (fun b=>b = .ret (.fn (.func 173) [] [.bq i.cells])):=by
 refine zw func119 ?_;rfl
theorem Lt {l:List Int}{j:Nat}(h:j<l.length):l.take (j+1)=l.take j++[l[j]]:=ag
def aT (i:Ins):List Int:=(if hasB i.op 65=true∧i.a≠-1 then [i.a] else [])++(if hasB i.op 66=true∧i.b≠-1 then [i.b] else [])++(if hasB i.op 76=true then i.l.l else [])
theorem SC:∀a:Int,hasB a 76=true->hasB a 65=false∧hasB a 66=false:=by
 intro a h
 by_cases c:a<0
 . rw[Hn c] at h;cases h
 by_cases d:39≤a
 . rw[Hm d] at h;cases h
 obtain⟨k,rfl⟩:=Int.eq_ofNat_of_zero_le (by omega:0≤a)
 have e:k<39:=aa;have:∀k:Fin 39,hasB (k.1:Int) 76=true->hasB (k.1:Int) 65=false∧hasB (k.1:Int) 66=false:=ab;exact this ⟨k,e⟩ h
theorem Z1 (i:Ins)(hi:i.l.l.length≤40):af 83 [i.av] (fun r=>r = .ret (bif (aT i).isEmpty then .ah else aU (aT i))):=by
 have s:=SC i.op;refine zw func83 ?_;cases m:hasB i.op 65<;>cases k:hasB i.op 66<;>cases g:hasB i.op 76
 all_goals first|(exfalso;have:=s g;simp_all;done)|skip
 all_goals
  refine zg ?_
  repeat' ((first|refine AP m ?_|refine AO m ?_|refine AP k ?_|refine AO k ?_|refine AP g ?_|refine AO g ?_|refine zf ?_|(refine zp ?_ ?_<;>intro h)|(refine DC.pure rfl (Xi i) ?_;rintro _ rfl)|(refine DC.pure rfl (BP _ _) ?_;rintro _ rfl)|refine DY.walk aC aD ?_|refine DW.range [3] ?_|refine zd func173 ?_)<;>refine zg ?_)
 all_goals first|(rw[show aT i=[] by simp[aT, *]];rfl)|(rw[show aT i=[i.a] by simp[aT, *]];rfl)|(rw[show aT i=[i.b] by simp[aT, *]];rfl)|(rw[show aT i=[i.a,i.b] by simp[aT, *]];rfl)|skip
 have p:aT i=i.l.l:=by simp[aT,m,k,g]
 refine DW.aO aC aD [0,39,40] [2] 2000 (fun q:{q:Nat×List Int // q.2=i.l.l.take q.1∧q.1≤i.l.l.length}=>[(41,i64 q.1.1)]) (fun q=>(2,.arr 1 [[fc 1000 1 (q.1.2.map fun a=>[i64 a])]])::e_ 1000 1 (q.1.2.map fun a=>[i64 a])) [(1000,.cell 2 0)] (fun q=>i.l.l.length+1 - q.1.1) (⟨(0,[]),rfl,zero_le _⟩) ?_
 conv=>whnf
 refine⟨?_,fun q=>?_⟩
 . conv => whnf
   (exact Ee)
 obtain⟨⟨j,c⟩,d,t⟩:=q;dsimp only at d t;rcases c with _|⟨y,c⟩
 . refine zk ?_
   repeat' ((first|refine zf ?_|(refine zp ?_ ?_<;>intro h)|refine DY.walk aC aD ?_|refine ay.mk _ (cU (n:=j) aa) ?_)<;>refine zk ?_)
   . refine ⟨⟨(j + 1, [i.l.l[j]'aa]), (by rw [Lt aa, <-d]; rfl), dC⟩, ?_, rfl, ?_⟩
     . conv => whnf
       (exact Ee)
     . dsimp only;omega
   . have o : i.l.l.take j = i.l.l := take_of_length_le aa
     rw[show aT i=[] by rw[p,<-o,<-d]];rfl
 . refine zk ?_
   repeat' ((first|refine zf ?_|(refine Rq.mk (di 8 64 ag rfl rfl (by have w:=congrArg length d;simp only[length_cons,length_map,length_take] at *;omega) ab) ?_)|(refine zp ?_ ?_<;>intro h)|refine DY.walk aC aD ?_|refine ay.mk _ (cU (n:=j) aa) ?_)<;>refine zk ?_)
   . refine ⟨⟨(j + 1, y :: (c ++ [i.l.l[j]'aa])), (by rw [Lt aa, <-d]; rfl), dC⟩, ?_, rfl, ?_⟩
     . conv => whnf
       (exact Ee)
     . dsimp only;omega
   . have o : i.l.l.take j = i.l.l := take_of_length_le aa
     generalize u:snap _ 20 _=v
     obtain rfl:=Eq.trans u.symm (qQ (f:=fun a:Int=>[i64 a]) (fun _=>by rfl) aB)
     conv=>whnf
     rw[show aT i=y::c by rw[p,<-o,<-d]];rfl
theorem y8 (i:Ins)(hi:i.l.l.length≤40):af 83 [i.av] (fun b=>b = .ret (aU (aT i))):=by
 refine(DP.norm (f:=fun n=>[i64 n]) (sz:=1) (p:=fun a=>a=aT i) ((Z1 i hi).mono ?_)).mono ?_<;>simp
end Go.Ago
namespace Go.Ago
open Go.Proofs List Nat Tryz
def aX (g:Gr)(a:Nat):List Int:=
 if h:a<g.ins.l.length then (if jq g.ins.l[a] then bT g.ins.l[a] else bT g.ins.l[a]++g.entries.l) else g.entries.l
abbrev cn (g:Gr):Nat:=(g.aj.toNat+63) / 64
abbrev gb (n:Nat):List aA:=replicate n 0
structure cM (g:Gr):Prop where
 aj:0≤g.aj∧g.aj≤64
 eU:g.ins.l.length≤1000∧g.entries.l.length≤1000
 jj:∀i∈g.ins.l,∀r∈aT i,0≤r∧r<g.aj
 ga:∀i∈g.ins.l,aH i<g.aj
 h_:∀i∈g.ins.l,i.l.l.length≤40
 nS:∀i∈g.ins.l,∀t∈bT i,0≤t∧t≤(g.ins.l.length:Int)
 fe:∀t∈g.entries.l,0≤t∧t≤(g.ins.l.length:Int)
structure ShS (g:Gr)(S:List (List aA)):Prop where
 len:S.length=g.ins.l.length+1
 row:∀ws∈S,ws.length=cn g
abbrev aK (S:List (List aA))(k:Nat):List aA:=S.getD k []
def fU (g:Gr)(S:List (List aA))(a:Nat):List aA:=
 if h:a<g.ins.l.length then (if cQ g.ins.l[a] then (if 0≤aH g.ins.l[a] then iA (cx (gb (cn g)) (aK S (a+1))) (aH g.ins.l[a]).toNat else cx (gb (cn g)) (aK S (a+1))) else gb (cn g)) else gb (cn g)
def fZ (z:List aA)(l:List Int):List aA:=l.foldl (fun a r=>er a r.toNat) z
def eR (S:List (List aA))(z:List aA)(l:List Int):List aA:=l.foldl (fun a t=>cx a (aK S t.toNat)) z
def fg (g:Gr)(S:List (List aA))(a:Nat):List aA:=if h:a<g.ins.l.length then fZ (fU g S a) (aT g.ins.l[a]) else fU g S a
def ig (g:Gr)(S:List (List aA))(a:Nat):List aA:=eR S (fg g S a) (aX g a)
def eY (g:Gr)(S:List (List aA))(a:Nat):List (List aA):=S.set a (cx (aK S a) (ig g S a))
theorem sH {ws:List aA}{r:Nat}:(er ws r).length=ws.length:=by simp[er]
theorem QL {ws:List aA}{r:Nat}:(iA ws r).length=ws.length:=by simp[iA]
theorem qz {a b:List aA}(h:a.length=b.length):(cx a b).length=a.length:=by simp[cx,h]
theorem eJ {g:Gr}{S:List (List aA)}(h:ShS g S){k:Nat}(b:k≤g.ins.l.length):(aK S k).length=cn g:=by
 have a:k<S.length:=by rw[h.len];omega
 rw[aK,getD,getElem?_eq_getElem a];exact h.row _ (ag)
theorem v_ {n r:Nat}:bB (gb n) r=false:=by
 unfold bB gb
 by_cases h:r / 64<n<;>grind
theorem pe {n:Nat}:(gb n).length=n:=length_replicate
theorem OB {ws:List aA}{r:Nat}(h:64 * ws.length≤r):bB ws r=false:=by
 unfold bB
 grind
theorem mj {g:Gr}(h:cM g):g.aj≤64 * (cn g:Int):=by grind
theorem qt {g:Gr}(h:cM g):cn g≤1:=by have:=h.aj;grind
theorem OC {l:List Int}:∀{z:List aA} {n:Nat},z.length=n->(∀r∈l,0≤r∧r<64 * (n:Int))->∀s,bB (fZ z l) s=true↔((s:Int)∈l∨bB z s=true):=by
 induction l with
 | nil=>simp[fZ]
 | cons r l f =>
   intro z n e c s;have h:=c r (ag);have:=f (z:=er z r.toNat) (by rw[sH,e]) (fun x g=>c x (mem_cons_of_mem _ g)) s
   rw[show fZ z (r::l)=fZ _ l from rfl,this,v8 (aa)]
   grind
theorem yc {l:List Int}:∀{z:List aA},(fZ z l).length=z.length:=by
 induction l with
 | nil=>intro z;rfl
 | cons r l b=>intro z;rw[show fZ z (r::l)=fZ _ l from rfl,b,sH]
theorem OA {S:List (List aA)}{l:List Int}:∀{z:List aA} {n:Nat},z.length=n->(∀t∈l,(aK S t.toNat).length=n)->∀s,bB (eR S z l) s=true↔(bB z s=true∨∃t∈l,bB (aK S t.toNat) s=true):=by
 induction l with
 | nil=>intro z n _ _ s;simp[eR]
 | cons r l f =>
   intro z n a d s;have e:=d r mem_cons_self;have:=f (z:=cx z (aK S r.toNat)) (n:=n) (by rw[qz (by rw[a,e]),a]) (fun x h=>d x (mem_cons_of_mem _ h)) s
   rw[show eR S z (r::l)=eR S (cx z (aK S r.toNat)) l from rfl,this,v7 (by rw[a,e])]
   simp only[mem_cons,Bool.or_eq_true,exists_eq_or_imp,or_assoc]
theorem Je {S:List (List aA)}{l:List Int}:∀{z:List aA} {n:Nat},z.length=n->(∀t∈l,(aK S t.toNat).length=n)->(eR S z l).length=n:=by
 induction l with
 | nil=>intro z n h _;exact h
 | cons r l d =>
   intro z n e f;exact d (by rw[qz (by grind),e]) (fun x b=>f x (mem_cons_of_mem _ b))
theorem vR {g:Gr}(h:cM g){k:Nat}:∀t∈aX g k,0≤t∧t≤(g.ins.l.length:Int):=by
 intro t a;unfold aX at a;split at a
 . rename_i b
   split at a
   . exact h.nS _ (getElem_mem b) t a
   . rcases mem_append.1 a with a | a
     . exact h.nS _ (getElem_mem b) t a
     . exact h.fe t a
 . exact h.fe t a
theorem Ab {g:Gr}(h:cM g){S:List (List aA)}(b:ShS g S){k:Nat}:∀t∈aX g k,(aK S t.toNat).length=cn g:=fun t a=>eJ b (by have:=vR h t a;omega)
theorem yX {i:Ins}:(bT i).length≤1:=by
 unfold bT
 grind
theorem Oa {g:Gr}(h:cM g){k:Nat}:(aX g k).length≤1001:=by
 have:=h.eU;unfold aX;split
 . have := @yX (g.ins.l[k])
   grind
 omega
def kZ (g:Gr)(M:Nat->Nat->Prop)(k r:Nat):Prop:=
 (∃h:k<g.ins.l.length,(cQ g.ins.l[k]∧M (k+1) r∧(r:Int)≠aH g.ins.l[k])∨(r:Int)∈aT g.ins.l[k])∨∃t∈aX g k,M t.toNat r
def pw (g:Gr)(M:Nat->Nat->Prop):Prop:=∀k r,k≤g.ins.l.length->kZ g M k r->M k r
abbrev hP (S:List (List aA))(k r:Nat):Prop:=bB (aK S k) r=true
theorem sw {g:Gr}{S:List (List aA)}(b:ShS g S){k:Nat}:(fU g S k).length=cn g:=by
 unfold fU;split
 . rename_i c
   have a:=eJ b (k:=k+1) aa;split
   . split
     . rw[QL,qz (by rw[pe,a]),pe]
     . rw[qz (by rw[pe,a]),pe]
   . simp
 . simp
theorem Cu {g:Gr}{S:List (List aA)}(a:ShS g S){k:Nat}:(fg g S k).length=cn g:=by
 unfold fg;split
 . rw[yc,sw a]
 exact sw a
theorem xE {g:Gr}(h:cM g){S:List (List aA)}(a:ShS g S){k:Nat}:(ig g S k).length=cn g:=Je (Cu a) (Ab h a)
theorem IL {g:Gr}(i:cM g){S:List (List aA)}(m:ShS g S){k r:Nat}:bB (fU g S k) r=true↔∃h:k<g.ins.l.length,cQ g.ins.l[k]∧hP S (k+1) r∧(r:Int)≠aH g.ins.l[k]:=by
 unfold fU;split
 . rename_i c
   have e:=eJ m (k:=k+1) aa;have f:bB (cx (gb (cn g)) (aK S (k+1))) r=bB (aK S (k+1)) r:=by rw[v7 (by rw[pe,e]),v_,Bool.false_or]
   have j:=i.ga _ (getElem_mem c);split
   . rename_i d
     split
     . rename_i n
       rw[Oz (by rw[qz (by rw[pe,e]),pe];have:=mj i;omega),f]
       simp only[Bool.and_eq_true,Bool.not_eq_true',decide_eq_false_iff_not]
       constructor
       . rintro⟨a,b⟩;exact⟨c,d,b,aa⟩
       . rintro⟨_,_,a,b⟩;exact⟨aa,a⟩
     . rw [f]
       constructor
       . intro a;exact⟨c,d,a,aa⟩
       . rintro⟨_,_,a,_⟩;exact a
   . rename_i d
     rw[v_];simp only[Bool.false_eq_true,false_iff]
     rintro⟨_,a,_⟩;exact d a
 . rename_i c
   rw[v_];simp only[Bool.false_eq_true,false_iff]
   rintro⟨a,_⟩;exact c a
theorem IK {g:Gr}(c:cM g){S:List (List aA)}(b:ShS g S){k r:Nat}:bB (ig g S k) r=true↔kZ g (hP S) k r:=by
 unfold ig;rw[OA (Cu b) (Ab c b)];unfold kZ;refine or_congr ?_ Iff.rfl;unfold fg;split
 . rename_i d
   rw[OC (sw b) (fun r e=>by have:=c.jj _ (getElem_mem d) r e;have:=mj c;omega),IL c b]
   grind
 . rename_i d
   rw[IL c b]
   constructor
   . rintro⟨a,_⟩;exact absurd a d
   . rintro⟨a,_⟩;exact absurd a d
theorem kZ.mono {g:Gr}{M N:Nat->Nat->Prop}(h:∀k r,M k r->N k r){k r:Nat}(e:kZ g M k r):kZ g N k r:=by
 rcases e with⟨d,⟨a,b,c⟩|a⟩|⟨t,a,b⟩
 . exact .inl ⟨d,.inl ⟨a,h _ _ b,c⟩⟩
 . exact .inl ⟨d,.inr a⟩
 exact .inr ⟨t,a,h _ _ b⟩
def mN (g:Gr)(S:List (List aA)):Prop:=∀M,pw g M->∀k r,hP S k r->M k r
theorem ShS.zero {g:Gr}:ShS g (replicate (g.ins.l.length+1) (gb (cn g))):=⟨ag,ag⟩
theorem mN.zero {g:Gr}{n m:Nat}:mN g (replicate n (gb m)):=by
 intro M _ k r h;have h:bB _ r=true:=h
 by_cases a:k<n
 . rw[show aK _ k=gb m by grind,v_] at h;cases h
 . rw [show aK _ k = [] by grind] at h
   rw[OB ag] at h;cases h
theorem ShS.step {g:Gr}(c:cM g){S:List (List aA)}(a:ShS g S){k:Nat}(b:k≤g.ins.l.length):ShS g (eY g S k):=by
 refine⟨by rw[eY,length_set,a.len],fun d h=>?_⟩
 rcases mem_or_eq_of_mem_set h with h|rfl
 . exact a.row _ h
 rw[qz (by rw[eJ a b,xE c a]),eJ a b]
theorem row_step {g:Gr}{S:List (List aA)}(b:ShS g S){k j:Nat}(c:k≤g.ins.l.length):aK (eY g S k) j=if j=k then cx (aK S k) (ig g S k) else aK S j:=by
 have a:k<S.length:=by rw[b.len];omega
 by_cases h:j=k
 . subst h;simp[eY,a]
 . simp[eY,getElem?_set_ne (Ne.symm h),h]
theorem mN.step {g:Gr}(f:cM g){S:List (List aA)}(b:ShS g S)(d:mN g S){k:Nat}(c:k≤g.ins.l.length):mN g (eY g S k):=by
 intro M a j r h;have h:bB _ r=true:=h;rw[row_step b c] at h
 by_cases e:j=k
 . subst e
   rw[if_pos rfl,v7 (by rw[eJ b c,xE f b]),Bool.or_eq_true] at h
   rcases h with h|h
   . exact d M a j r h
   exact a j r c (kZ.mono (d M a) ((IK f b).1 h))
 rw[if_neg e] at h;exact d M a j r h
def Sat (g:Gr)(S:List (List aA))(k:Nat):Prop:=cx (aK S k) (ig g S k)=aK S k
structure fy (g:Gr)(S:List (List aA)):Prop extends ShS g S where
 fix:pw g (hP S)
 low:mN g S
theorem fy.mk' {g:Gr}(c:cM g){S:List (List aA)}(a:ShS g S)(d:mN g S)(h:∀k,k≤g.ins.l.length->Sat g S k):fy g S:=
 ⟨a,fun k r b f=>by
  have i:=(IK c a).2 f;have e:=h k b;show bB _ r=true;rw[<-e,v7 (by rw[eJ a b,xE c a]),i,Bool.or_true],d⟩
def iG (ws:List aA):Nat:=(ws.map fun w=>2 ^ 64 - w.toNat).sum
def jR (S:List (List aA)):Nat:=(S.map iG).sum
theorem IF:∀{a b:List aA},a.length=b.length->iG (cx a b)≤iG a∧(cx a b≠a->iG (cx a b)<iG a)
 | [],[],_=>⟨Nat.le_refl _,fun h=>absurd rfl h⟩
 | x :: a, y :: b, h => by
   have i:=@IF a b (by simpa using h)
   have m:=x.isLt;have n:x.toNat≤(x ||| y).toNat:=by rw[BitVec.toNat_or];exact left_le_or
   have l:=(x ||| y).isLt
   have k:iG (cx (x::a) (y::b))=(2 ^ 64 - (x ||| y).toNat)+iG (cx a b):=by simp[iG,cx]
   have j:iG (x::a)=(2 ^ 64 - x.toNat)+iG a:=by simp[iG]
   rw[k,j];refine⟨aa,fun f=>?_⟩
   by_cases c:x ||| y=x
   . have : cx a b ≠ a := fun e => f (by show (x ||| y) :: cx a b = x :: a; rw [c, e])
     have:=i.2 this;rw[c];omega
   . have : (x ||| y).toNat ≠ x.toNat := fun e => c (BitVec.eq_of_toNat_eq e)
     omega
theorem Ls:∀{l:List Nat} {k v:Nat} (h:k<l.length),(l.set k v).sum+l[k]=l.sum+v
 | x::l,0,v,_=>by grind
 | x :: l, k + 1, v, h => by
   have:=@Ls l k v (by grind)
   grind
theorem IE {g:Gr}(f:cM g){S:List (List aA)}(b:ShS g S){k:Nat}(e:k≤g.ins.l.length):jR (eY g S k)≤jR S∧(¬Sat g S k->jR (eY g S k)<jR S):=by
 have c:k<S.length:=by rw[b.len];omega
 have a:k<(S.map iG).length:=by simpa using c
 have h:=@IF (aK S k) (ig g S k) (by rw[eJ b e,xE f b])
 have j:=Ls (v:=iG (cx (aK S k) (ig g S k))) a;have i:jR (eY g S k)=((S.map iG).set k (iG (cx (aK S k) (ig g S k)))).sum:=by simp[jR,eY]
 have m:(S.map iG)[k]=iG (aK S k):=by grind
 rw[i];unfold jR;exact⟨aa,fun d=>by have:=h.2 d;omega⟩
theorem Ln {g:Gr}{S:List (List aA)}(b:ShS g S){k:Nat}(c:k≤g.ins.l.length)(h:Sat g S k):eY g S k=S:=by
 have a:k<S.length:=by rw[b.len];omega
 unfold eY;rw[h]
 simp_all
theorem pw.congr {g g':Gr}(d:g'.ins.l.length=g.ins.l.length)(b:∀M k r,kZ g' M k r↔kZ g M k r){M:Nat->Nat->Prop}:pw g' M↔pw g M:=
 ⟨fun h k r c a=>h k r aa ((b M k r).2 a),fun h k r c a=>h k r aa ((b M k r).1 a)⟩
theorem fy.uniq {g g':Gr}(b:g'.ins.l.length=g.ins.l.length)(c:∀M k r,kZ g' M k r↔kZ g M k r){S S':List (List aA)}(h:fy g S)(a:fy g' S')(k r:Nat):bB (aK S k) r=bB (aK S' k) r:=by
 have f:=h.low _ ((pw.congr b c).1 a.fix) k r;have d:=a.low _ ((pw.congr b c).2 h.fix) k r;cases e:bB _ r<;>grind
theorem fy.last {g:Gr}{S:List (List aA)}(h:fy g S)(i:g.entries.l=[])(r:Nat):bB (aK S g.ins.l.length) r=false:=by
 cases e:bB _ r with
 | false=>rfl
 | true =>
   have := h.low (fun k _ => k ≠ g.ins.l.length) (fun k r f b a=>by
    rcases b with⟨c,_⟩|⟨t,d,_⟩
    . omega
    unfold aX at *
    grind) _ _ e
   grind
end Go.Ago
section
namespace Go.Ago
open Go.Proofs List Nat Tryz
attribute [local irreducible] bN bM aZ bK b_ wr bp bL comp DC DP DW DV
def bn (ws:List aA)(n:Nat):List Int:=((List.range n).filter (bB ws)).map (fun k:Nat=>(k:Int))
theorem UM {ws}:bn ws 0=[]:=rfl
theorem Ia {ws n}(h:bB ws n=true):bn ws (n+1)=bn ws n++[(n:Int)]:=by simp[bn,range_succ,h]
theorem H9 {ws n}(h:bB ws n=false):bn ws (n+1)=bn ws n:=by simp[bn,range_succ,h]
theorem sf {ws n}:(bn ws n).length≤n:=by
 have:=length_filter_le (bB ws) (List.range n)
 simpa[bn] using this
theorem dZ {α:Type}{f:α->List AV}{ρ:Nat->Nat}{sz:Nat}(a:∀x,(f x).map (AV.r1 ρ)=f x){y:α}{acc:List α}:an.arr sz (f y::acc.map f)=an.cp ρ (.arr sz (f y::acc.map f)):=by
 simp[an.cp,a]
abbrev ic (n:Int):List AV:=[i64 n]
attribute [local irreducible] dS bB bn
theorem UL (ws:BL aA)(n:Int)(h:0≤n∧n≤64 * ws.l.length∧n≤1000000):af 39 [fW ws.l,i64 n] (fun j=>∃l:List Int,j = .ret (bif l.isEmpty then .ah else .ak 1 (l.map ic))∧l=bn ws.l n.toNat):=by
 refine zw func39 ?_;have k:=ws.h
 conv=>whnf
 refine DW.aO aC aD [0,4,7] [] 2000 (fun i:{i:Nat×List Int // i.2=bn ws.l i.1∧(i.1:Int)≤n}=>[(8,i64 i.1.1),(5,fc 1000 1 (i.1.2.map ic))]) (fun i=>e_ 1000 1 (i.1.2.map ic)) [(1000,.slot 5)] (fun i=>n.toNat+1 - i.1.1) (⟨(0,[]),UM.symm,by show(0:Int)≤n;omega⟩) ?_
 refine zl fun i=>?_
 rcases i with⟨⟨i,_|⟨y,c⟩⟩,b,d⟩
 . dsimp only at b d
   have a:([]:List Int).length≤i:=by rw[b];exact sf
   refine zg ?_
   repeat' ((first|refine zf ?_|(refine zp ?_ ?_<;>intro h)|(refine DC.pure rfl (Hl ws (i:Int) ⟨aa,aa⟩) ?_;rintro _ rfl))<;>refine zg ?_)
   all_goals first
    | exact⟨[],rfl,by rw[b];congr 1;omega⟩
    | (refine⟨⟨(i+1,[(i:Int)]),(by rw[Ia (by exact h),<-b];rfl),aa⟩,jz,rfl,vu⟩)
    | (refine⟨⟨(i+1,[]),(by rw[H9 (by exact h),<-b]),aa⟩,jz,rfl,vu⟩)
 . dsimp only at b d
   have a:(y::c).length≤i:=by rw[b];exact sf
   refine zg ?_
   repeat' ((first|refine zf ?_|(refine Rq.mk (di 8 1000000 ag rfl rfl (by have:=a;simp only[length_cons,length_map] at this ⊢;omega) ab) ?_)|(refine zp ?_ ?_<;>intro h)|(refine DC.pure rfl (Hl ws (i:Int) ⟨aa,aa⟩) ?_;rintro _ rfl))<;>refine zg ?_)
   all_goals first
    | (refine⟨⟨(i+1,y::(c++[(i:Int)])),(by rw[Ia (by exact h),<-b];rfl),aa⟩,jz,rfl,vu⟩)
    | (refine⟨⟨(i+1,y::c),(by rw[H9 (by exact h),<-b]),aa⟩,jz,rfl,vu⟩)
    | (erw [qQ (f := ic) (fun _ => by rfl) aB]; conv => whnf
       exact⟨y::c,rfl,by rw[b];congr 1;omega⟩)
theorem UK (ws:BL aA)(n:Int)(h:0≤n∧n≤64 * ws.l.length∧n≤1000000):af 39 [fW ws.l,i64 n] (fun a=>a = .ret (aU (bn ws.l n.toNat))):=by
 refine(DP.norm (UL _ n h)).mono ?_;simp
end Go.Ago
end
section
namespace Go.Ago
open Go.Proofs List Nat Tryz
theorem Cs:∀(m:Nat) (l:List Int),l.Nodup->(∀x∈l,0≤x∧x<(m:Int))->l.length≤m
 | 0, l, _, h => by
   cases l with
   | nil=>exact Nat.le_refl _
   | cons x l=>have:=h x mem_cons_self;omega
 | m + 1, l, b, h => by
   by_cases e:(m:Int)∈l
   . have g := Cs m (l.erase (m : Int)) (b.erase _) (fun x d=>by
      grind)
     have:=length_erase_of_mem e;omega
   . have := Cs m l b (fun x d=>by
      grind)
     omega
theorem ny {ws:List aA}{n:Nat}{r:Int}:r∈bn ws n↔∃k:Nat,r=(k:Int)∧k<n∧bB ws k=true:=by
 unfold bn
 grind
def su (g:Gr)(S:List (List aA))(k:Nat):List Int:=bn (aK S k) g.aj.toNat
def Ag (g:Gr)(S:List (List aA))(k:Nat):List aA:=if h:k<g.ins.l.length then (if 0≤aH g.ins.l[k] then er (aK S (k+1)) (aH g.ins.l[k]).toNat else aK S (k+1)) else aK S (k+1)
def oH (g:Gr)(S:List (List aA))(k:Nat):List Int:=bn (Ag g S k) g.aj.toNat
structure lW (g:Gr)(S:List (List aA))(m:Nat)(n:Int):Prop where
 nn:0≤n
 up:∀k,k<m->((su g S k).length:Int)≤n∧((oH g S k).length:Int)≤n
 at_:n=0∨∃k,k<m∧(n=(su g S k).length∨n=(oH g S k).length)
abbrev vD (g:Gr)(S:List (List aA))(n:Int):Prop:=lW g S g.ins.l.length n
theorem lW.nil {g:Gr}{S:List (List aA)}:lW g S 0 0:=⟨Int.le_refl _,fun k h=>absurd h (ag),.inl rfl⟩
theorem Co (a b:Int):bL true a b=max a b:=by unfold bL;grind
theorem lW.step {g:Gr}{S:List (List aA)}{m:Nat}{n:Int}(h:lW g S m n):lW g S (m+1) (max (max n (su g S m).length) (oH g S m).length):=by
 refine⟨by have:=h.nn;omega,fun k c=>?_,?_⟩
 . rcases Nat.lt_or_ge k m with a | a
   . have:=h.up k a;omega
   . obtain rfl : k = m := aa
     omega
 . have b := h.at_
   grind
def Nr (g:Gr)(S:List (List aA))(a:Nat->Int):Prop:=
 ∀k (h:k<g.ins.l.length),0≤aH g.ins.l[k]->cQ g.ins.l[k]->∀r:Nat,(r:Int)<g.aj->hP S (k+1) r->(r:Int)≠aH g.ins.l[k]->a (aH g.ins.l[k]).toNat≠a r
section
variable {g:Gr} {S:List (List aA)} {tw:Nat->Int}
end
def lA (l:List Bool):Nat:=l.count true
theorem wy:∀{l:List Bool} {i:Nat},lA (l.set i true)≤lA l+1
 | [],_=>ag
 | x :: l, 0 => by
   simp only[lA,count_cons];simp
 | x :: l, i + 1 => by
   have:=@wy l i;simp only[set_cons_succ,lA,count_cons] at *;omega
theorem AM {n:Nat}:lA (replicate n false)=0:=by simp[lA,count_replicate]
end Go.Ago
end
namespace Go.Ago
open Go.Proofs List Nat Tryz
attribute [local irreducible] bN bM aZ bK b_ wr bp bL comp DC DP DW DV
theorem Ah {a b:Nat}:(beq a b=true)=(a=b):=ag
theorem ET {a b:Nat}:(beq a b=false)=¬(a=b):=by
 have:=@Ah a b
 grind
theorem EH {c:Int}{m b:Nat}(h:c=(m:Int))(h0:0<m)(d:m≤10000)(a:ble b 1000=true):(blt 0 c.toNat && (c.toNat * (b+1)).ble 140737488355328)=true:=by
 subst h;have a:=le_of_ble_eq_true a;have e:m * (b+1)≤10000 * 1001:=Nat.mul_le_mul d aa;rw[Int.toNat_natCast,show blt 0 m=true from ble_eq_true_of_le h0,ble_eq_true_of_le aa];rfl
theorem EE {l:List Int}:((l.map fun n=>[i64 n]).all fun e=>e.all AV.one)=true:=by simp[AV.one]
theorem gu {α:Type}{f:α->List AV}{H:ai}{k sz n m:Nat}{l:List α}{es:List (List AV)}(b:∀x,aM (snap H n) (f x)=some (f x))(c:H.get k=some (.arr sz es))(d:es=l.map f)(a:m=l.length):snap H (n+1) (.az k 0 m sz)=some (.ak sz (l.map f)):=by
 subst d;subst a;exact Dt b c
theorem VO {l:List Int}(h:l≠[]):AE.ret (.ak 1 (l.map ic))=AE.ret (bif l.isEmpty then .ah else .ak 1 (l.map ic)):=by
 grind
theorem FV (a b:List Int)(z:a.length≤2001)(A:b.length≤2001):af 121 [.ak 1 [[aU a],[aU b]]] (fun s=>∃l:List Int,s = .ret (bif l.isEmpty then .ah else .ak 1 (l.map ic))∧l=a++b):=by
 refine zw func121 ?_;have g:wr .i64 (0+1)=1:=by rw[aF aa aa];rfl
 have t:wr .i64 (wr .i64 (0+1)+1)=2:=by rw[g,aF aa aa];rfl
 have o:wr .i64 (0+(a.length:Int))=a.length:=by rw[aF aa aa];omega
 have j:wr .i64 (wr .i64 (0+(a.length:Int))+(b.length:Int))=a.length+b.length:=by rw[o,aF aa aa]
 have p:wr .i64 (0 - ((0:Nat):Int))=0:=by rw[aF aa aa];rfl
 have k:wr .i64 (wr .i64 (wr .i64 (0+(a.length:Int))+(b.length:Int)) - wr .i64 (0 - ((0:Nat):Int)))=((a.length+b.length:Nat):Int):=by rw[j,p,aF aa aa];omega
 conv=>whnf
 repeat' ((first|refine Rq.mk (EH (m:=a.length+b.length) (by simp only[length_map];exact k) aa aa ab) ?_|refine Rq.mk EE ?_|refine Rq.mk (tV 8 3000 _ ag rfl rfl (by simp<;>omega) mG) ?_|refine Rq.mk kU ?_|refine Br.split (fun h=>?_) (fun h=>?_)<;>(try simp only[bz,Ah,ET] at h)<;>try (exfalso;omega)|refine DW.rounds aC aD 3 ?_|refine zd func174 ?_|refine ay.mk [aU b] (by rw[g];rfl) ?_|refine ay.mk _ rfl ?_)<;>conv=>whnf)
 all_goals first
  | exact⟨[],rfl,by rw[eq_nil_of_length_eq_zero (by assumption:a.length=0),eq_nil_of_length_eq_zero (by assumption:b.length=0)];rfl⟩
  | skip
 all_goals
  generalize q:snap _ 20 _=u
  have v:u=some (.ak 1 ((a++b).map ic)):=by
   refine q.symm.trans (gu (f:=ic) (n:=19) (fun _=>rfl) rfl ?_ ?_)<;>clear q<;>
    rcases eq_zero_or_pos a.length with c|c<;>rcases eq_zero_or_pos b.length with i|i<;>
    first
     | (exfalso;omega)
     | (obtain rfl:=eq_nil_of_length_eq_zero c;simp[ic,take_of_length_le];done)
     | (obtain rfl:=eq_nil_of_length_eq_zero i;simp[ic,take_of_length_le];done)
     | (simp[ic,take_of_length_le];done)
  obtain rfl:=v
  conv=>whnf
  exact⟨a++b,VO (by intro e;rcases append_eq_nil_iff.1 e with⟨x,w⟩;have y:=congrArg length x;have r:=congrArg length w;simp only[length_nil] at y r;omega),rfl⟩
theorem Qn (a b:List Int)(d:a.length≤2001)(e:b.length≤2001):af 121 [.ak 1 [[aU a],[aU b]]] (fun c=>c = .ret (aU (a++b))):=by
 refine(DP.norm (FV a b d e)).mono ?_;simp
theorem zan {n:Int}(h:0≤n∧n≤100000):wr .i64 ((wr .i64 (wr .i64 (n+64) - 1)).tdiv 64)=(((n.toNat+63) / 64:Nat):Int):=by
 rw[aF (n:=n+64) aa aa,aF (n:=n+64 - 1) aa aa,Int.tdiv_eq_ediv_of_nonneg aa,aF aa aa];omega
theorem VF (n:Int)(h:0≤n∧n≤100000):c9 78 [i64 n] .nil 0 (fun c H' _=>c = .ret (.az 5 0 ((n.toNat+63) / 64) 1)∧H'.get 5=some (.arr 1 (replicate ((n.toNat+63) / 64) [.int .u64 0]))):=by
 refine zd func78 ?_;have e:=zan h;have d:(n.toNat+63) / 64≤2000:=aa
 conv=>whnf
 try rw[e]
 generalize (n.toNat+63) / 64=m at d
 refine Rq.mk rfl ?_;refine Rq.mk ?_ ?_
 . have b : (DQ.bytes : Int) = 8 := rfl
   simp only[Bool.and_eq_true,decide_eq_true_eq,b];exact⟨⟨⟨⟨aa,aa⟩,aa⟩,aa⟩,rfl⟩
 conv=>whnf
 conv=>whnf
 rw[Int.toNat_natCast];exact⟨rfl,rfl⟩
end Go.Ago
namespace Go.Ago
open Go.Proofs List Nat Tryz
attribute [local irreducible] bN bM aZ bK b_ wr bp bL comp DC DP DW DV
attribute [local irreducible] dS bB er iA
theorem I_ {l:List aA}{n:Int}(h:n.toNat<l.length):(l.map jZ)[0+n.toNat]? = some (jZ l[n.toNat]):=by simp[h]
abbrev bP (ws:List aA):an := .arr 1 (ws.map jZ)
theorem cV {ws:List aA}:(bP ws).eF:=by simp[an.eF];intro x _;rfl
theorem W4 (ws:BL aA)(r:Int)(h:0≤r∧r<64 * ws.l.length):c9 77 [.az 0 0 ws.l.length 1,i64 r] (.put 0 (some (bP ws.l)) .nil) 1 (fun c H' _=>c = .ret (.ao [])∧H'.get 0=some (bP (er ws.l r.toNat))):=by
 refine zd func77 ?_;have e:=ws.h;have d:=CU (r:=r) aa aa;have b:=m64 (r:=r) aa;refine zk ?_
 repeat' (refine cb (I_ aa) ?_<;>refine zk ?_)
 exact⟨rfl,congrArg (fun x=>some (an.arr 1 x)) (W5 d b aa)⟩
theorem QM (ws:BL aA)(r:Int)(h:0≤r∧r<64 * ws.l.length):c9 82 [.az 0 0 ws.l.length 1,i64 r] (.put 0 (some (bP ws.l)) .nil) 1 (fun c H' _=>c = .ret (.ao [])∧H'.get 0=some (bP (iA ws.l r.toNat))):=by
 refine zd func82 ?_;have e:=ws.h;have d:=CU (r:=r) aa aa;have b:=m64 (r:=r) aa;refine zk ?_
 repeat' (refine cb (I_ aa) ?_<;>refine zk ?_)
 exact⟨rfl,congrArg (fun x=>some (an.arr 1 x)) (QO d b aa)⟩
theorem or_eq {x y:aA}:dS .or .u64 (x.toNat:Int) (y.toNat:Int)=(x.toNat:Int)↔x ||| y=x:=by
 rw[CJ];exact⟨fun h=>BitVec.eq_of_toNat_eq aa,fun h=>by rw[h]⟩
theorem NJ {x y:aA}{H:ai}(h:dS .or .u64 (x.toNat:Int) (y.toNat:Int)=(x.toNat:Int)) :
 AE.ret (AV.bool false)=AE.ret (AV.bool !decide (cx [x] [y]=[x]))∧(Tr.put 0 (some (bP [x])) (Tr.put 1 (some (bP [y])) H)).get 0=some (bP (cx [x] [y]))∧(Tr.put 0 (some (bP [x])) (Tr.put 1 (some (bP [y])) H)).get 1=some (bP [y]):=by
 have a:cx [x] [y]=[x]:=by simp[cx,or_eq.1 h]
 exact⟨by grind,by rw[a];rfl,rfl⟩
theorem NK {x y:aA}{H:ai}{n:Int}{a b:ai->Option an}{es:List (List AV)}(h:¬dS .or .u64 (x.toNat:Int) (y.toNat:Int)=(x.toNat:Int))(d:a=fun H=>H.get 0)(c:b=fun H=>H.get 1)(f:es=[[AV.int .u64 (dS .or .u64 (x.toNat:Int) (y.toNat:Int))]]) :
 AE.ret (AV.bool true)=AE.ret (AV.bool !decide (cx [x] [y]=[x]))∧a (Tr.put 0 (some (.arr 1 es)) (Tr.put 0 (some (bP [x])) (Tr.put 1 (some (bP [y])) H)))=some (bP (cx [x] [y]))∧b (Tr.put 0 (some (.arr 1 es)) (Tr.put 0 (some (bP [x])) (Tr.put 1 (some (bP [y])) H)))=some (bP [y]):=by
 subst d;subst c;subst f;have g:¬cx [x] [y]=[x]:=by
  intro e;have:[x ||| y]=[x]:=e
  exact h (or_eq.2 (by grind))
 refine⟨by simp_all,?_,rfl⟩
 show some _=some (an.arr 1 [[AV.int _ _]]);rw[CJ]
theorem NI (a b:List aA)(h:a.length=b.length)(f:a.length≤1):c9 81 [.az 0 0 a.length 1,.az 1 0 b.length 1] (.put 0 (some (bP a)) (.put 1 (some (bP b)) .nil)) 2
 (fun e H' _=>e = .ret (.bool (!decide (cx a b=a)))∧H'.get 0=some (bP (cx a b))∧H'.get 1=some (bP b)):=by
 refine zd func81 ?_;have d:wr .i64 (0+1)=1:=by rw[aF aa aa];rfl
 rcases a with _|⟨x,_|⟨_,_⟩⟩
 . rcases b with _ | ⟨_, _⟩
   . refine zg ?_
     repeat' ((first|(refine zp ?_ ?_<;>first|exact⟨⟩|intro h)|refine DW.rounds aC aD 2 ?_)<;>refine zg ?_)
     all_goals exact⟨rfl,rfl,rfl⟩
   . cases h
 . rcases b with _ | ⟨y, _ | ⟨_, _⟩⟩
   . cases h
   . refine zg ?_
     repeat' ((first|(refine zp ?_ ?_<;>first|exact⟨⟩|intro h)|refine DW.rounds aC aD 2 ?_)<;>refine zg ?_)
     all_goals first
      | exact NJ bA
      | exact NK (a:=fun H=>H.get 0) (b:=fun H=>H.get 1) (n:=0) bA rfl rfl rfl
   . cases h
 . simp at f
end Go.Ago
namespace Go.Ago
open Go.Proofs List Nat Tryz
attribute [local irreducible] bN bM aZ bK b_ wr bp bL comp DC DP DW DV
attribute [local irreducible] dS bB er iA aV
theorem z_ {g:Gr}{k:Nat}(h:(k:Int)=g.ins.l.length):aX g k=g.entries.l:=dif_neg aa
theorem N6 {g:Gr}{k:Nat}(h:k<g.ins.l.length)(a:jq g.ins.l[k]):aX g k=bT g.ins.l[k]:=by rw[aX,dif_pos h,if_pos a]
theorem N5 {g:Gr}{k:Nat}(h:k<g.ins.l.length)(a:¬jq g.ins.l[k]):aX g k=bT g.ins.l[k]++g.entries.l:=by rw[aX,dif_pos h,if_neg a]
theorem Ac (g:Gr)(a:g.ins.l.length≤10000∧g.entries.l.length≤2000)(k:Nat)(f:k≤g.ins.l.length):af 84 [g.av,i64 k] (fun d=>d = .ret (aU (aX g k))):=by
 refine zw func84 ?_;have e:=g.ins.h;refine zg ?_
 repeat' ((first|(refine zp ?_ ?_<;>intro h)|(refine DC.pure rfl (sX (g.ins.l[k]'aa)) ?_;rintro _ rfl)|(refine DC.pure rfl (W6 (g.ins.l[k]'aa)) ?_;rintro _ (⟨rfl,b⟩|⟨rfl,b⟩))|(refine DC.qa rfl rfl ?_;refine DC.pure rfl (Qn _ _ (by have:=@yX (g.ins.l[k]'aa);omega) (by have:=a;omega)) ?_;rintro _ rfl))<;>refine zg ?_)
 all_goals first|exact congrArg AE.ret (congrArg aU (z_ h).symm)|exact congrArg AE.ret (congrArg aU (N6 aa b).symm)|exact congrArg AE.ret (congrArg aU (N5 aa b).symm)
theorem vP (g:Gr)(a:cM g)(k:Nat)(c:k≤g.ins.l.length):af 84 [g.av,i64 k] (fun b=>b = .ret (aU (aX g k))):=Ac g ⟨Nat.le_trans a.eU.1 aa,Nat.le_trans a.eU.2 aa⟩ k c
end Go.Ago
