/-
  Part A19: lemmas, each with its own conditions.
-/
import Derived.Shelf.Strings.Search1
import Derived.Shelf.Strings.Search2
import Derived.Shelf.Strings.Search3
import Derived.Shelf.Strings.LastIndex
import Derived.Shelf.Strings.Prefix
import Derived.Shelf.Strings.Repeat
import Derived.Shelf.Small.Strs
import Derived.Shelf.Strings.Count
import Derived.Shelf.Strings.IndexAnyAll
import Derived.Lib.TrimU
import Derived.Shelf.Strconv.Atoi
import Derived.Lib.AtoiErrMem
import Derived.Test.YthaolifcglpkdaaGreatDoorA15
import Derived.Test.YthaolifcglpkdaaGreatDoorA18
set_option maxRecDepth 100000
set_option maxHeartbeats 0
set_option linter.all false
section
namespace Go.Ago
open List Nat
variable {P:Program} {E:Env}
theorem DC.lr {g:FuncId}{args args2:List AV}{H:ai}{nx:Nat}{R:AE->ai->Nat->Prop}(j:gm n4 args args2)(h:DC P E g args2 H nx R):DC P E g args H nx R:=by
 obtain⟨f,i,d,⟨k,l⟩,m⟩:=h;exact⟨f,i,d,⟨k,fun c w p n o e=>l c w _ n o (qs (fun _ _ _ a b=>n4.rel a b) j e)⟩,m⟩
theorem AC.wZ {g:FuncId}{nm:Nat}{args args2:List AV}{H:ai}{nx:Nat}{R:AE->ai->Nat->Prop}{o:an}(z:H.get nm=some o)(hx:gm (gJ nm o) args args2)
 (h:AC P E g args2 (.put nm none H) nx R):AC P E g args H nx R:=by
 refine⟨h.1,fun c w A i hf N=>?_⟩
 obtain⟨B,K,b2,b3⟩:=i.obj nm o z;have F:c.le ⟨c.f,fun b=>c.au b∨b=B.b⟩:=⟨fun _ _ e=>e,fun _ a => .inl a⟩
 have p:∀{x v},Rel c w x v->Rel ⟨c.f,fun b=>c.au b∨b=B.b⟩ w x v:=fun t=>t.mono F (fun _ _=>rfl)
 have V:Own c H B.b:=⟨nm,o,B,z,K,rfl⟩;have d:∀k b,(Tr.put nm none H:ai).get k=some b->k≠nm∧H.get k=some b:=by
  intro k b e;rw[Tr.get] at e;cases a:beq k nm with
  | true=>grind
  | false=>rw[a] at e;exact⟨(fun O=>by simp_all),e⟩
 have L:aN E.bR ⟨c.f,fun b=>c.au b∨b=B.b⟩ w (.put nm none H):=by
  refine⟨fun b a=>?_,i.bX,fun k b e=>?_,fun k k' S o2 q B2 e e' f f' a=>i.inj _ _ _ _ q B2 (d _ _ e).2 (d _ _ e').2 f f' a,fun g cs e=>p (i.bR g cs e)⟩
  . rcases a with a | rfl
    . exact i.bH b a
    . exact i.bX _ _ K
  . obtain ⟨M, l⟩ := d k b e
    obtain⟨q,T,c2,Y⟩:=i.obj k b l;refine⟨q,T,fun J=>?_,Y.mono rfl p (fun b a=>⟨F.au b a,rfl⟩)⟩
    rcases J with J|J
    . grind
    . exact M (i.inj _ _ _ _ q B l z T K J)
 have u:∀x y v,gJ nm o x y->Rel c w x v->Rel ⟨c.f,fun b=>c.au b∨b=B.b⟩ w y v:=by
  rintro x y v (rfl|Z) t
  . grind
  . refine (kR (i.only z) (I := fun b => c.au b ∨ b = B.b) (fun b a => .inl a) (fun b a => ?_) 20 t Z).mono ⟨fun _ _ e => (by cases e), fun _ a => a⟩ (fun _ _ => rfl)
    obtain⟨k,S,q,l,O,rfl⟩:=a;rw[Tr.get] at l;cases b:beq k nm with
    | true =>
      simp_all
    | false=>rw[b] at l;cases l
 have G:=by
  have:∀{C r:List AV} {A:List Value},gm (gJ nm o) C r->aQ c w C A->aQ ⟨c.f,fun b=>c.au b∨b=B.b⟩ w r A:=by
   intro C
   induction C with
   | nil=>intro r A s t;cases r with|nil=>obtain rfl:=t.fY;exact aQ.nil|cons _ _=>exact s.elim
   | cons x C ih =>
     intro r A s t;cases r with
     | nil=>exact s.elim
     | cons y r =>
       obtain⟨v,us,rfl,h1,h2⟩:=t.dT;exact .cons (u _ _ _ s.1 h1) (ih s.2 h2)
  exact this hx N
 have m:∀b,Own ⟨c.f,fun b=>c.au b∨b=B.b⟩ (.put nm none H) b->Own c H b:=by
  rintro b ⟨k,S,q,l,O,rfl⟩
  exact⟨k,S,q,(d _ _ l).2,O,rfl⟩
 refine(h.2 _ w A L hf G).mono ?_
 rintro e w' ⟨X,H',Q,ae,j,k2,k3,k4,k5,W⟩
 refine⟨X,H',Q,ae,⟨j.f,fun b a=>j.au b (.inl a),j.os,j.tape,j.output,j.size,fun b a s=>j.other b a fun z=>s (m b z),fun b a=>?_,fun b a=>(j.own b a).imp (m b) id⟩,k2,k3,k4,k5,W⟩
 rcases j.eG b a with(g|rfl)|g|g
 . grind
 . grind
 . grind
 omega
theorem DC.wZ {g:FuncId}{nm:Nat}{args args2:List AV}{H:ai}{nx:Nat}{R:AE->ai->Nat->Prop}{o:an}(f:H.get nm=some o)(c:gm (gJ nm o) args args2)
 (h:DC P E g args2 (.put nm none H) nx R):DC P E g args H nx R:=by
 obtain⟨d,e,a,i,b⟩:=h;exact⟨d,e,a,i.wZ f c,b⟩
end Go.Ago
end
section
namespace Go.Ago
open List Nat
abbrev bU:Nat:=1048576
def aV (A j:Nat):Nat:=A+j
section
variable {A A' j i k:Nat} {X Y:Prop}
theorem UO (h:blt k A=true)(y:Y):cond (beq k (aV A j)) X Y:=by
 have h:=le_of_ble_eq_true h;have:beq k (aV A j)=false:=by
  cases e:beq k _ with
  | false=>rfl
  | true=>have:=eq_of_beq_eq_true e;unfold aV at *;omega
 grind
theorem xa {K:an->Prop}{g:Nat->Option an}{t:ai}{o:an}(c:j<bU)(h:g j=some o)(x:K o):dN (aV A j) K (.fq A bU g t):=by
 have b:ble A (aV A j)=true:=ble_eq_true_of_le (by unfold aV;omega)
 have a:blt (aV A j) (A+bU)=true:=ble_eq_true_of_le (by unfold aV;omega)
 simp[dN,b,a];rw[show aV A j - A=j by unfold aV;omega,h]
 exact x
end
end Go.Ago
end
section
namespace Go.Ago
open List Nat
def eu (m A:Nat)(a:Nat->Nat)(l:List (Nat×Nat))(k:Nat):Nat:=bif blt k m then k else bif ble A k && blt k (A+bU) then a (k - A) else look l k
def og (ρ:Nat->Nat)(b:Nat)(H:ai):List (Nat×an)->Prop
 | []=>True
 | (k,o)::l=>(blt k b=true∧dN (ρ k) (fun x=>x=o.cp ρ∧o.lt b) H)∧og ρ b H l
theorem Fy {ρ:Nat->Nat}{b:Nat}{H:ai}:∀{l:List (Nat×an)},og ρ b H l->∀k o,(k,o)∈l->k<b∧H.get (ρ k)=some (o.cp ρ)∧o.lt b
 | (k, o) :: l, h, d, g, c => by
   rcases mem_cons.1 c with e|c
   . obtain ⟨i, f⟩ := h.1
     obtain⟨x,j,rfl,m⟩:=lE f
     simp_all
   exact Fy h.2 d g c
structure dh (m nl A:Nat)(src:Nat->Nat)(l:List (Nat×Nat))(S:St)(sl:List (Nat×AV))(hl:List (Nat×an))(g:Nat->Option an):Prop where
 Vu:m≤nl
 lo:m≤A∨(A+bU≤m∧∀j,src j=aV A j)
 hi:A+bU≤nl
 bo:mW (eu m A src l) nl S sl
 heap:og (eu m A src l) nl S.heap hl
 inj:pP (eu m A src l) (hl.map (·.1))=true
 rows:∀j o,j<bU->g j=some o->dN (src j) (fun x=>x=o.cp (eu m A src l)∧o.lt nl) S.heap
 Xv:∀i j o o',i<bU->j<bU->g i=some o->g j=some o'->src i=src j->i=j
 apart:∀j o,j<bU->g j=some o->∀p∈hl,src j≠eu m A src l p.1
section
variable {P:Program} {E:Env} {rr:Bool}
theorem dh.wk {m D nx A:Nat}{f:Nat->Nat}{l:List (Nat×Nat)}{S:St}{F:List (Nat×AV)}{u:List (Nat×an)}{g:Nat->Option an}(h:dh m D A f l S F u g) :
 dt P E m (S.at_ nx) ((⟨gF F,S.bF,.fq A bU g (gS u),0⟩:St).at_ D):=by
 have J:m≤D:=h.Vu;have b:∀j,j<bU->eu m A f l (A+j)=f j:=by
  intro j n;rcases h.lo with C|⟨C,r⟩
  case inr=>
   rw[r];unfold eu;rw[show blt (A+j) m=true from ble_eq_true_of_le aa]
   rfl
  have H:blt (A+j) m=false:=by
   cases e:blt (A+j) m with
   | false=>rfl
   | true=>have:=le_of_ble_eq_true e;omega
  have z:(ble A (A+j) && blt (A+j) (A+bU))=true:=by
   rw[ble_eq_true_of_le (le_add_right _ _),show blt (A+j) (A+bU)=true from ble_eq_true_of_le aa];rfl
  unfold eu;rw[H,z];simp
 have d:∀k o,(Tr.fq A bU g (gS u)).get k=some o->(∃j,k=A+j∧j<bU∧g j=some o)∨((k,o)∈u):=by
  intro k o e;rw[Tr.get] at e;cases q:ble A k && blt k (A+bU) with
  | true =>
    rw[q] at e;simp only[Bool.and_eq_true] at q;have H:=le_of_ble_eq_true q.1;have z:=le_of_ble_eq_true q.2
    grind
  | false=>rw[q] at e;exact .inr (nB e)
 refine dt.cp (eu m A f l) (fun k I=>?_) J rfl (fun t y e=>AI h.bo t y (oK e)) (fun k o e=>?_) (fun k G o B e L p=>?_)
 . unfold eu
   rw[show blt k m=true from ble_eq_true_of_le I]
   rfl
 . rcases d k o e with ⟨j, rfl, n, v⟩ | a
   . obtain ⟨x, M, rfl, z⟩ := lE (h.rows j o n v)
     exact⟨by have:=h.hi;omega,by grind,z⟩
   . exact Fy h.heap k o a
 . rcases d k o e with ⟨j, rfl, n, v⟩ | a <;> rcases d G B L with ⟨w, rfl, i, s⟩ | c
   . rw [b j n, b w i] at p
     rw[h.Xv j w o B n i v s p]
   . rw [b j n] at p
     exact absurd p (h.apart j o n v _ c)
   . rw [b w i] at p
     exact absurd p.symm (h.apart w B i s _ a)
   . exact AH h.inj k (mem_map.2 ⟨_,a,rfl⟩) G (mem_map.2 ⟨_,c,rfl⟩) p
theorem DW.jO (B:bW P E)(i:P.follows .mixedOrders=true){α:Type}(k q:List Nat)(n A:Nat)(a:α->List (Nat×AV))(o:α->List (Nat×an))(g:α->Nat->Option an)(b:List (Nat×lX))(t:α->Nat)(u:α)
 {d:Code}{K:AX->Nat->St->Prop}{nx:Nat}{S:St}
 (h:lG S.heap q fun l=>kL S k fun j=>(∃c,dh nx (nx+n) A c (qq S b) S (a u++j) (o u++l) (g u)) ∧
   ∀ x, iI (a x) fun y => en y j fun z => mm z fun r => en (o x) l fun s => oJ s fun G => fI P E rr d (fun e f S'=>match e with
    | .normal=>∃m c,dh nx (nx+n) A c (qq S' b) S' (a m++j) (o m++l) (g m)∧S'.bF=S.bF∧t m<t x
    | e=>K e f S') (nx+n) ⟨r,S.bF,.fq A bU (g x) G,0⟩):DW P E rr nx (.loop d) K S:=by
 obtain⟨l,h⟩:=nt h;obtain⟨j,⟨c,C⟩,h⟩:=ql h;have D:nx≤nx+n:=le_add_right _ _;refine DW.loop (fun x=>⟨gF (a x++j),S.bF,.fq A _ _ (gS (o x++l)),0⟩) _ t _ D C.wk fun x=>?_
 have:=qv (eE (nC (eE (jc (h x)))));refine(DW.gp B i _ this).mono fun e f S' w=>?_
 cases e with
 | normal =>
   obtain⟨m,c,H,J,I⟩:=w;have:=H.wk (P:=P) (E:=E) (nx:=f)
   grind
 | _=>exact w
end
end Go.Ago
end
section
namespace Go.Ago
open List Nat
section
variable {A j k:Nat}
theorem EU (a:j<bU)(h:ble (A+bU) k=true):beq (aV A j) k=false:=by
 have h:=le_of_ble_eq_true h;cases e:beq _ k with
 | false=>rfl
 | true=>have:=eq_of_beq_eq_true e;unfold aV at *;omega
theorem Om (h:blt k A=true):beq (aV A j) k=false:=by
 have h:=le_of_ble_eq_true h;cases e:beq _ k with
 | false=>rfl
 | true=>have:=eq_of_beq_eq_true e;unfold aV at *;omega
theorem nA (a:j<bU)(h:ble (A+bU) k=true):k≠aV A j:=by
 have h:=le_of_ble_eq_true h;unfold aV;omega
theorem kK {v:Option an}{t:ai}{o:Option an}(b:j<bU)(a:ble (A+bU) k=true)(h:t.get (aV A j)=o):(Tr.put k v t).get (aV A j)=o:=by
 rw[Tr.get,EU b a];exact h
theorem kb {g:Nat->Option an}{t:ai}(c:j<bU):(Tr.fq A bU g t).get (aV A j)=g j:=by
 have b:ble A (aV A j)=true:=ble_eq_true_of_le (by unfold aV;omega)
 have a:blt (aV A j) (A+bU)=true:=ble_eq_true_of_le (by unfold aV;omega)
 rw[Tr.get,b,a];simp;rw[show aV A j - A=j by unfold aV;omega]
theorem BJ {K:an->Prop}{v:Option an}{t:ai}(b:j<bU)(a:ble (A+bU) k=true)(h:dN (aV A j) K t):dN (aV A j) K (.put k v t):=by
 simp[dN,EU b a];exact h
theorem BK {K:an->Prop}{v:Option an}{t:ai}(a:blt k A=true)(h:dN (aV A j) K t):dN (aV A j) K (.put k v t):=by
 simp[dN,Om a];exact h
theorem Hh {K:an->Prop}{o:an}{t:ai}(h:K o):dN (aV A j) K (.put (aV A j) (some o) t):=by
 simp[dN];exact h
theorem Hg {i:Nat}{K:an->Prop}{v:Option an}{t:ai}(b:j≠i)(h:dN (aV A j) K t):dN (aV A j) K (.put (aV A i) v t):=by
 have:beq (aV A j) (aV A i)=false:=by
  cases e:beq _ _ with
  | false=>rfl
  | true=>have:=eq_of_beq_eq_true e;unfold aV at *;omega
 simp[dN,this];exact h
end
theorem dh.inner {m c A:Nat}{l:List (Nat×Nat)}{S:St}{s:List (Nat×AV)}{f:List (Nat×an)}{g:Nat->Option an}(y:ble m c=true)(t:ble (A+bU) m=true)
 (a:mW (eu m A (aV A) l) c S s)(d:og (eu m A (aV A) l) c S.heap f)(q:pP (eu m A (aV A) l) (f.map (·.1))=true)
 (rows:∀j o,j<bU->g j=some o->dN (aV A j) (fun x=>x=o.cp (eu m A (aV A) l)∧o.lt c) S.heap)
 (b:(f.all fun p=>blt p.1 m && (blt p.1 A || ble (A+bU) p.1))=true):dh m c A (aV A) l S s f g:=by
 have n:=le_of_ble_eq_true y;have k:=le_of_ble_eq_true t;refine⟨n,.inr ⟨k,fun _=>rfl⟩,aa,a,d,q,rows,fun i j o z B w _ _ e=>by unfold aV at e;omega,fun j o w _ p v e=>?_⟩
 have:=all_eq_true.1 b p v;simp only[Bool.and_eq_true,Bool.or_eq_true] at *;obtain⟨u,h⟩:=this;unfold eu at e;rw[u] at e;simp at e;rcases h with h|h
 all_goals have:=le_of_ble_eq_true h;unfold aV at e;omega
end Go.Ago
namespace Go.Ago
open List Nat
theorem qE {m A:Nat}{a:Nat->Nat}{l:List (Nat×Nat)}{k:Nat}(h:blt k m=true):eu m A a l k=k:=by unfold eu;grind
end Go.Ago
namespace Go.Ago
open List Nat
theorem Yw {n k i m s:Nat}(h:blt k n=true):(AV.az k i m s).l2 n=true:=h
theorem JF {n k i o:Nat}(h:blt k n=true):(AV.ptr k i o).l2 n=true:=h
end Go.Ago
namespace Go.Ago
open List Nat
section
variable {m nl A:Nat} {src:Nat->Nat} {l:List (Nat×Nat)} {ρ:Nat->Nat} {S:St}
theorem FC:mW ρ nl S []:=True.intro
theorem FB {t:Nat}{x y:AV}{r:List (Nat×AV)}(h:S.bo.get t=some x)(c:x=y.r2 ρ)(d:y.l2 nl=true)(b:mW ρ nl S r):mW ρ nl S ((t,y)::r):=by
 refine⟨?_,b⟩
 grind
theorem jH {H:ai}:og ρ nl H []:=True.intro
theorem jG {H:ai}{k:Nat}{x o:an}{r:List (Nat×an)}(f:blt k nl=true)(d:blt k m=true)(h:H.get k=some x)(e:x=o.cp (eu m A src l))(g:o.lt nl)(c:og (eu m A src l) nl H r):og (eu m A src l) nl H ((k,o)::r):=by
 refine⟨⟨f,?_⟩,c⟩;rw[qE d];exact rV h ⟨e,g⟩
end
end Go.Ago
namespace Go.Ago
open List Nat
theorem Yv {k k' i n s:Nat}(h:k'=k):AV.az k i n s=AV.az k' i n s:=by grind
theorem JE {k k' i o:Nat}(h:k'=k):AV.ptr k i o=AV.ptr k' i o:=by grind
end Go.Ago
namespace Go.Ago
open List Nat
theorem dh.grow {m f A k NEW:Nat}{l:List (Nat×Nat)}{S:St}{w:List (Nat×AV)}{q:List (Nat×an)}{g:Nat->Option an}(D:ble m f=true)(C:ble m A=true)(hi:ble (A+bU) f=true)(G:ble (A+bU) NEW=true)
 (d:mW (eu m A (fun j=>bif beq j k then NEW else aV A j) l) f S w)(n:og (eu m A (fun j=>bif beq j k then NEW else aV A j) l) f S.heap q)(t:pP (eu m A (fun j=>bif beq j k then NEW else aV A j) l) (q.map (·.1))=true)
 (rows:∀j o,j<bU->j≠k->g j=some o->dN (aV A j) (fun x=>x=o.cp (eu m A (fun j=>bif beq j k then NEW else aV A j) l)∧o.lt f) S.heap)
 (v:∀o,g k=some o->dN NEW (fun x=>x=o.cp (eu m A (fun j=>bif beq j k then NEW else aV A j) l)∧o.lt f) S.heap)
 (b:(q.all fun p=>blt p.1 m)=true):dh m f A (fun j=>bif beq j k then NEW else aV A j) l S w q g:=by
 have s:=le_of_ble_eq_true D;have u:=le_of_ble_eq_true C;have r:=le_of_ble_eq_true hi;have F:=le_of_ble_eq_true G;have z:beq k k=true:=beq_refl k;have h:∀j,j≠k->beq j k=false:=fun j y=>by
  cases e:beq j k with
  | false=>rfl
  | true=>simp_all
 refine⟨s,.inl u,r,d,n,t,fun j o y I=>?_,fun i j o J K L _ _ e=>?_,fun j o y _ p E e=>?_⟩
 . grind
 . by_cases c : i = k <;> by_cases a : j = k
   . omega
   . subst c;simp only[z,h j a,cond_true,cond_false] at e;unfold aV at e;omega
   . subst a;simp only[z,h i c,cond_true,cond_false] at e;unfold aV at e;omega
   . simp only[h i c,h j a,cond_false] at e;unfold aV at e;omega
 . have B := all_eq_true.1 b p E
   have H:=le_of_ble_eq_true B;rw[qE B] at e
   by_cases a:j=k
   . grind
   . simp only[h j a,cond_false] at e;unfold aV at e;omega
end Go.Ago
namespace Go.Ago
open List Nat
theorem HD {A j:Nat}:aV A j=A+j:=rfl
theorem qS {H:ai}{k i len sz n:Nat}{es r:List (List AV)}(b:H.get k=some (.arr sz es))(d:i+len≤es.length)(c:aM (aM (snap H n)) ((es.drop i).take len)=some r):snap H (n+1) (.az k i len sz)=some (.ak sz r):=by
 have a:(sz == sz && ble (i+len) es.length)=true:=by simp_all
 simp only[snap,b,a,c]
end Go.Ago
end
namespace Go.Ago
open Go.Proofs List Nat Tryz
attribute [local irreducible] bN bM aZ bK b_ wr bp bL comp DC DP DW DV
theorem IC (x:Int):af 235 [i64 x] (eX fun n=>n=if x=1 then 9 else 31):=by
 exact zw func235 W
theorem Wj (x:Int):af 246 [i64 x] (fun d=>∃a b,d = .ret (.ao [.bool a,.bool b])):=by
 exact zw func246 W
theorem uB (x lo hi:Int):af 100 [i64 x,i64 lo,i64 hi] (ca fun b=>b=true↔lo≤x∧x≤hi):=zw func100 W
theorem kp (x lo hi:Int):af 130 [i64 x,i64 lo,i64 hi] (ca fun b=>b=true↔lo≤x∧x≤hi):=zw func130 W
theorem Ud (t:Ty):af 186 [t.av] (ca fun b=>b=true↔t.kind=1∨t.kind=2):=zw func186 W
theorem Pk (t:Ty):af 193 [t.av] (ca fun b=>b=true↔t.kind=1∨t.kind=2):=zw func193 W
theorem PI (t:Ty):af 294 [t.av] (ca fun _=>True):=by
 exact zw func294 W
theorem Oy (t:Ty):af 295 [t.av] (ca fun _=>True):=by
 exact zw func295 W
theorem To (t:Ty):af 296 [t.av] (ca fun _=>True):=by
 exact zw func296 W
theorem wO (t:Ty):af 187 [t.av] (eX fun e=>e=0->(t.kind=1∧t.p≤9∨t.kind=2∧t.p≤31)∧1≤t.p∧0≤t.q∧t.q≤t.p):=by
 have k1:=@IC;exact zw func187 W
def fc (nm sz:Nat)(rows:List (List AV)):AV:=match rows with
 | [] => .ah
 | _::a => .az nm 0 (a.length+1) sz
def e_ (nm sz:Nat)(rows:List (List AV)):List (Nat×an):=match rows with
 | []=>[]
 | r::a=>[(nm,.arr sz (r::a))]
theorem dW {k k' i b n a s c:Nat}(e:k=k')(f:i=b)(g:n=a)(d:s=c):AV.az k i n s=AV.az k' b a c:=by grind
theorem eS {s b:Nat}{e a:List (List AV)}(d:s=b)(c:e=a):an.arr s e=an.arr b a:=by grind
theorem di (B m:Nat){i len c b a:Nat}(e:i+len≤c)(f:b=1)(g:a=B)(h:len≤m)(d:(m+1) * (B+1)≤140737488355328) :
 (ble (i+len) c && ble ((len+b) * (a+1)) 140737488355328)=true:=by
 subst f;subst g;rw[ble_eq_true_of_le e,ble_eq_true_of_le (Nat.le_trans (mul_le_mul_right _ (succ_le_succ h)) d)];rfl
theorem gl {α:Type}{f:α->List AV}{ρ:Nat->Nat}(c:∀x,(f x).map (AV.r1 ρ)=f x){y t:α}{acc:List α}{a:List (List AV)}(d:a=[f t]){n:Nat}(h:n=acc.length+1) :
 List.take n (List.drop 0 (f y::acc.map f))++a=(f y::(acc++[t]).map f).map (List.map (AV.r1 ρ)):=by
 have b:List.take acc.length _=acc.map f:=take_of_length_le ag
 simp_all
theorem cX {α:Type}{f:α->List AV}{n sz:Nat}(a:∀x,(f x).all (AV.l1 n)=true){y:α}{acc:List α}:an.lt n (.arr sz (f y::acc.map f)):=by
 show(List.all _ _)=true;simp[a]
theorem sn {α:Type}{f:α->Option α}:∀{l:List α},(∀x∈l,f x=some x)->aM f l=some l
 | [],_=>rfl
 | x :: l, h => by
   simp[aM,h x _,sn (l:=l) fun y b=>h y (by simp_all)]
theorem gV {α:Type}{f:α->List AV}{H:ai}{k sz n:Nat}{y:α}{acc:List α}(b:∀x,aM (snap H n) (f x)=some (f x))(c:H.get k=some (.arr sz (f y::acc.map f))) :
 snap H (n+1) (.az k 0 ((acc.map f).length+1) sz)=some (.ak sz (f y::acc.map f)):=by
 have d:aM (aM (snap H n)) (f y::acc.map f)=some _:=sn (by simp[b])
 have e:List.take ((acc.map f).length+1) (List.drop 0 (f y::acc.map f))=f y::acc.map f:=by grind
 have a:(sz == sz && ble (0+((acc.map f).length+1)) (f y::acc.map f).length)=true:=ag;simp only[snap,c,a,e,d]
theorem qQ {α:Type}{f:α->List AV}{H:ai}{k sz:Nat}{y:α}{acc:List α}(b:∀x,aM (snap H 19) (f x)=some (f x))(a:H.get k=some (.arr sz (f y::acc.map f))) :
 snap H 20 (.az k 0 ((acc.map f).length+1) sz)=some (.ak sz (f y::acc.map f)):=gV b a
theorem Ni {n:Int}(h : -2147483648≤n)(a:n<2147483648):wr .i32 n=n:=by
 unfold wr IntKind.wrap IntKind.bits IntKind.signed
 grind
theorem D9 {n:Int}(h:0≤n)(a:n<256):wr .u8 n=n:=by
 unfold wr IntKind.wrap IntKind.bits IntKind.signed
 grind
theorem JW (n:Int)(c:Int)(e:0≤n∧n≤32):af 269 [i64 n,.int .i32 c] (fun d=>∃(m:Int) (b:Bool),d = .ret (.ao [i64 m,.bool b])∧(b=true->1≤m∧m≤32)):=by
 refine zw func269 ?_;refine zg ?_
 repeat' ((refine zp ?_ ?_<;>intro h)<;>refine zg ?_)
 all_goals first|exact⟨_,_,rfl,fun h=>absurd h ab⟩|(refine⟨_,_,rfl,fun _=>?_⟩;rw[aF (n:=10 * n) aa aa,Ni (n:=c - 48) aa aa,aF (n:=c - 48) aa aa,aF (n:=10 * n+(c - 48)) aa aa] at h ⊢;omega)
theorem SJ (s r:BL UInt8):af 192 [.str s.l,.str r.l] (ca fun _=>True):=by
 refine zw func192 ?_;have c:=s.h;have b:=r.h;refine zg ?_
 repeat' ((refine zp ?_ ?_<;>intro h)<;>refine zg ?_)
 all_goals first|exact⟨_,rfl,trivial⟩|skip
 refine DW.aO aC aD [0,4,15,16] [] 0 (fun i:Nat=>[(17,i64 i)]) (fun _=>[]) [] (fun i=>r.l.length+1 - i) (0) ?_
 refine zl fun i=>?_
 refine zg ?_
 repeat' ((refine zp ?_ ?_<;>first|exact⟨⟩|intro h)<;>refine zg ?_)
 all_goals first|exact⟨_,rfl,trivial⟩|exact zi (i+1)
end Go.Ago
section
namespace Go.Proofs
open List Nat
def Tryz.Un:Go.Shelf.Ren:=⟨fun|144=>138|143=>185|219=>234|217=>265|225=>266|224=>267|267=>268|266=>300|314=>301|n=>n,fun|9=>9|4=>4|3=>3|5=>5|46=>169|146=>341|51=>265|n=>n,fun|1=>2|n=>n⟩
theorem Tryz.Um:Go.Proofs.Lays.n144 prog Tryz.Un:={
 mixed:=by kernel_rfl
 f143:=func185.trans (congrArg some (by kernel_rfl))
 f144:=func138.trans (congrArg some (by kernel_rfl))
 f217:=func265.trans (congrArg some (by kernel_rfl))
 f219:=func234.trans (congrArg some (by kernel_rfl))
 f224:=func267.trans (congrArg some (by kernel_rfl))
 f225:=func266.trans (congrArg some (by kernel_rfl))
 f266:=func300.trans (congrArg some (by kernel_rfl))
 f267:=func268.trans (congrArg some (by kernel_rfl))
 f314:=func301.trans (congrArg some (by kernel_rfl))
 t3:=underlying3
 a3:=isAgg3
 z3:=sizeOf3
 v3:=zeroValue3
 t4:=underlying4
 a4:=isAgg4
 z4:=sizeOf4
 v4:=zeroValue4
 t5:=underlying5
 a5:=isAgg5
 z5:=sizeOf5
 v5:=zeroValue5
 t9:=underlying9
 a9:=isAgg9
 z9:=sizeOf9
 v9:=zeroValue9
 t46:=underlying169
 a46:=isAgg169
 z46:=sizeOf169
 v46:=zeroValue169
 t51:=underlying265
 a51:=isAgg265
 z51:=sizeOf265
 v51:=zeroValue265
 t146:=underlying341
 a146:=isAgg341
 z146:=sizeOf341
 v146:=zeroValue341
 g1:=by kernel_rfl }
end Go.Proofs
namespace Go.Ago
open Go.Proofs List Nat Tryz
def rC (s:List UInt8)(c:UInt8):Bool:=decide (0≤Lib.indexByte s c)
theorem pR (s:List UInt8)(c:UInt8):af 138 [.str s,.str [c]] (fun d=>d = .ret (.bool (rC s c))):=by
 refine⟨.ret (.bool (rC s c)),PC.qw ⟨_,func138,rfl,ab⟩ fun l w g m b=>?_,rfl⟩
 obtain⟨f,b⟩:=b
 match g,f with
 | [v, u], _ =>
   have i:=b 0 _ _ rfl rfl;have h:=b 1 _ _ rfl rfl;cases i;cases h;refine(Any.strings_Contains_one Tryz.Um ⟨s.toArray⟩ c w).mono ?_
   rintro e k ⟨rfl,rfl⟩
   exact⟨rfl,.ret (.bool (rC s c)),.bool _,rfl⟩
end Go.Ago
end
section
namespace Go.Proofs
open List Nat
open Go.Shelf
def Tryz.Uj:Go.Shelf.Ren:=⟨fun|137=>302|217=>265|266=>300|n=>n,fun|9=>9|5=>5|3=>3|n=>n,fun|n=>n⟩
theorem Tryz.Ui:Go.Proofs.Lays.n137 prog Tryz.Uj:={
 mixed:=by kernel_rfl
 f137:=func302.trans (congrArg some (by kernel_rfl))
 f217:=func265.trans (congrArg some (by kernel_rfl))
 f266:=func300.trans (congrArg some (by kernel_rfl))
 t3:=underlying3
 a3:=isAgg3
 z3:=sizeOf3
 v3:=zeroValue3
 t5:=underlying5
 a5:=isAgg5
 z5:=sizeOf5
 v5:=zeroValue5
 t9:=underlying9
 a9:=isAgg9
 z9:=sizeOf9
 v9:=zeroValue9 }
def Tryz.Up:Go.Shelf.Ren:=⟨fun|149=>311|222=>334|n=>n,fun|9=>9|5=>5|3=>3|4=>4|n=>n,fun|n=>n⟩
theorem Tryz.Uo:Go.Proofs.Lays.n149 prog Tryz.Up:={
 mixed:=by kernel_rfl
 f149:=func311.trans (congrArg some (by kernel_rfl))
 f222:=func334.trans (congrArg some (by kernel_rfl))
 t3:=underlying3
 a3:=isAgg3
 z3:=sizeOf3
 v3:=zeroValue3
 t4:=underlying4
 a4:=isAgg4
 z4:=sizeOf4
 v4:=zeroValue4
 t5:=underlying5
 a5:=isAgg5
 z5:=sizeOf5
 v5:=zeroValue5
 t9:=underlying9
 a9:=isAgg9
 z9:=sizeOf9
 v9:=zeroValue9 }
def Tryz.Ug:Go.Shelf.Ren:=⟨fun|100=>279|207=>309|n=>n,fun|9=>9|4=>4|3=>3|n=>n,fun|n=>n⟩
theorem Tryz.Uf:Go.Proofs.Lays.n100 prog Tryz.Ug:={
 mixed:=by kernel_rfl
 f100:=func279.trans (congrArg some (by kernel_rfl))
 f207:=func309.trans (congrArg some (by kernel_rfl))
 t3:=underlying3
 a3:=isAgg3
 z3:=sizeOf3
 v3:=zeroValue3
 t4:=underlying4
 a4:=isAgg4
 z4:=sizeOf4
 v4:=zeroValue4
 t9:=underlying9
 a9:=isAgg9
 z9:=sizeOf9
 v9:=zeroValue9 }
def Tryz.Ul:Go.Shelf.Ren:=⟨fun|138=>310|195=>332|218=>333|143=>185|219=>234|217=>265|225=>266|224=>267|267=>268|266=>300|314=>301|n=>n,fun|9=>9|3=>3|4=>4|5=>5|0=>0|46=>169|146=>341|51=>265|n=>n,fun|1=>2|n=>n⟩
theorem Tryz.Uk:Go.Proofs.Lays.n138 prog Tryz.Ul:={
 mixed:=by kernel_rfl
 f138:=func310.trans (congrArg some (by kernel_rfl))
 f143:=func185.trans (congrArg some (by kernel_rfl))
 f195:=func332.trans (congrArg some (by kernel_rfl))
 f217:=func265.trans (congrArg some (by kernel_rfl))
 f218:=func333.trans (congrArg some (by kernel_rfl))
 f219:=func234.trans (congrArg some (by kernel_rfl))
 f224:=func267.trans (congrArg some (by kernel_rfl))
 f225:=func266.trans (congrArg some (by kernel_rfl))
 f266:=func300.trans (congrArg some (by kernel_rfl))
 f267:=func268.trans (congrArg some (by kernel_rfl))
 f314:=func301.trans (congrArg some (by kernel_rfl))
 t0:=underlying0
 a0:=isAgg0
 z0:=sizeOf0
 v0:=zeroValue0
 t3:=underlying3
 a3:=isAgg3
 z3:=sizeOf3
 v3:=zeroValue3
 t4:=underlying4
 a4:=isAgg4
 z4:=sizeOf4
 v4:=zeroValue4
 t5:=underlying5
 a5:=isAgg5
 z5:=sizeOf5
 v5:=zeroValue5
 t9:=underlying9
 a9:=isAgg9
 z9:=sizeOf9
 v9:=zeroValue9
 t46:=underlying169
 a46:=isAgg169
 z46:=sizeOf169
 v46:=zeroValue169
 t51:=underlying265
 a51:=isAgg265
 z51:=sizeOf265
 v51:=zeroValue265
 t146:=underlying341
 a146:=isAgg341
 z146:=sizeOf341
 v146:=zeroValue341
 g1:=by kernel_rfl }
def Tryz.Ur:Go.Shelf.Ren:=⟨fun|150=>240|153=>278|152=>307|226=>308|227=>273|228=>303|137=>302|119=>331|224=>267|225=>266|217=>265|266=>300|n=>n,fun|9=>9|4=>4|3=>3|5=>5|21=>21|117=>320|116=>319|0=>0|46=>169|124=>323|n=>n,fun|n=>n⟩
theorem Tryz.Uq:Go.Proofs.Lays.n150 prog Tryz.Ur:={
 mixed:=by kernel_rfl
 f119:=func331.trans (congrArg some (by kernel_rfl))
 f137:=func302.trans (congrArg some (by kernel_rfl))
 f150:=func240.trans (congrArg some (by kernel_rfl))
 f152:=func307.trans (congrArg some (by kernel_rfl))
 f153:=func278.trans (congrArg some (by kernel_rfl))
 f217:=func265.trans (congrArg some (by kernel_rfl))
 f224:=func267.trans (congrArg some (by kernel_rfl))
 f225:=func266.trans (congrArg some (by kernel_rfl))
 f226:=func308.trans (congrArg some (by kernel_rfl))
 f227:=func273.trans (congrArg some (by kernel_rfl))
 f228:=func303.trans (congrArg some (by kernel_rfl))
 f266:=func300.trans (congrArg some (by kernel_rfl))
 t0:=underlying0
 a0:=isAgg0
 z0:=sizeOf0
 v0:=zeroValue0
 t3:=underlying3
 a3:=isAgg3
 z3:=sizeOf3
 v3:=zeroValue3
 t4:=underlying4
 a4:=isAgg4
 z4:=sizeOf4
 v4:=zeroValue4
 t5:=underlying5
 a5:=isAgg5
 z5:=sizeOf5
 v5:=zeroValue5
 t9:=underlying9
 a9:=isAgg9
 z9:=sizeOf9
 v9:=zeroValue9
 t21:=underlying21
 a21:=isAgg21
 z21:=sizeOf21
 v21:=zeroValue21
 t46:=underlying169
 a46:=isAgg169
 z46:=sizeOf169
 v46:=zeroValue169
 t116:=underlying319
 a116:=isAgg319
 z116:=sizeOf319
 t117:=underlying320
 a117:=isAgg320
 z117:=sizeOf320
 v117:=zeroValue320
 t124:=underlying323
 a124:=isAgg323
 z124:=sizeOf323
 v124:=zeroValue323 }
def Tryz.HZ:Go.Shelf.Ren:=⟨fun|105=>288|212=>318|99=>319|165=>320|166=>321|170=>322|169=>323|263=>339|264=>340|206=>341|240=>342|241=>343|276=>348|277=>349|n=>n,fun|9=>9|3=>3|4=>4|20=>20|0=>0|46=>169|109=>356|5=>5|72=>360|76=>290|51=>265|146=>341|53=>128|148=>374|70=>358|37=>267|75=>289|127=>376|164=>384|80=>361|n=>n,fun|n=>n⟩
theorem Tryz.Uh:Go.Proofs.Lays.n105 prog Tryz.HZ:={
 mixed:=by kernel_rfl
 f99:=func319.trans (congrArg some (by kernel_rfl))
 f105:=func288.trans (congrArg some (by kernel_rfl))
 f165:=func320.trans (congrArg some (by kernel_rfl))
 f166:=func321.trans (congrArg some (by kernel_rfl))
 f169:=func323.trans (congrArg some (by kernel_rfl))
 f170:=func322.trans (congrArg some (by kernel_rfl))
 f206:=func341.trans (congrArg some (by kernel_rfl))
 f212:=func318.trans (congrArg some (by kernel_rfl))
 f240:=func342.trans (congrArg some (by kernel_rfl))
 f241:=func343.trans (congrArg some (by kernel_rfl))
 f263:=func339.trans (congrArg some (by kernel_rfl))
 f264:=func340.trans (congrArg some (by kernel_rfl))
 f276:=func348.trans (congrArg some (by kernel_rfl))
 f277:=func349.trans (congrArg some (by kernel_rfl))
 t0:=underlying0
 a0:=isAgg0
 z0:=sizeOf0
 v0:=zeroValue0
 t3:=underlying3
 a3:=isAgg3
 z3:=sizeOf3
 v3:=zeroValue3
 t4:=underlying4
 a4:=isAgg4
 z4:=sizeOf4
 v4:=zeroValue4
 t5:=underlying5
 a5:=isAgg5
 z5:=sizeOf5
 v5:=zeroValue5
 t9:=underlying9
 a9:=isAgg9
 z9:=sizeOf9
 v9:=zeroValue9
 t20:=underlying20
 a20:=isAgg20
 z20:=sizeOf20
 v20:=zeroValue20
 t37:=underlying267
 a37:=isAgg267
 z37:=sizeOf267
 v37:=zeroValue267
 t46:=underlying169
 a46:=isAgg169
 z46:=sizeOf169
 v46:=zeroValue169
 t51:=underlying265
 a51:=isAgg265
 z51:=sizeOf265
 v51:=zeroValue265
 t53:=underlying128
 a53:=isAgg128
 z53:=sizeOf128
 v53:=zeroValue128
 t70:=underlying358
 a70:=isAgg358
 z70:=sizeOf358
 v70:=zeroValue358
 t72:=underlying360
 a72:=isAgg360
 z72:=sizeOf360
 v72:=zeroValue360
 t75:=underlying289
 a75:=isAgg289
 z75:=sizeOf289
 v75:=zeroValue289
 t76:=underlying290
 a76:=isAgg290
 z76:=sizeOf290
 v76:=zeroValue290
 t109:=underlying356
 a109:=isAgg356
 z109:=sizeOf356
 v109:=zeroValue356
 t127:=underlying376
 a127:=isAgg376
 z127:=sizeOf376
 v127:=zeroValue376
 t146:=underlying341
 a146:=isAgg341
 z146:=sizeOf341
 v146:=zeroValue341
 t148:=underlying374
 a148:=isAgg374
 z148:=sizeOf374
 v148:=zeroValue374
 t164:=underlying384
 a164:=isAgg384
 z164:=sizeOf384
 v164:=zeroValue384 }
theorem Tryz.Nt:Builder.Extra prog Tryz.HZ:={
 sizeBuilder:=by kernel_rfl
 liesBuilder:=by kernel_rfl
 t5:=underlying5
 a5:=isAgg5
 z5:=sizeOf5
 v5:=zeroValue5
 infoByte:=by kernel_rfl
 cellsByte:=by kernel_rfl
 sizeByte:=by kernel_rfl
 neB5:=by decide }
end Go.Proofs
namespace Go.Ago
open Go.Proofs Go.Shelf List Nat Tryz
theorem PC.xG {P:Program}{E:Env}{g:FuncId}{args:List AV}{Q:AE->Prop}(i:rf P g)
 (h:∀c w vs,aN E.bR c w .nil->aQ c w args vs->Calls P g vs.toArray w fun e w'=>Go.RowKit.Below w.heap.size w w'∧∃f,lS c w f e∧f.flat=true∧Q f):PC P E g args Q:=by
 refine⟨i,fun c w vs m j p=>(h c w _ j p).mono ?_⟩
 rintro e w' ⟨a,f,l,o,q⟩
 obtain⟨n,s⟩:=j.same (ag) (fun b k=>Nat.lt_of_lt_of_le (j.bH b k) a.size) (ag) a.size (fun b d=>a.block b d)
 exact⟨c,f,⟨.refl c,a.os,a.tape,a.output,a.size,fun b d _=>a.block b d,fun b a => .inl a,fun b a => .inl a⟩,m,n,wX l o,q⟩
theorem JN {c:Ctx}{w:World}{x:AV}{vs:List Value}(h:aQ c w [x] vs):∃v,vs=[v]∧Rel c w x v:=by
 obtain⟨v,b,rfl,d,a⟩:=h.dT;obtain rfl:=a.fY
 grind
theorem qC {c:Ctx}{w:World}{x y:AV}{vs:List Value}(h:aQ c w [x,y] vs):∃v u,vs=[v,u]∧Rel c w x v∧Rel c w y u:=by
 obtain⟨v,e,rfl,d,a⟩:=h.dT;obtain⟨u,rfl,b⟩:=JN a
 grind
def fM (s:List UInt8)(c:Int):Int:=Lib.indexByte s c.toNat.toUInt8
theorem kd (s:List UInt8)(c:Int):af 302 [.str s,.int .u8 c] (fun d=>d = .ret (i64 (fM s c))):=by
 refine⟨.ret _,PC.qw ⟨_,func302,rfl,ab⟩ fun l w j k f=>?_,rfl⟩
 obtain⟨v,u,rfl,b,g⟩:=qC f;cases b;cases g;refine(Any.strings_IndexByte Tryz.Ui _ c w).mono ?_
 rintro e i ⟨rfl,rfl⟩
 exact⟨rfl,.ret _,.int .i64 _,rfl⟩
theorem xp (s:List UInt8)(c:Int)(k:s.length<281474976710656):af 311 [.str s,.int .u8 c] (fun f=>f = .ret (i64 (Lib.lastIndexByte ⟨s.toArray⟩ c))):=by
 refine⟨.ret _,PC.qw ⟨_,func311,rfl,ab⟩ fun l w m n b=>?_,rfl⟩
 obtain⟨v,u,rfl,h,g⟩:=qC b;cases h;cases g;refine(Any.strings_LastIndexByte Tryz.Uo ⟨s.toArray⟩ c (by simp only[ByteArray.size,size_toArray];omega) w).mono ?_
 rintro e j ⟨rfl,rfl⟩
 exact⟨rfl,.ret _,.int .i64 _,rfl⟩
theorem SD (s t:List UInt8)(j:s.length<281474976710656):af 279 [.str s,.str t] (fun d=>d = .ret (.bool (Lib.hasSuffix s t))):=by
 refine⟨.ret (.bool (Lib.hasSuffix s t)),PC.qw ⟨_,func279,rfl,ab⟩ fun k w l m c=>?_,rfl⟩
 obtain⟨v,u,rfl,g,f⟩:=qC c;cases g;cases f;refine(Any.strings_HasSuffix Tryz.Uf ⟨s.toArray⟩ ⟨t.toArray⟩ w (by simp only[ByteArray.size,size_toArray];omega)).mono ?_
 rintro e i ⟨rfl,rfl⟩
 exact⟨rfl,.ret _,.bool _,rfl⟩
theorem wC (s:List UInt8)(c:UInt8):af 310 [.str s,.str [c]] (fun f=>f = .ret (i64 (Lib.countByte s c))):=by
 refine⟨.ret (i64 (Lib.countByte s c)),PC.qw ⟨_,func310,rfl,ab⟩ fun m w k l d=>?_,rfl⟩
 obtain⟨v,u,rfl,h,g⟩:=qC d;cases h;cases g;refine(Any.strings_Count_one Tryz.Uk ⟨s.toArray⟩ c w).mono ?_
 rintro e j ⟨rfl,rfl⟩
 exact⟨rfl,.ret _,.int .i64 _,rfl⟩
def kr (s:List UInt8):Prop:=∀(j:Nat) b,s[j]? = some b->b.toNat<128
theorem FY (s t:List UInt8)(h:s.length<4294967281)(i:t.length<4294967281)(d:kr s)(f:kr t):af 240 [.str s,.str t] (fun g=>g = .ret (.bool (Lib.containsAny s t))):=by
 refine⟨.ret (.bool (Lib.containsAny s t)),PC.xG ⟨_,func240,rfl,ab⟩ fun p w n o l=>?_,rfl⟩
 obtain⟨v,u,rfl,k,j⟩:=qC l;cases k;cases j;refine(Any.strings_ContainsAny_laid Tryz.Uq aG ⟨s.toArray⟩ ⟨t.toArray⟩ w (by simpa[ByteArray.size] using h) (by simpa[ByteArray.size] using i) (by simpa[kr] using d) (by simpa[kr] using f)).mono ?_
 rintro e q ⟨rfl,c⟩
 exact⟨c,.ret _,.bool _,rfl,rfl⟩
theorem JV (s:List UInt8)(n:Int)(f:s.length≤4)(g:0≤n∧n≤1000):af 288 [.str s,i64 n] (fun d=>d = .ret (.str (Lib.repeatL s n.toNat))):=by
 refine⟨.ret (.str (Lib.repeatL s n.toNat)),PC.xG ⟨_,func288,rfl,ab⟩ fun q w o m i=>?_,rfl⟩
 obtain⟨v,u,rfl,h,j⟩:=qC i;cases h;cases j;obtain⟨k,rfl⟩:=Int.eq_ofNat_of_zero_le g.1;have p:s.length * k≤4 * 1000:=Nat.mul_le_mul f aa;refine(Any.strings_Repeat Tryz.Uh Tryz.Nt ⟨s.toArray⟩ k w aa (by show s.toArray.size * k≤_;rw[size_toArray];omega)).mono ?_
 rintro e r ⟨rfl,c⟩
 exact⟨c,.ret _,.str _,rfl,rfl⟩
end Go.Ago
end
section
namespace Go.Proofs
open List Nat
open Go.Shelf
def Tryz.Uv:Go.Shelf.Ren:=⟨fun|172=>244|244=>285|245=>286|247=>313|279=>314|280=>315|281=>316|282=>317|287=>335|316=>336|171=>338|205=>337|321=>345|322=>346|243=>347|246=>350|283=>351|284=>352|285=>353|286=>354|129=>218|317=>355|318=>356|319=>357|320=>358|337=>359|338=>360|n=>n,fun|9=>9|3=>3|75=>289|76=>290|4=>4|5=>5|167=>350|37=>267|0=>0|85=>351|2=>2|168=>353|53=>128|175=>367|46=>169|210=>370|127=>376|145=>383|143=>381|21=>21|171=>388|173=>390|212=>393|51=>265|20=>20|213=>394|232=>395|233=>396|80=>361|n=>n,fun|15=>4|16=>5|17=>8|18=>9|19=>10|n=>n⟩
theorem Tryz.Uu:Go.Proofs.Lays.n172 prog Tryz.Uv:={
 mixed:=by kernel_rfl
 f129:=func218.trans (congrArg some (by kernel_rfl))
 f171:=func338.trans (congrArg some (by kernel_rfl))
 f172:=func244.trans (congrArg some (by kernel_rfl))
 f205:=func337.trans (congrArg some (by kernel_rfl))
 f243:=func347.trans (congrArg some (by kernel_rfl))
 f244:=func285.trans (congrArg some (by kernel_rfl))
 f245:=func286.trans (congrArg some (by kernel_rfl))
 f246:=func350.trans (congrArg some (by kernel_rfl))
 f247:=func313.trans (congrArg some (by kernel_rfl))
 f279:=func314.trans (congrArg some (by kernel_rfl))
 f280:=func315.trans (congrArg some (by kernel_rfl))
 f281:=func316.trans (congrArg some (by kernel_rfl))
 f282:=func317.trans (congrArg some (by kernel_rfl))
 f283:=func351.trans (congrArg some (by kernel_rfl))
 f284:=func352.trans (congrArg some (by kernel_rfl))
 f285:=func353.trans (congrArg some (by kernel_rfl))
 f286:=func354.trans (congrArg some (by kernel_rfl))
 f287:=func335.trans (congrArg some (by kernel_rfl))
 f316:=func336.trans (congrArg some (by kernel_rfl))
 f317:=func355.trans (congrArg some (by kernel_rfl))
 f318:=func356.trans (congrArg some (by kernel_rfl))
 f319:=func357.trans (congrArg some (by kernel_rfl))
 f320:=func358.trans (congrArg some (by kernel_rfl))
 f321:=func345.trans (congrArg some (by kernel_rfl))
 f322:=func346.trans (congrArg some (by kernel_rfl))
 f337:=func359.trans (congrArg some (by kernel_rfl))
 f338:=func360.trans (congrArg some (by kernel_rfl))
 t0:=underlying0
 a0:=isAgg0
 z0:=sizeOf0
 v0:=zeroValue0
 t2:=underlying2
 a2:=isAgg2
 z2:=sizeOf2
 v2:=zeroValue2
 t3:=underlying3
 a3:=isAgg3
 z3:=sizeOf3
 v3:=zeroValue3
 t4:=underlying4
 a4:=isAgg4
 z4:=sizeOf4
 v4:=zeroValue4
 t5:=underlying5
 a5:=isAgg5
 z5:=sizeOf5
 v5:=zeroValue5
 t9:=underlying9
 a9:=isAgg9
 z9:=sizeOf9
 v9:=zeroValue9
 t20:=underlying20
 a20:=isAgg20
 z20:=sizeOf20
 v20:=zeroValue20
 t21:=underlying21
 a21:=isAgg21
 z21:=sizeOf21
 v21:=zeroValue21
 t37:=underlying267
 a37:=isAgg267
 z37:=sizeOf267
 v37:=zeroValue267
 t46:=underlying169
 a46:=isAgg169
 z46:=sizeOf169
 v46:=zeroValue169
 t51:=underlying265
 a51:=isAgg265
 z51:=sizeOf265
 v51:=zeroValue265
 t53:=underlying128
 a53:=isAgg128
 z53:=sizeOf128
 v53:=zeroValue128
 t75:=underlying289
 a75:=isAgg289
 z75:=sizeOf289
 v75:=zeroValue289
 t76:=underlying290
 a76:=isAgg290
 z76:=sizeOf290
 v76:=zeroValue290
 t85:=underlying351
 a85:=isAgg351
 z85:=sizeOf351
 v85:=zeroValue351
 t127:=underlying376
 a127:=isAgg376
 z127:=sizeOf376
 v127:=zeroValue376
 t143:=underlying381
 a143:=isAgg381
 z143:=sizeOf381
 v143:=zeroValue381
 t145:=underlying383
 a145:=isAgg383
 z145:=sizeOf383
 v145:=zeroValue383
 t167:=underlying350
 a167:=isAgg350
 z167:=sizeOf350
 v167:=zeroValue350
 t168:=underlying353
 a168:=isAgg353
 z168:=sizeOf353
 v168:=zeroValue353
 t171:=underlying388
 a171:=isAgg388
 z171:=sizeOf388
 v171:=zeroValue388
 t173:=underlying390
 a173:=isAgg390
 z173:=sizeOf390
 v173:=zeroValue390
 t175:=underlying367
 a175:=isAgg367
 z175:=sizeOf367
 v175:=zeroValue367
 t210:=underlying370
 a210:=isAgg370
 z210:=sizeOf370
 v210:=zeroValue370
 t212:=underlying393
 a212:=isAgg393
 z212:=sizeOf393
 v212:=zeroValue393
 t213:=underlying394
 a213:=isAgg394
 z213:=sizeOf394
 t232:=underlying395
 a232:=isAgg395
 z232:=sizeOf395
 v232:=zeroValue395
 t233:=underlying396
 a233:=isAgg396
 z233:=sizeOf396
 v233:=zeroValue396
 g15:=by kernel_rfl
 g16:=by kernel_rfl
 g17:=by kernel_rfl
 g18:=by kernel_rfl
 g19:=by kernel_rfl }
end Go.Proofs
namespace Go.Ago
open Go.Proofs Go.Shelf List Nat Tryz
def tE (s:List UInt8):Prop:=∀b∈s,48≤b.toNat∧b.toNat≤57
theorem F0:∀(s:List UInt8) (a:Nat),tE s->∃n,Lib.decFrom a s=some n
 | [],a,_=>⟨a,rfl⟩
 | b :: s, a, h => by
   have f:=h b (ag);simp[Lib.decFrom,Lib.digitVal,f];exact F0 s _ fun x e=>h x (mem_cons_of_mem _ e)
theorem Oh (s:List UInt8)(h:tE s)(h0:s≠[]):∃n,Lib.atoi s=some n:=by
 cases s with
 | nil=>grind
 | cons b r =>
   obtain⟨n,f⟩:=F0 _ 0 h;have i:=h b (ag);have g:(b == 45)=false:=by rw[beq_eq_false_iff_ne];rintro rfl;grind
   have d:(b == 43)=false:=by rw[beq_eq_false_iff_ne];rintro rfl;grind
   exact⟨n,by simp[Lib.atoi,g,d,Lib.decNat,f]⟩
theorem Og (s:List UInt8)(h:tE s)(h0:s≠[])(d:s.length≤18):af 244 [.str s] (fun g=>∃n:Int,g = .ret (.ao [i64 n,.eH])):=by
 obtain⟨n,f⟩:=Oh s h h0;refine⟨.ret (.ao [i64 n,.eH]),PC.xG ⟨_,func244,rfl,ab⟩ fun i w m l j=>?_,n,rfl⟩
 obtain⟨v,rfl,h0⟩:=JN j;cases h0;refine(Any.strconv_Atoi Tryz.Uu ⟨s.toArray⟩ n (by simpa[ByteArray.size] using d) (by simpa using f) w).mono ?_
 rintro e o ⟨rfl,t,rfl⟩
 refine⟨Go.Lib.bytesWorld_below _ _ _,.ret _,?_,rfl,rfl⟩
 . have := aQ.cons (c := i) (w := w) (.int .i64 n) (.cons .eH .nil)
   exact .ao this.1 this.2
theorem vi {l:List (List AV)}{n:Nat}(h:n=l.length):(l.drop 0).take n=l:=by grind
theorem Qz (s:List UInt8)(p:Nat):1≤hU s p:=Go.Lib.width_pos _ _
theorem Qy (s:List UInt8)(p:Nat):0≤jI s p:=Int.natCast_nonneg _
end Go.Ago
namespace Go.Ago
open Go.Proofs List Nat Tryz
attribute [local irreducible] bN bM aZ bK b_ wr bp bL comp DC DP DW DV DY
structure Nw (s:List UInt8) where
 pos:Nat
 st:Int
 n:Int
 acc:List Int
 dw:st=0∨st=1∨st=2
 hn:0≤n∧n≤32
 h2:st=2->1≤n
 ha:∀a∈acc,0≤a∧a<128
 hl:acc.length≤32
structure Ev (b:Nat) where
 j:Nat
 l:List Int
 hl:l.length=b+j
 hj:b+j≤32
 ha:∀a∈l,0≤a∧a<128
theorem ZS {t:Int}(h:0≤t∧t<128):0≤wr .u8 t∧wr .u8 t<128:=by rw[D9 aa aa];exact h
theorem rW {l:List Int}{t:Int}(h:∀a∈l,0≤a∧a<128)(c:0≤t∧t<128):∀a∈l++[wr .u8 t],0≤a∧a<128:=by
 intro a d;rcases mem_append.1 d with b|b
 . grind
 rw[mem_singleton] at b;subst b;exact ZS c
theorem Qx (s:List UInt8)(p:Nat):jI s p≤1114111:=by
 have:=Go.Lib.rune_le ⟨s.toArray⟩ p;show((Utf8.decode _ _).1:Int)≤_;omega
theorem EM {l:List Int}(h:∀a∈l,0≤a∧a<128):kr (l.map fun n=>UInt8.ofNat n.toNat):=by
 intro j b d;rw[getElem?_map,Option.map_eq_some_iff] at *;obtain⟨a,c,rfl⟩:=d;have:=h a (mem_of_getElem? c);rw[UInt8.toNat_ofNat'];omega
theorem ud {l:List Int}:kC (l.map fun n=>[AV.int .u8 n])=some [.str (l.map fun n=>UInt8.ofNat n.toNat)]:=by
 have:∀l:List _,pN (l.map fun n=>[AV.int .u8 n])=some (l.map fun n=>UInt8.ofNat n.toNat):=by
  intro l
  induction l with
  | nil=>rfl
  | cons a l e=>simp[pN,e]
 simp[kC,this]
end Go.Ago
end
