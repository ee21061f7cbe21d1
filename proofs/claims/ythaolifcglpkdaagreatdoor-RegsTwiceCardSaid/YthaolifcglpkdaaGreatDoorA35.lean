/-
  Part A35: lemmas, each with its own conditions.
-/
import Derived.Test.YthaolifcglpkdaaGreatDoorA34
set_option maxRecDepth 100000
set_option maxHeartbeats 0
set_option linter.all false
namespace Go.Ago
open Go.Proofs List Nat
structure SimI (x y:Ins):Prop where
 eq:y={ x with d:=y.d,a:=y.a,b:=y.b,l:=y.l,n:=y.n,m:=y.m }
 n:x.op≠14->x.op≠15->x.op≠16->y.n=x.n
 m:x.op≠28->x.op≠29->y.m=x.m
 d:(x.d = -1∧y.d = -1)∨(0≤x.d∧0≤y.d)
 a:(x.a = -1∧y.a = -1)∨(0≤x.a∧0≤y.a)
 b:(x.b = -1∧y.b = -1)∨(0≤x.b∧0≤y.b)
 l:y.l.l.length=x.l.l.length
theorem SimI.op {x y:Ins}(h:SimI x y):y.op=x.op:=by rw[h.eq]
theorem SimI.p {x y:Ins}(h:SimI x y):y.p=x.p:=by rw[h.eq]
theorem SimI.bare {x y:Ins}(h:SimI x y)(r:iu x):iu y:=by
 have s:=h.op;have g:=r.2;have F:y.t=x.t:=by rw[h.eq]
 have G:y.u=x.u:=by rw[h.eq]
 have z:y.w=x.w:=by rw[h.eq]
 have E:y.v=x.v:=by rw[h.eq]
 have A:y.f=x.f:=by rw[h.eq]
 have B:y.y=x.y:=by rw[h.eq]
 have C:y.size=x.size:=by rw[h.eq]
 have D:y.range=x.range:=by rw[h.eq]
 refine⟨by rw[s];exact r.1,fun e o=>?_⟩
 rw[s];unfold gM at o g;simp only[mem_cons,not_mem_nil,or_false] at o g;have j:∀{p q:Int} {c:UInt8},((p = -1∧q = -1)∨(0≤p∧0≤q))->(aZ p (-1)=true∨hasB x.op c=true)->(aZ q (-1)=true∨hasB x.op c=true):=fun i H=>by
  refine H.imp (fun I=>?_) id
  rw[mZ] at I ⊢;rcases i with i|i
  . exact i.2
  . omega
 rcases o with rfl|rfl|rfl|rfl|rfl|rfl|rfl|rfl|rfl|rfl|rfl|rfl|rfl|rfl|rfl
 . exact j h.d (g (68,aZ x.d (-1)) ag)
 . exact j h.a (g (65,aZ x.a (-1)) ag)
 . exact j h.b (g (66,aZ x.b (-1)) ag)
 . have := g (76, aZ ((x.l.l.map fun n => [i64 n]).length : Int) 0) ag
   simp only[length_map] at this ⊢;rw[h.l];exact this
 . rw[F];exact g _ (.inr (.inr (.inr (.inr (.inl rfl)))))
 . rw[G];exact g _ (.inr (.inr (.inr (.inr (.inr (.inl rfl))))))
 . rw[z];exact g _ (.inr (.inr (.inr (.inr (.inr (.inr (.inl rfl)))))))
 . by_cases i : x.op = 14 ∨ x.op = 15 ∨ x.op = 16
   . refine .inr ?_
     rcases i with i|i|i<;>(rw[i];rfl)
   . rw[h.n aa aa aa];exact g _ (.inr (.inr (.inr (.inr (.inr (.inr (.inr (.inl rfl))))))))
 . by_cases i : x.op = 28 ∨ x.op = 29
   . refine .inr ?_
     rcases i with i|i<;>(rw[i];rfl)
   . rw[h.m aa aa];exact g _ (.inr (.inr (.inr (.inr (.inr (.inr (.inr (.inr (.inl rfl)))))))))
 . rw[h.p];exact g _ (.inr (.inr (.inr (.inr (.inr (.inr (.inr (.inr (.inr (.inl rfl))))))))))
 . rw[E];exact g _ (.inr (.inr (.inr (.inr (.inr (.inr (.inr (.inr (.inr (.inr (.inl rfl)))))))))))
 . rw[A];exact g _ (.inr (.inr (.inr (.inr (.inr (.inr (.inr (.inr (.inr (.inr (.inr (.inl rfl))))))))))))
 . rw[B];exact g _ (.inr (.inr (.inr (.inr (.inr (.inr (.inr (.inr (.inr (.inr (.inr (.inr (.inl rfl)))))))))))))
 . rw[C];exact g _ (.inr (.inr (.inr (.inr (.inr (.inr (.inr (.inr (.inr (.inr (.inr (.inr (.inr (.inl rfl))))))))))))))
 . rw[D];exact g _ (.inr (.inr (.inr (.inr (.inr (.inr (.inr (.inr (.inr (.inr (.inr (.inr (.inr (.inr rfl))))))))))))))
theorem Vx {d a:Int}:iu (cq d a):=by
 refine⟨⟨(by show(1:Int)≤3;omega),(by show(3:Int)≤38;omega)⟩,fun e b=>?_⟩
 unfold gM at b
 simp_all
 rcases b with rfl|rfl|rfl|rfl|rfl|rfl|rfl|rfl|rfl|rfl|rfl|rfl|rfl|rfl|rfl
 . exact .inr rfl
 . exact .inr rfl
 all_goals exact .inl rfl
structure zW (k k':Kc)(x y:Ins):Prop extends SimI x y where
 hp:k'.c.p=k.c.p
 hq:k'.proc=k.proc
 rd:0≤y.d->aL k' y.d
 ra:0≤y.a->aL k' y.a
 rb:0≤y.b->aL k' y.b
 rl:∀r∈y.l.l,aL k' r
 tn:x.op=14∨x.op=15->cH k' k'.proc y.n
 tg:x.op=16->cH k' x.p y.n
 tm:x.op=28∨x.op=29->cH k' k'.proc y.m
theorem VA {k:Kc}{d a:Int}(c:aL k d)(e:aL k a):jB k (cq d a):=⟨fun r b=>(by cases b),.inr (.inr (.inl ⟨.inl rfl,c,e⟩))⟩
theorem BW {k:Kc}{r:Int}(h:aL k r):0≤r:=h.1
theorem zW.right {k k':Kc}{x y:Ins}(h:zW k k' x y)(G:jB k x):jB k' y:=by
 have L:=h.op;have D:y.t=x.t:=by rw[h.eq]
 have I:y.u=x.u:=by rw[h.eq]
 have O:y.w=x.w:=by rw[h.eq]
 have V:y.v=x.v:=by rw[h.eq]
 have X:y.f=x.f:=by rw[h.eq]
 have Q:y.y=x.y:=by rw[h.eq]
 have J:=h.p;have E:=h.hp;have H:=h.hq;have A:aL k x.d->aL k' y.d:=fun e=>h.rd (h.d.elim (fun o=>by have:=BW e;omega) (·.2))
 have q:aL k x.a->aL k' y.a:=fun e=>h.ra (h.a.elim (fun o=>by have:=BW e;omega) (·.2))
 have C:aL k x.b->aL k' y.b:=fun e=>h.rb (h.b.elim (fun o=>by have:=BW e;omega) (·.2))
 have M:x.a = -1->y.a = -1:=fun e=>h.a.elim (·.2) fun o=>aa
 have K:x.b = -1->y.b = -1:=fun e=>h.b.elim (·.2) fun o=>aa
 have nd:x.d = -1->y.d = -1:=fun e=>h.d.elim (·.2) fun o=>aa
 have R:∀{r s m:Int},(aL k r->aL k' s)->(r = -1->s = -1)->kq k r m->kq k' s m:=fun f g e=>e.imp (fun o=>⟨g o.1,o.2⟩) fun o=>⟨f o.1,o.2⟩
 have Y:∀{S:Bool},k_ k x.d S->k_ k' y.d S:=fun e=>e.imp (fun o=>⟨o.1,A o.2⟩) fun o=>⟨o.1,nd o.2⟩
 have T:∀n,fQ k' n=fQ k n:=fun n=>by unfold fQ;rw[E,H]
 have pa:∀z,mn k' z=mn k z:=fun z=>by unfold mn;rw[E]
 have N:∀z,z.toNat<k.c.p.procs.l.length->nI k' z=nI k z:=fun z P=>by rw[uR P,uR (by rw[E];exact P)];simp only[E]
 have B:¬(x.op=14∨x.op=15∨x.op=16)->y.n=x.n:=fun e=>h.n aa aa aa
 have F:¬(x.op=28∨x.op=29)->y.m=x.m:=fun e=>h.m aa aa
 refine⟨h.rl,?_⟩;have G:=G.2;unfold rm at G ⊢;rw[L];rcases G with⟨c,e⟩|⟨c,e⟩|⟨c,e⟩|⟨c,e⟩|⟨c,e⟩|⟨c,e⟩|⟨c,e⟩|⟨c,e⟩|⟨c,e⟩|⟨c,e⟩|⟨c,e⟩|⟨c,e⟩|⟨c,e⟩|⟨c,Z,c4,e⟩|⟨c,e⟩
 . exact .inl ⟨c,by rw[B aa];exact e⟩
 . exact .inr (.inl ⟨c,A e.1,by rw[D,V];exact e.2⟩)
 . exact .inr (.inr (.inl ⟨c,A e.1,q e.2⟩))
 . refine .inr (.inr (.inr (.inl ⟨c, A e.1, ?_⟩)))
   have o:=e.2;unfold lR at o ⊢;rw[B aa,F aa,J,T,pa,E];exact o
 . exact .inr (.inr (.inr (.inr (.inl ⟨c,q e⟩))))
 . exact .inr (.inr (.inr (.inr (.inr (.inl ⟨c,A e.1,q e.2.1,by rw[B aa];exact e.2.2⟩)))))
 . exact .inr (.inr (.inr (.inr (.inr (.inr (.inl ⟨c,A e.1,q e.2.1,C e.2.2.1,by rw[B aa,F aa,J];exact e.2.2.2⟩))))))
 . exact .inr (.inr (.inr (.inr (.inr (.inr (.inr (.inl ⟨c,A e.1,q e.2.1,by rw[D];exact e.2.2⟩)))))))
 . exact .inr (.inr (.inr (.inr (.inr (.inr (.inr (.inr (.inl ⟨c,q e.1,C e.2.1,by rw[D];exact e.2.2⟩))))))))
 . refine .inr (.inr (.inr (.inr (.inr (.inr (.inr (.inr (.inr (.inl ⟨c, A e.1, q e.2.1, ?_⟩)))))))))
   have o:=e.2.2;rw[B aa];simp only[D,I,O];exact o.imp (fun j=>⟨j.1,K j.2.1,j.2.2⟩) fun j=>⟨j.1,C j.2.1,j.2.2⟩
 . exact .inr (.inr (.inr (.inr (.inr (.inr (.inr (.inr (.inr (.inr (.inl ⟨c,A e.1,q e.2.1,by rw[D,I];exact e.2.2⟩))))))))))
 . exact .inr (.inr (.inr (.inr (.inr (.inr (.inr (.inr (.inr (.inr (.inr (.inl ⟨c,A e.1,by rw[B aa,h.l,Q,D];exact e.2⟩)))))))))))
 . refine .inr (.inr (.inr (.inr (.inr (.inr (.inr (.inr (.inr (.inr (.inr (.inr (.inl ⟨c, A e.1, q e.2.1, C e.2.2.1, ?_⟩))))))))))))
   rw[B aa];simp only[I,O];exact e.2.2.2
 . refine .inr (.inr (.inr (.inr (.inr (.inr (.inr (.inr (.inr (.inr (.inr (.inr (.inr (.inl ⟨c, Z, c4, ?_⟩)))))))))))))
   unfold lY at e ⊢;rw[L,B aa,D,X,Q,J,E,h.l];simp only[I,O];rcases e with⟨i,e⟩|⟨i,e⟩|⟨i,e⟩|⟨i,e⟩|⟨i,e⟩|⟨i,e⟩|⟨i,e⟩|⟨i,e⟩|⟨i,e⟩|⟨i,e⟩|⟨i,e⟩|i
   . exact .inl ⟨i,A e.1,e.2.1,e.2.2.1,by rw[F aa];exact R q M e.2.2.2⟩
   . exact .inr (.inl ⟨i,q e.1,by rw[F aa];exact R C K e.2⟩)
   . exact .inr (.inr (.inl ⟨i,e⟩))
   . exact .inr (.inr (.inr (.inl ⟨i,A e.1,e.2⟩)))
   . exact .inr (.inr (.inr (.inr (.inl ⟨i,e⟩))))
   . exact .inr (.inr (.inr (.inr (.inr (.inl ⟨i,A e.1,e.2.1,e.2.2.1,e.2.2.2.1,e.2.2.2.2.1,e.2.2.2.2.2.1,h.tm (.inl i)⟩)))))
   . exact .inr (.inr (.inr (.inr (.inr (.inr (.inl ⟨i,A e.1,e.2.1,e.2.2.1.imp (fun j=>⟨M j.1,j.2⟩) (fun j=>⟨q j.1,j.2⟩),e.2.2.2.1,h.tm (.inr i)⟩))))))
   . exact .inr (.inr (.inr (.inr (.inr (.inr (.inr (.inl ⟨i,e.1,e.2.1,q e.2.2.1,e.2.2.2.1,e.2.2.2.2.imp (fun j=>⟨j.1,K j.2.1,j.2.2⟩) (fun j=>⟨j.1,C j.2.1,j.2.2⟩)⟩)))))))
   . exact .inr (.inr (.inr (.inr (.inr (.inr (.inr (.inr (.inl ⟨i,q e.1,C e.2.1,by rw[F aa];exact e.2.2⟩))))))))
   . exact .inr (.inr (.inr (.inr (.inr (.inr (.inr (.inr (.inr (.inl ⟨i,A e.1,q e.2.1,C e.2.2.1,e.2.2.2⟩)))))))))
   . exact .inr (.inr (.inr (.inr (.inr (.inr (.inr (.inr (.inr (.inr (.inl ⟨i,A e⟩))))))))))
   . exact .inr (.inr (.inr (.inr (.inr (.inr (.inr (.inr (.inr (.inr (.inr i))))))))))
 . refine .inr (.inr (.inr (.inr (.inr (.inr (.inr (.inr (.inr (.inr (.inr (.inr (.inr (.inr ⟨c, ?_⟩)))))))))))))
   unfold kv at e ⊢;rw[L,J,E,H];have hk:=k.fK;have hkl:=k.hlen;rcases e with⟨i,e⟩|⟨i,e⟩|⟨i,e⟩|⟨i,e⟩|⟨i,e⟩|⟨i,e⟩|⟨i,e⟩
   . exact .inl ⟨i,H ▸ h.tn (.inl i)⟩
   . exact .inr (.inl ⟨i,q e.1,H ▸ h.tn (.inr i)⟩)
   . exact .inr (.inr (.inl ⟨i,e.1,h.tg i⟩))
   . have U := rq e.1
     refine .inr (.inr (.inr (.inl ⟨i,?_⟩)));rw[B aa,N _ aa,h.l];exact⟨e.1,e.2.1,Y e.2.2⟩
   . refine .inr (.inr (.inr (.inr (.inl ⟨i, ?_⟩))))
     rw[N _ aa];exact e.imp M fun j=>⟨q j.1,j.2⟩
   . refine .inr (.inr (.inr (.inr (.inr (.inl ⟨i, ?_⟩)))))
     rw[B aa,F aa];refine⟨e.1,e.2.imp id fun j=>?_⟩
     have U:=rq j.1;rw[N _ aa];exact j
   . exact .inr (.inr (.inr (.inr (.inr (.inr ⟨i,by rw[B aa];exact e⟩)))))
end Go.Ago
section
namespace Go.Ago
open Go.Proofs List Nat
def gN (T:List (List Int))(p:Nat)(n:Int):Int:=if p<T.length then (T.getD p []).getD n.toNat 0 else n
def gI (T:List (List Int))(i:Ins):Ins:=if i.op=16∧0≤i.p then { i with n:=gN T i.p.toNat i.n } else i
theorem rU {T:List (List Int)}{i:Ins}(h:i.op≠16):gI T i=i:=by unfold gI;grind
theorem w8 {T:List (List Int)}{i:Ins}:∃x,gI T i={ i with n:=x }:=by
 unfold gI;split
 . simp
 grind
theorem jJ {T:List (List Int)}{i:Ins}:(gI T i).op=i.op∧(gI T i).p=i.p∧(gI T i).d=i.d∧(gI T i).a=i.a∧(gI T i).b=i.b∧(gI T i).m=i.m∧(gI T i).l=i.l:=by
 obtain⟨x,e⟩:=@w8 T i
 grind
theorem BE {T:List (List Int)}{i:Ins}(h:i.op≠16):(gI T i).n=i.n:=by rw[rU h]
theorem rT {T:List (List Int)}{i:Ins}(h:i.op=16)(h0:0≤i.p):(gI T i).n=gN T i.p.toNat i.n:=by unfold gI;grind
theorem BG (T:List (List Int))(i:Ins):eB (fun p=>0≤p) i (gI T i):=by
 unfold gI;split
 . rename_i h;exact .inr ⟨h.1,h.2,_,rfl⟩
 exact .inl rfl
theorem BF (T:List (List Int))(l:List Ins):cT (fun p=>0≤p) l (l.map (gI T)):=⟨length_map _,fun m h a=>by rw[getElem_map];exact BG T _⟩
theorem Se:gI []=id:=funext fun i=>by
 unfold gI;split<;>rfl
theorem Jl {T:List (List Int)}{tl:List Int}{i:Ins}:bO T.length tl (gI T i)=gI (T++[tl]) i:=by
 by_cases h:i.op=16
 . by_cases a : 0 ≤ i.p
   . obtain ⟨d, c, _⟩ := @jJ T i
     by_cases b:i.p=(T.length:Int)
     . unfold bO
       rw[if_pos ⟨d.trans h,c.trans b⟩];unfold gI;rw[if_pos ⟨h,a⟩,if_pos ⟨h,a⟩];have e:i.p.toNat=T.length:=aa;unfold gN
       grind
     . rw [xP fun x => b (c.symm.trans x.2)]
       unfold gI;rw[if_pos ⟨h,a⟩,if_pos ⟨h,a⟩]
       congr 1
       unfold gN
       grind
   . have e : ∀ T : List (List Int), gI T i = i := fun T => by unfold gI; grind
     rw[e,e,xP fun x=>a aa]
 . rw[rU h,rU h,xP fun x=>h x.1]
theorem Sd {T:List (List Int)}{m:Nat}{i:Ins}(hi:i.op=16->i.p=(T.length:Int)->0≤i.n∧i.n≤(m:Int)):gI (T++[bC (m+1)]) i=gI T i:=by
 rw[<-Jl];unfold bO;split
 . rename_i h
   obtain⟨b,d,_⟩:=@jJ T i;have c:(gI T i).n=i.n:=by
    rw[rT (b.symm.trans h.1) aa];unfold gN;rw[if_neg aa]
   have:(bC (m+1)).getD (gI T i).n.toNat 0=(gI T i).n:=by rw[c,mr aa];omega
   rw[this]
 . rfl
section
variable {T:List (List Int)}
theorem ZX {k:Int}{i:Ins}:xF k (gI T i)=gI T (xF k i):=by
 obtain⟨x,e⟩:=@w8 T i;have a:gI T (xF k i)={ xF k i with n:=(gI T i).n }:=by
  unfold gI
  by_cases h:i.op=16∧0≤i.p
  . rw [if_pos h, if_pos (show (xF k i).op = 16 ∧ 0 ≤ (xF k i).p from h)]
    rfl
  rw[if_neg h,if_neg (show ¬((xF k i).op=16∧0≤(xF k i).p) from h)]
  rfl
 rw[a,e];rfl
theorem Vz {d a:Int}:gI T (cq d a)=cq d a:=rU (show 3≠16 by decide)
theorem OG {k:Int}{i:Ins}:bY k (gI T i)=(bY k i).map (gI T):=by
 obtain⟨a,f,d,b,c,g,e⟩:=@jJ T i;unfold bY;rw[map_append,map_cons,<-ZX]
 congr 1
 . unfold fG cD
   rw[a,b,c,map_append]
   congr 1
   . split
     . rfl
     . rfl
   . split
     . rfl
     . rfl
 . congr 1
   unfold fF dD;rw[a,d];split
   . rfl
   . rfl
theorem C8 {k:Int}:∀{l:List Ins},dA k (l.map (gI T))=(dA k l).map (gI T)
 | []=>rfl
 | i :: l => by
   show bY k _++dA k _=(bY k i++dA k l).map _;rw[OG,C8,map_append]
theorem V7 {k:Int}{n:Nat}{i:Ins}:dV k n (gI T i)=dV k n i:=by
 obtain⟨b,c,d,e,f,g,a⟩:=@jJ T i;unfold dV bS cD dD
 grind
theorem IX {k:Int}:∀{l:List Ins} {n:Nat},cJ k n (l.map (gI T))=cJ k n l
 | [],_=>rfl
 | i :: l, n => by
   show dV k n _++cJ k _ _=dV k n i++cJ k _ l;rw[V7,IX]
theorem M1 {k:Int}{l:List Ins}{m:Nat}:eM k (l.map (gI T)) m=eM k l m:=by
 unfold eM cO;refine map_congr_left fun n _=>?_
 rw[<-List.map_take,C8,length_map]
theorem Yj {i:Ins}{tl:List Int}:cA (gI T i) tl=gI T (cA i tl):=by
 by_cases h:i.op=16
 . have e := fun y a => (yK y tl).2.2 a
   rw[e i h,e _ ((@jJ T i).1.trans h)]
 rw[rU h,rU (by rw[(yK i _).1];exact h)]
theorem RC {i:Ins}{w w':List Int}:dY (gI T i) w w'=gI T (dY i w w'):=by
 obtain⟨x,e⟩:=@w8 T i;have a:gI T (dY i w w')={ dY i w w' with n:=(gI T i).n }:=by
  unfold gI
  by_cases h:i.op=16∧0≤i.p
  . rw [if_pos h, if_pos (show (dY i w w').op = 16 ∧ 0 ≤ (dY i w w').p from h)]
    rfl
  . rw [if_neg h, if_neg (show ¬ ((dY i w w').op = 16 ∧ 0 ≤ (dY i w w').p) from h)]
    rfl
 rw[a,e];rfl
end
structure ph (M:Int)(tl:List Int)(x y:Ins):Prop extends SimI x y where
 g:x.op=16->y.n=x.n
 rd:y.d<M
 ra:y.a<M
 rb:y.b<M
 rl:∀r∈y.l.l,0≤r∧r<M
 tn:x.op=14∨x.op=15->y.n=tl.getD x.n.toNat 0
 tm:x.op=28∨x.op=29->y.m=tl.getD x.m.toNat 0
structure RowsX (M:Int)(C Y:List Ins)(o tl:List Int):Prop where
 ol:o.length=Y.length
 M5:tl.length=C.length+1
 M6:∀t∈tl,0≤t∧t≤(Y.length:Int)
 row:∀(p:Nat) (h:p<Y.length),(o.getD p 0 = -1∧∃d a,(0≤d∧d<M)∧(0≤a∧a<M)∧Y[p]=cq d a)∨∃(n:Nat) (hn:n<C.length),o.getD p 0=(n:Int)∧ph M tl C[n] Y[p]
theorem ph.gs {M:Int}{tl:List Int}{x y:Ins}(h:ph M tl x y)(T:List (List Int)):SimI x (gI T y):=by
 obtain⟨z,e⟩:=@w8 T y;obtain⟨q,r,o,j,i,p,k⟩:=@jJ T y;refine⟨?_,fun f c g=>?_,fun f c=>?_,?_,?_,?_,?_⟩
 . rw [e]
   have:=h.eq
   grind
 . rw[BE (by rw[h.op];exact g)];exact h.n f c g
 . rw[p];exact h.m f c
 . rw[o];exact h.d
 . rw[j];exact h.a
 . rw[i];exact h.b
 . rw[k];exact h.l
theorem G7 {l:List Int}{n:Nat}(h:n<l.length):l.getD n 0∈l:=by grind
theorem XG {c d:Cd}{T:List (List Int)}(hx:cE c)(hp:d.p=c.p)(hl:d.b.l.length=c.b.l.length)
 (hb:∀(j:Nat) (h:j<c.b.l.length) (h':j<d.b.l.length),(0≤d.b.l[j].aj∧d.b.l[j].aj≤4000)∧∃Y o tl,d.b.l[j].ins.l=Y.map (gI T)∧RowsX d.b.l[j].aj c.b.l[j].ins.l Y o tl)
 (hg:∀(p:Nat) (h:p<c.b.l.length) (h':p<d.b.l.length) (n:Int),0≤n->n≤(c.b.l[p].ins.l.length:Int)->0≤gN T p n∧gN T p n≤(d.b.l[p].ins.l.length:Int))(hs:bV d.b.l≤20000):cE d:=by
 have D:=hx.ok;obtain⟨ho,hc,hi⟩:=hx;have f:OutOK d:=⟨by rw[hp];exact ho.ck,by rw[hl,hp];exact ho.len,fun j h'=>(hb j aa h').1⟩
 refine⟨⟨f,by rw[hp];exact ho.pb,Nat.le_trans uS hs⟩,f,fun q z i hm=>?_⟩
 have w:q<c.b.l.length:=by rw[<-hl];exact z
 obtain⟨_,Y,o,tl,e,hr⟩:=hb q w z;rw[e] at hm;obtain⟨y,hy,rfl⟩:=mem_map.1 hm;obtain⟨p,hpl,rfl⟩:=mem_iff_getElem.1 hy;have hreg:fj (fu d f q z)=d.b.l[q].aj:=by simp[fj,fu]
 have u:∀r,0≤r->r<d.b.l[q].aj->aL (fu d f q z) r:=fun r h1 h2=>by unfold aL;omega
 rcases hr.row p hpl with⟨_,dd,a,h1,h2,h3⟩|⟨n,hn,_,x⟩
 . rw [h3, Vz]
   exact⟨Vx,VA (u _ h1.1 h1.2) (u _ h2.1 h2.2)⟩
 . have v := getElem_mem hn
   obtain⟨x1,x2⟩:=hi q w _ v;have B:=x.gs T;obtain⟨k1,k2,k3,k4,k5,k6,k7⟩:=@jJ T Y[p];have mb:=x.op;obtain⟨_,hv⟩:=kE D w;have ht:=(hv _ v).t;have hlen:(d.b.l[q].ins.l).length=Y.length:=by rw[e,length_map]
   have hpl2:∀n:Int,0≤n->n≤(c.b.l[q].ins.l.length:Int)->cH (fu d f q z) (fu d f q z).proc (tl.getD n.toNat 0):=fun n A h1=>by
    have:=hr.M6 _ (G7 (l:=tl) (n:=n.toNat) (by rw[hr.M5];omega))
    have hq2:(fu d f q z).proc.toNat=q:=by simp[fu]
    refine⟨by assumption,this.1,?_⟩
    have e2:((fu d f q z).c.b.l[(fu d f q z).proc.toNat]'bA).ins.l.length=Y.length:=by
     rw[<-hlen];simp[fu]
    omega
   refine⟨B.bare x1,zW.right (k:=fu c hc q w) ⟨B,hp,rfl,fun A=>?_,fun A=>?_,fun A=>?_,fun r C=>?_,fun s=>?_,fun s=>?_,fun s=>?_⟩ x2⟩
   . rw[k3] at A ⊢;exact u _ A x.rd
   . rw[k4] at A ⊢;exact u _ A x.ra
   . rw[k5] at A ⊢;exact u _ A x.rb
   . rw[k7] at C;exact u _ (x.rl r C).1 (x.rl r C).2
   . rw [BE aa, x.tn s]
     have:=ht c.b.l[q].ins.l[n].n (by unfold bT;grind)
     grind
   . obtain ⟨g1, g2, g3, g4⟩ := kD D w v s
     have hpp:Y[p].p=c.b.l[q].ins.l[n].p:=x.p;rw[rT aa aa,hpp,x.g s];have g5:c.b.l[q].ins.l[n].p.toNat<d.b.l.length:=by rw[hl];exact g1
     have:=hg _ g1 g5 _ g3 g4;exact⟨g5,this⟩
   . rw [k6, x.tm s]
     have:=ht c.b.l[q].ins.l[n].m (by unfold bT;rw[if_neg aa,if_pos s];simp)
     grind
end Go.Ago
end
namespace Go.Ago
open Go.Proofs List Nat
def da (x:Int):Bool:=decide (0≤x)
def cj (o:List Int)(p:Nat):Nat:=((o.take p).filter da).length
def pq (k:Int)(i:Ins):Prop:=
 ((if k≤i.d then 1 else 0)+(if k≤i.a then 1 else 0)+(if k≤i.b then 1 else 0):Nat)=0∨(((if k≤i.d then 1 else 0)+(if k≤i.a then 1 else 0)+(if k≤i.b then 1 else 0):Nat)=1∧i.op=3)
structure vw (N M k:Int)(C:List Ins)(E:Int->Prop)(Y:List Ins)(o tl:List Int):Prop extends RowsX M C Y o tl where
 p4:o.filter da=bC C.length
 Lo:∀n,n≤C.length->cj o (tl.getD n 0).toNat=n
 fit:∀y∈Y,pq k y
 km:k≤M
 cc:∃I:Nat->Int->Int->Prop,∀gd:Gr,cT (fun _=>True) Y gd.ins.l->(∀x∈gd.entries.l,∃n:Int,(0≤n∧n≤(C.length:Int))∧E n∧x=tl.getD n.toNat 0)->
  pz I (bQ C o gd)∧∀(p n:Nat) (hp:p<gd.ins.l.length) (hn:n<C.length),o.getD p 0=(n:Int)->Reads (I p) (aT gd.ins.l[p]) (aT C[n])
theorem RowsX.Zq {M:Int}{C Y:List Ins}{o tl:List Int}(h:RowsX M C Y o tl)(d:o.filter da=bC C.length){n:Nat}(j:n<C.length):∃(p:Nat) (b:p<Y.length),o.getD p 0=(n:Int)∧ph M tl C[n] Y[p]:=by
 have c:(n:Int)∈o.filter da:=by rw[d];exact uN.2 ⟨aa,aa⟩
 obtain⟨p,b,e⟩:=mem_iff_getElem.1 (mem_filter.1 c).1;have a:p<Y.length:=by rw[<-h.ol];exact b
 have i:o.getD p 0=(n:Int):=by rw[dL b,e]
 rcases h.row p a with⟨f,_⟩|⟨m,c,f,g⟩
 . omega
 grind
theorem eB.symm {R:Int->Prop}{a b:Ins}(h:eB R a b):eB R b a:=by
 rcases h with rfl|⟨d,c,x,rfl⟩
 . exact .inl rfl
 exact .inr ⟨d,c,a.n,rfl⟩
theorem cT.symm {R:Int->Prop}{a b:List Ins}(h:cT R a b):cT R b a:=⟨h.1.symm,fun m d c=>(h.2 m _ _).symm⟩
theorem cT.any {R:Int->Prop}{a b:List Ins}(h:cT R a b):cT (fun _=>True) a b:=h.mono (ag)
theorem CZ (m:Nat):(bC m).filter da=bC m:=filter_eq_self.2 fun x a=>decide_eq_true (uN.1 a).1
theorem JJ {m n:Nat}(h:n≤m):(bC m).take n=bC n:=by
 unfold bC;rw[<-List.map_take,take_range,Nat.min_eq_left h]
theorem Xe {m n:Nat}(h:n≤m):cj (bC m) n=n:=by
 unfold cj;rw[JJ h,CZ,jU]
theorem IV {k:Int}:∀{l:List Ins} {n:Nat},(cJ k n l).filter da=(List.range l.length).map fun m=>((n+m:Nat):Int)
 | [],_=>rfl
 | i :: l, n => by
   show(dV k n i++cJ k (n+1) l).filter da=_;rw[filter_append,IV,length_cons,range_succ_eq_map,map_cons,map_map];have b:∀m,(replicate m (-1:Int)).filter da=[]:=fun m=>filter_eq_nil_iff.2 fun x d=>by rw[eq_of_mem_replicate d];decide
   have c:(dV k n i).filter da=[(n:Int)]:=by
    unfold dV;rw[filter_append,b,filter_cons_of_pos aB,b];rfl
   rw[c];show(n:Int)::_=_::_
   congr 1
   refine map_congr_left fun m _=>?_
   grind
theorem IW {k:Int}{l:List Ins}:(cJ k 0 l).filter da=bC l.length:=by
 rw[IV];unfold bC;simp
theorem V9 {k:Int}{l:List Ins}{n:Nat}(h:n≤l.length):(cJ k 0 l).take (cO k l n)=cJ k 0 (l.take n):=by
 have a:(cJ k 0 _).length=cO k l n:=uO
 conv=>lhs;rw[<-take_append_drop n l,Cx]
 simp_all
theorem V8 {k:Int}{l:List Ins}{n:Nat}(h:n≤l.length):cj (cJ k 0 l) (cO k l n)=n:=by
 unfold cj;rw[V9 h,IW,jU,length_take,Nat.min_eq_left h]
theorem ZE {k:Int}{l:List Ins}:∀t∈eM k l (l.length+1),0≤t∧t≤((dA k l).length:Int):=fun t b=>by
 obtain⟨n,a,rfl⟩:=mem_map.1 b;have:=mem_range.1 a;have c:=@y4 k l n _ aa (Nat.le_refl _);rw[y3] at *;omega
structure iy (N:Int)(L:Nat)(i:Ins):Prop extends InsV N L i where
 fa:0≤i.a->hasB i.op 65=true
 fb:0≤i.b->hasB i.op 66=true
 fd:0≤i.d->hasB i.op 68=true
 fl:i.l.l≠[]->hasB i.op 76=true
 mv:i.op=3->0≤i.a∧0≤i.d∧i.b = -1
theorem iy.k {N:Int}{L:Nat}{i:Ins}(h:iy N L i):tJ N i:=⟨h.a,h.b,h.d,h.l,h.fd,h.mv⟩
theorem iy.ua {N:Int}{L:Nat}{i:Ins}(h:iy N L i)(h0:0≤i.a):i.a∈aT i:=by unfold aT;rw[if_pos ⟨h.fa h0,aa⟩];simp
theorem iy.ub {N:Int}{L:Nat}{i:Ins}(h:iy N L i)(h0:0≤i.b):i.b∈aT i:=by
 unfold aT;rw[if_pos (show hasB _ _=true∧i.b≠-1 from⟨h.fb h0,aa⟩)];simp
theorem iy.ul {N:Int}{L:Nat}{i:Ins}(h:iy N L i){r:Int}(a:r∈i.l.l):r∈aT i:=by
 unfold aT;rw[if_pos (h.fl fun e=>by grind)];grind
theorem iy.sd {N:Int}{L:Nat}{i:Ins}(h:iy N L i):aH i=i.d:=KM h.k
def l8 (C:List Ins)(W:Nat->List Int):List Ins:=(List.range C.length).map fun p=>dY (C.getD p sb) (W p) (W (p+1))
theorem ou {C:List Ins}{W:Nat->List Int}:(l8 C W).length=C.length:=by simp[l8]
theorem Bh {C:List Ins}{W:Nat->List Int}{p:Nat}(h:p<C.length)(a:p<(l8 C W).length):(l8 C W)[p]=dY C[p] (W p) (W (p+1)):=by
 simp only[l8,getElem_map,getElem_range,dL h]
theorem GK {k:Int}{i:Ins}(e:i.d<k)(f:i.a<k)(c:i.b<k):pq k i := .inl aY
theorem CO {k r:Int}{w:List Int}(h:r = -1∨(0≤r∧eO w k r)):(r = -1∧dc w r = -1)∨(0≤r∧0≤dc w r∧dc w r<k):=by
 unfold dc;rcases h with rfl|⟨b,a⟩
 . simp
 rw[if_neg aa];exact .inr ⟨b,a.1,a.2⟩
theorem RB {k N:Int}{L:Nat}{x:Ins}{w w' tl:List Int}(z:0<k)(c:iy N L x)(j:∀r∈aT x,eO w k r)(s:0≤aH x->eO w' k (aH x))(o:∀t∈bT x,tl.getD t.toNat 0=t):ph k tl x (dY x w w'):=by
 have p:=CO (k:=k) (w:=w) (r:=x.a) (c.a.imp id fun h=>⟨h.1,j _ (c.ua h.1)⟩)
 have u:=CO (k:=k) (w:=w) (r:=x.b) (c.b.imp id fun h=>⟨h.1,j _ (c.ub h.1)⟩)
 have q:(dY x w w').d=if 0≤x.d then w'.getD x.d.toNat 0 else x.d:=by show(if 0≤aH x then _ else _)=_;rw[c.sd]
 have i:(x.d = -1∧(dY x w w').d = -1)∨(0≤x.d∧0≤(dY x w w').d∧(dY x w w').d<k):=by
  rw[q];rcases c.d with e|e
  . omega
  . rw [if_pos e.1]
    have:=s (by rw[c.sd];omega)
    rw[c.sd] at this;exact .inr ⟨e.1,this.1,this.2⟩
 have y:∀r∈x.l.l,0≤dc w r∧dc w r<k:=fun r g=>by
  rcases CO (k:=k) (w:=w) (r:=r) (.inr ⟨(c.l r g).1,j _ (c.ul g)⟩) with h|h
  . have:=(c.l r g).1;omega
  omega
 refine⟨⟨rfl,fun _ _ _=>rfl,fun _ _=>rfl,i.imp id fun h=>⟨h.1,h.2.1⟩,p.imp id fun h=>⟨h.1,h.2.1⟩,u.imp id fun h=>⟨h.1,h.2.1⟩,?_⟩,fun _=>rfl,aa,?_,?_,fun r g=>?_,fun h=>?_,fun h=>?_⟩
 . show (x.l.l.map (dc w)).length = _
   simp
 . show dc w x.a<k;omega
 . show dc w x.b<k;omega
 . obtain ⟨A, v, rfl⟩ := mem_map.1 (show r ∈ x.l.l.map (dc w) from g)
   grind
 . show x.n = _
   exact(o x.n (by unfold bT;grind)).symm
 . show x.m = _
   exact(o x.m (by unfold bT;grind)).symm
theorem RD {N k:Int}{C:List Ins}{E:Int->Prop}{g:Gr}{S:List (List aA)}{W:Nat->List Int}{B:List Ins}{T:List (List Int)}(hk:0<k)(z:gz g)(hS:fy g S)(m:j2 g S k W B)(hC:g.ins.l=C.map (gI T))(u:∀i∈C,iy N C.length i)(hE:∀n:Int,0≤n->E n->n∈g.entries.l) :
 vw N k k C E (l8 C W) (bC C.length) (bC (C.length+1))∧B=(l8 C W).map (gI T):=by
 have f:g.ins.l.length=C.length:=by rw[hC,length_map]
 have b:∀(p:Nat) (h:p<C.length) (d:p<g.ins.l.length),g.ins.l[p]=gI T C[p]:=fun p h d=>by grind
 have hu:∀(p:Nat) (h:p<C.length),∀r∈aT C[p],eO (W p) k r:=fun p h r hr=>by
  have d:p<g.ins.l.length:=by rw[f];exact h
  have A:r∈aT g.ins.l[p]:=by rw[b p h d,(BG T C[p]).jj];exact hr
  have v:=z.ok.jj _ (getElem_mem d) r A;have a:=hS.fix p r.toNat aa (.inl ⟨d,.inr aY⟩);have:=m.jK p aa r.toNat aa a
  grind
 have hd:∀(p:Nat) (h:p<C.length),0≤aH C[p]->eO (W (p+1)) k (aH C[p]):=fun p h h0=>by
  have d:p<g.ins.l.length:=by rw[f];exact h
  have e:aH g.ins.l[p]=aH C[p]:=by rw[b p h d,(BG T C[p]).ga]
  have:=m.dst p d d aa
  grind
 have c:∀(p:Nat) (h:p<C.length),ph k (bC (C.length+1)) C[p] (dY C[p] (W p) (W (p+1))):=fun p h=>
  RB hk (u _ (getElem_mem h)) (hu p h) (hd p h) fun t w=>by
   have:=(u _ (getElem_mem h)).t t w;rw[mr aa];omega
 have hB:B=(l8 C W).map (gI T):=by
  refine ext_getElem (by rw[m.len,f,length_map,ou]) fun p h1 v=>?_
  have a:p<C.length:=by rw[length_map,ou] at v;exact v
  have h4:p<g.ins.l.length:=by rw[f];exact a
  rw[m.row p h4 h1,getElem_map,Bh a aY,b p a h4,RC]
 refine⟨⟨⟨by rw[jU,ou],jU _,fun t w=>?_,fun p j => .inr ?_⟩,CZ _,fun n o=>?_,fun y hy=>?_,Int.le_refl k,px g S W,fun D hD he=>?_⟩,hB⟩
 . have := uN.1 w
   rw[ou];omega
 . have a : p < C.length := by rw [ou] at j; exact j
   refine⟨p,a,mr a,?_⟩;rw[Bh a j]
   grind
 . rw [mr aa, Int.toNat_natCast]
   exact Xe o
 . obtain ⟨p, j, rfl⟩ := mem_iff_getElem.1 hy
   have a:p<C.length:=by rw[ou] at j;exact j
   rw[Bh a j];exact GK (c p a).rd (c p a).ra (c p a).rb
 . have s : cT (fun _ => True) B D.ins.l := by rw [hB]; exact ((BF T (l8 C W)).any.symm).trans hD
   have q:cT (fun _=>True) C g.ins.l:=by rw[hC];exact(BF T C).any
   have hgl:D.ins.l.length=C.length:=by rw[hD.1,ou]
   have he2:∀x∈D.entries.l,x∈g.entries.l:=fun x u=>by
    obtain⟨n,o,hE2,rfl⟩:=he x u;rw[mr aa,Int.toNat_of_nonneg o.1]
    grind
   refine⟨by have:=RF z hS m q s he2;grind,fun p n j o e=>?_⟩
   rw[mr aa] at e;have:p=n:=aa;subst this;exact RH z hS m q s j o
theorem zaq {k N:Int}{L:Nat}{x:Ins}{tl:List Int}(hk:4≤k)(hN:0≤N)(c:iy N L x):ph (k+N) tl x (cA (xF k x) tl):=by
 obtain⟨s1,s2,s3,s4,s5,s6⟩:=@ve (xF k x) tl;have ed:(xF k x).d=if dD x then 2 else aP k x.d:=rfl
 have ea:(xF k x).a=if 0≤x.a then 0 else aP k x.a:=rfl
 have eb:(xF k x).b=if x.op≠3∧0≤x.b then (if x.b=x.a then 0 else 1) else aP k x.b:=rfl
 have el:(xF k x).l.l=x.l.l.map (aP k):=rfl;have hd:(x.d = -1∧(cA (xF k x) tl).d = -1)∨(0≤x.d∧0≤(cA (xF k x) tl).d∧(cA (xF k x) tl).d<k+N):=by
  rw[s2,ed];rcases c.d with e|e
  . refine .inl ⟨e, ?_⟩
    rw[if_neg (fun h:dD x=>aa),mE aa]
    exact e
  . refine .inr ⟨e.1, ?_⟩
    split
    . omega
    . rw[jY e.1];omega
 have ha:(x.a = -1∧(cA (xF k x) tl).a = -1)∨(0≤x.a∧0≤(cA (xF k x) tl).a∧(cA (xF k x) tl).a<k+N):=by
  rw[s3,ea];rcases c.a with e|e
  . refine .inl ⟨e, ?_⟩
    rw[if_neg aa,mE aa];exact e
  . omega
 have hb:(x.b = -1∧(cA (xF k x) tl).b = -1)∨(0≤x.b∧0≤(cA (xF k x) tl).b∧(cA (xF k x) tl).b<k+N):=by
  rw[s4,eb];rcases c.b with e|e
  . refine .inl ⟨e, ?_⟩
    rw[if_neg aa,mE aa];exact e
  . have f : x.op ≠ 3 := fun f => by have := (c.mv f).2.2; omega
    omega
 have ho:(xF k x).op=x.op:=rfl;have hn:(xF k x).n=x.n:=rfl;have hm:(xF k x).m=x.m:=rfl;refine⟨⟨?_,fun h1 h2 f=>?_,fun h1 h2=>?_,hd.imp id fun h=>⟨h.1,h.2.1⟩,ha.imp id fun h=>⟨h.1,h.2.1⟩,hb.imp id fun h=>⟨h.1,h.2.1⟩,?_⟩,fun h=>?_,aa,aa,aa,fun r hr=>?_,fun h=>?_,fun h=>?_⟩
 . unfold cA
   split
   . rfl
   . split
     . rfl
     . rfl
 . unfold cA
   grind
 . unfold cA
   grind
 . grind
 . rw [(yK (xF k x) tl).2.2 aa]
   rfl
 . rw [s5, el] at hr
   obtain⟨r0,h0,rfl⟩:=mem_map.1 hr;have:=c.l r0 h0;rw[jY this.1];omega
 . unfold cA
   grind
 . unfold cA
   grind
theorem YS {N k:Int}{C:List Ins}{E:Int->Prop}(G:4≤k)(K:0≤N)(u:∀i∈C,iy N C.length i) :
 vw N (k+N) k C E ((dA k C).map fun i=>cA i (eM k C (C.length+1))) (cJ k 0 C) (eM k C (C.length+1)):=by
 have q:∀(p:Nat) (h:p<((dA k C).map fun i=>cA i (eM k C (C.length+1))).length),(∃d a,(0≤d∧d<k+N)∧(0≤a∧a<k+N)∧pq k (cq d a)∧(cJ k 0 C).getD p 0 = -1∧((dA k C).map fun i=>cA i (eM k C (C.length+1)))[p]=cq d a)∨∃(n:Nat) (f:n<C.length),(cJ k 0 C).getD p 0=(n:Int)∧((dA k C).map fun i=>cA i (eM k C (C.length+1)))[p]=cA (xF k C[n]) (eM k C (C.length+1)):=fun p h=>by
  have j:p<(dA k C).length:=by rw[length_map] at h;exact h
  obtain⟨n,s,f,D,e⟩:=AW (k:=k) (l:=C) (m:=C.length) (p:=p) (Nat.le_refl _) (by rw[y3];exact j)
  have r:=EY (k:=k) f D;rw[<-e,getElem?_eq_getElem j] at r;have z:=Cy (k:=k) f D;rw[<-e] at z;have w:(cJ k 0 C).getD p 0=if s=bS C[n] then (n:Int) else -1:=by rw[getD_eq_getElem?_getD,z];rfl
  have g:=u _ (getElem_mem f);rw[getElem_map,w];rcases t_ r.symm with⟨o,c,F,v⟩|⟨o,c,v⟩|⟨o,v⟩|⟨o,_,c,v⟩
  . have V : C[n].a < N := by rcases g.a with e | e <;> omega
    refine .inl ⟨0,k+C[n].a,aa,aa,.inr ⟨?_,rfl⟩,aa,by rw[v];rfl⟩
    show(if k≤(0:Int) then 1 else 0)+(if k≤k+C[n].a then 1 else 0)+(if k≤(-1:Int) then 1 else 0)=1
    grind
  . have T : C[n].b < N := by rcases g.b with e | e <;> have := c.2.1 <;> omega
    have:=c.2.1;refine .inl ⟨1,k+C[n].b,aa,aa,.inr ⟨?_,rfl⟩,aa,by rw[v];rfl⟩
    show(if k≤(1:Int) then 1 else 0)+(if k≤k+C[n].b then 1 else 0)+(if k≤(-1:Int) then 1 else 0)=1
    grind
  . grind
  . have U : C[n].d < N := by rcases g.d with e | e <;> have := c.2 <;> omega
    have:=c.2;refine .inl ⟨k+C[n].d,2,aa,aa,.inr ⟨?_,rfl⟩,aa,by rw[v];rfl⟩
    show(if k≤k+C[n].d then 1 else 0)+(if k≤(2:Int) then 1 else 0)+(if k≤(-1:Int) then 1 else 0)=1
    grind
 refine⟨⟨by rw[uO,length_map],M3,fun t A=>by rw[length_map];exact ZE t A,fun p j=>?_⟩,IW,fun n f=>?_,fun y L=>?_,aa,eN k N C,fun M O P=>?_⟩
 . rcases q p j with ⟨d, a, o, r, _, c, F⟩ | ⟨n, f, o, r⟩
   . grind
   . refine .inr ⟨n, f, o, ?_⟩
     rw[r];exact zaq G K (u _ (getElem_mem f))
 . rw [DR aa, Int.toNat_natCast]
   exact V8 f
 . obtain ⟨p, j, rfl⟩ := mem_iff_getElem.1 L
   rcases q p j with⟨d,a,o,r,I,c,F⟩|⟨n,f,o,r⟩
   . grind
   . rw [r]
     obtain⟨J,H,Q,S,X,Y⟩:=@ve (xF k C[n]) (eM k C (C.length+1));have g:=u _ (getElem_mem f);have Z:(xF k C[n]).a<k:=by
      show(if 0≤C[n].a then 0 else aP k C[n].a)<k
      split
      . omega
      . rw[mE aa];omega
     have eb:(xF k C[n]).b<k:=by
      show(if C[n].op≠3∧0≤C[n].b then (if C[n].b=C[n].a then 0 else 1) else aP k C[n].b)<k
      split
      . omega
      . rename_i h
        by_cases c:C[n].op=3
        . have:=(g.mv c).2.2;rw[mE aa];omega
        . rw[mE aa];omega
     by_cases c:C[n].op=3
     . have := g.mv c
       refine .inr ⟨?_,by rw[J];exact c⟩
       rw[H,Q,S,if_neg (show ¬k≤(xF k C[n]).a by omega),if_neg (show ¬k≤(xF k C[n]).b by omega)]
       rw[if_pos];show k≤(if dD C[n] then 2 else aP k C[n].d)
       rw[if_neg (fun h=>h.1 c),jY aa]
       omega
     . refine GK ?_ aa aa
       rw[H];show(if dD C[n] then 2 else aP k C[n].d)<k
       by_cases I:0≤C[n].d
       . omega
       . rw[if_neg (fun h:dD C[n]=>I h.2),mE aa];omega
 . have B:mJ k N C (eM k C (C.length+1)) (fun _=>True) M:=⟨G,fun i g=>(u i g).k,O,fun i g t A=>by
    have:=(u i g).t t A;exact⟨t.toNat,aa,DR aa⟩,fun x u=>by
    obtain⟨n,f,_,rfl⟩:=P x u;exact⟨n.toNat,aa,DR aa⟩⟩
   exact⟨OH B (cT.refl (R:=fun _=>True) C),fun p n j f e=>OJ B (cT.refl (R:=fun _=>True) C) j e f⟩
end Go.Ago
