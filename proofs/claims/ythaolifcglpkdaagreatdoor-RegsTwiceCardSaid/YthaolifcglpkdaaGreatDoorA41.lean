/-
  Part A41: lemmas, each with its own conditions.
-/
import Derived.Test.YthaolifcglpkdaaGreatDoorA33
set_option maxRecDepth 100000
set_option maxHeartbeats 0
set_option linter.all false
section
namespace Go.Ago
open Go.Proofs List Nat Tryz
attribute [local irreducible] bN bM aZ bK b_ wr bp bL comp DC DP DW DV
attribute [local irreducible] dJ ct aL cH dP dI ec dX cB dM dR bV bn bB eA
theorem Xb {n k:Nat}(h:k<(bC n).length):(bC n)[k]=(k:Int):=by simp[bC]
def Ns (l:List Int)(r:Int)(x:Nat×Nat):Prop:=(x.1:Int)≤r∧r≤x.2∧x.2≤l.length
theorem X0 (l:List Int)(r:Int)(hl:l.length≤100000)(hr:0≤r∧r<l.length)(hget:∀(k:Nat) (h:k<l.length),l[k]=(k:Int)):af 90 [aU l,i64 r] (fun ae=>∃n,ae = .ret (.ao [i64 n,.bool true])):=by
 refine zw func90 ?_
 conv=>whnf
 refine DW.aO aC aD [0,1,4,5,6] [] 0 (fun x:{x:Nat×Nat // Ns l r x}=>[(7,i64 x.1.1),(8,i64 x.1.2)]) (fun _=>[]) [] (fun x=>x.1.2 - x.1.1) (⟨(0,l.length),by dsimp only;omega,by dsimp only;omega,Nat.le_refl _⟩) ?_
 conv=>whnf
 refine⟨?_,fun x=>?_⟩
 . conv => whnf
   (exact No)
 rcases x with⟨⟨lo,hi⟩,hx1,hx2,hx3⟩
 dsimp only at hx1 hx2 hx3;refine zk ?_
 repeat' ((first|(refine Rq.mk (HB (lo:=lo) (hi:=hi) aa (by rw[length_map];omega)) ?_)|refine ay.mk _ (Ja (l:=l) (lo:=lo) (hi:=hi) aa aa) ?_|refine ay.mk _ (bI (l:=l) (i:=lo) aa) ?_|(refine Rq.mk (by(first|rfl|((try simp only[rz]);(first|(first|omega|(rw[hget] at h;omega)))))) ?_)|(refine zb ?_ ?_<;>(first|exact⟨⟩|intro h)<;>try (exfalso;(first|omega|(rw[hget] at h;omega))))|(refine DC.pure rfl (H7 (l[(lo+hi) / 2]'aa) r) ?_;rintro _ (⟨rfl,hc⟩|⟨rfl,hc⟩)))<;>refine zk ?_)
 . have h7 := hget ((lo + hi) / 2) aa
   rw[h7] at hc;refine⟨⟨((lo+hi) / 2+1,hi),⟨bG,bG,hx3⟩⟩,?_,rfl,bG⟩
   conv=>whnf
   repeat' first|exact True.intro|exact congrArg (AV.int .i64) (by(try dsimp only);rw[sq aa,aF aa aa];(try omega))|rfl|refine And.intro ?_ ?_
 . have h7 := hget ((lo + hi) / 2) aa
   rw[h7] at hc;refine⟨⟨(lo,(lo+hi) / 2),⟨hx1,bG,bG⟩⟩,?_,rfl,bG⟩
   conv=>whnf
   repeat' first|exact True.intro|exact congrArg (AV.int .i64) (by(try dsimp only);rw[sq aa])|rfl|refine And.intro ?_ ?_
 all_goals exact⟨_,rfl⟩
theorem X1 (n:Nat)(r:Int)(hn:n≤100000)(hr:0≤r∧r<n):af 90 [aU (bC n),i64 r] (fun ae=>∃n,ae = .ret (.ao [i64 n,.bool true])):=
 X0 (bC n) r (by rw[jU];exact hn) (by rw[jU];exact hr) fun k h=>Xb h
theorem sV (n:Nat)(r:Int)(hn:n≤100000)(hr:0≤r∧r<n):af 89 [i64 r,.bq [aU (bC n)]] (fun ae=>ae = .ret (.bool true)):=by
 have k1:=X1 n r hn hr;exact zw func89 W
attribute [local irreducible] aP
theorem vl (k r:Int)(h:r<100000∧0≤k∧k<100000):af 125 [i64 r,.bq [i64 k]] (fun ae=>ae = .ret (i64 (aP k r))):=(On k r h).mono fun _ e=>by rw[e];unfold aP;rfl
theorem DX:∀{l:List AV},gm Told l l
 | []=>trivial
 | _::l=>⟨.r,DX (l:=l)⟩
theorem ZG {i:Ins}{w:AV}(h:Told w (aU i.l.l)):gm Told (i.cells.set 25 w) i.cells:=
 ⟨.r,.r,.r,.r,.r,.r,.r,.r,.r,.r,.r,.r,.r,.r,.r,.r,.r,.r,.r,.r,.r,.r,.r,.r,.r,h,.r,.r,.r,trivial⟩
theorem YE {H:ai}{n:Nat}{d a:Int}:aM (snap H (n+1)) (cq d a).cells=some (cq d a).cells:=rfl
theorem YG {H:ai}{n:Nat}{i:Ins}{v w:AV}(hv:snap H (n+1) v=some w):aM (snap H (n+1)) (i.cells.set 25 v)=some (i.cells.set 25 w):=
 aJ rfl (aJ rfl (aJ rfl (aJ rfl (aJ rfl (aJ rfl (aJ rfl (aJ rfl (aJ rfl (aJ rfl (aJ rfl (aJ rfl (aJ rfl (aJ rfl (aJ rfl (aJ rfl (aJ rfl (aJ rfl (aJ rfl (aJ rfl (aJ rfl (aJ rfl (aJ rfl (aJ rfl (aJ rfl (aJ hv (aJ rfl (aJ rfl (aJ rfl rfl))))))))))))))))))))))))))))
theorem Il {α β:Type}{f:α->Option β}:∀{a:List α} {b:List α} {x y:List β},aM f a=some x->aM f b=some y->aM f (a++b)=some (x++y)
 | [], b, x, y, h1, h2 => by
   have:x=[]:=by simpa[aM] using h1.symm
   subst this;exact h2
 | z :: a, b, x, y, h1, h2 => by
   simp only[aM] at h1;cases hz:f z with
   | none=>rw[hz] at h1;cases h1
   | some z' =>
     cases hr:aM f a with
     | none=>rw[hz,hr] at h1;cases h1
     | some r =>
       rw[hz,hr] at h1;cases h1;exact aJ hz (Il hr h2)
theorem IM:∀{a b c:List (List AV)},mi Told b c->mi Told (a++b) (a++c)
 | [],_,_,h=>h
 | _::a,_,_,h=>⟨DX,IM (a:=a) h⟩
theorem IP:∀{a:List (List AV)},mi Told a a
 | []=>trivial
 | _::a=>⟨DX,IP (a:=a)⟩
theorem lu {i:Ins}{k n:Int}(pre post:List Ins)(x:Ins)(w:AV)(hw:Told w (aU x.l.l))(hb:bY k i=pre++x::post)(hn:n=(bS i:Int)) :
 n=(bS i:Int)∧mi Told (pre.map Ins.cells++(x.cells.set 25 w)::post.map Ins.cells) ((bY k i).map Ins.cells):=by
 refine⟨hn,?_⟩;rw[hb,map_append,map_cons];exact IM ⟨ZG hw,IP⟩
theorem lZ {i:Ins}{k:Int}{H:ai}{nm:Nat}{n:Int}{es:List (List AV)}{len:Nat}{rr:Option AV}(hg:snap H 20 (.ao [.az nm 0 len 29,i64 n])=rr)(pre post:List Ins)(x:Ins)(v w:AV)(hH:H.get nm=some (.arr 29 es))(he:es=pre.map Ins.cells++(x.cells.set 25 v)::post.map Ins.cells)
 (hl:len=es.length)(hv:snap H 18 v=some w)(hw:Told w (aU x.l.l))(h1:∃ds:List (Int×Int),pre=ds.map fun d=>cq d.1 d.2)(h2:∃ds:List (Int×Int),post=ds.map fun d=>cq d.1 d.2)(hb:bY k i=pre++x::post)(hn:n=(bS i:Int)):∃rows,rr=some (.ao [.ak 29 rows,i64 n])∧n=(bS i:Int)∧mi Told rows ((bY k i).map Ins.cells):=by
 obtain⟨d1,rfl⟩:=h1;obtain⟨d2,rfl⟩:=h2;have hm:∀ds:List (Int×Int),aM (aM (snap H 18)) ((ds.map fun d=>cq d.1 d.2).map Ins.cells)=some ((ds.map fun d=>cq d.1 d.2).map Ins.cells):=fun ds=>sn fun r hr=>by
  rw[map_map] at hr;obtain⟨d,_,rfl⟩:=mem_map.1 hr;exact YE
 refine⟨((d1.map fun d=>cq d.1 d.2).map Ins.cells)++(x.cells.set 25 w)::((d2.map fun d=>cq d.1 d.2).map Ins.cells),hg.symm.trans (qT (n:=19) (qS (n:=18) hH aa ?_) rfl),lu _ _ x w hw hb hn⟩
 rw[drop_zero,hl,take_length,he];exact Il (hm d1) (aJ (YG (n:=17) hv) (hm d2))
theorem Oo (i:Ins)(k:Int)(n:Nat)(hk:4≤k∧k<100000)(hn:n≤1000)(hl40:i.l.l.length≤40)(hr:i.a<n∧i.b<n∧i.d<n∧∀r∈i.l.l,r<n)(hmv:i.op=3->0≤i.a) :
 af 91 [i.av,i64 k,.fn (.func 89) [] [.bq [aU (bC n)]],.bool true] (fun ae=>∃rows at_,ae = .ret (.ao [.ak 29 rows,i64 at_])∧at_=(bS i:Int)∧mi Told rows ((bY k i).map Ins.cells)):=by
 obtain⟨hra,hrb,hrd,hrl⟩:=hr;have hk2:0≤k∧k<100000:=⟨aa,hk.2⟩;have hil:=i.l.h;have hrl2:∀(m:Nat) (h:m<i.l.l.length),i.l.l[m]<100000:=fun m h=>by have:=hrl _ (getElem_mem h);omega
 refine zw func91 ?_;refine zg ?_
 repeat' ((first|(refine DV.flat rfl (vl k i.d ⟨aa,hk2⟩) ?_;rintro _ rfl;refine⟨_,rfl,rfl,?_⟩)|(refine DV.flat rfl (vl k i.a ⟨aa,hk2⟩) ?_;rintro _ rfl;refine⟨_,rfl,rfl,?_⟩)|(refine DV.flat rfl (vl k i.b ⟨aa,hk2⟩) ?_;rintro _ rfl;refine⟨_,rfl,rfl,?_⟩))<;>refine zg ?_)
 refine DW.aO aC aD [2,3,4,8,9,10,11,37,38] [7] 2000 (fun x:{x:Nat×List Int // x.2=(i.l.l.take x.1).map (aP k)∧x.1≤i.l.l.length}=>[(39,i64 x.1.1)]) (fun x=>(7,.arr 29 [((qY i k).cells.set 25 (fc 1000 1 (x.1.2.map ic)))])::e_ 1000 1 (x.1.2.map ic)) [(1000,.cell 7 25)] (fun x=>i.l.l.length+1 - x.1.1) (⟨(0,[]),rfl,zero_le _⟩) ?_
 refine zl fun x=>?_
 rcases x with⟨⟨m,_|⟨y,acc⟩⟩,hm,hmb⟩
 . dsimp only at hm hmb
   have i_len:=congrArg length hm;simp only[length_nil,length_cons,length_map,length_take] at i_len;refine zk ?_
   repeat' ((first|refine zf ?_|refine ay.mk _ (bI (l:=i.l.l) (i:=m) aa) ?_|(refine Rq.mk (by(first|rfl|((try simp only[rz]);(first|(first|omega|(have hu:(qY i k).d=k+i.d:=jY aa;omega)))))) ?_)|(refine zb ?_ ?_<;>(first|exact⟨⟩|intro h)<;>try (exfalso;(first|omega|(have hu:(qY i k).d=k+i.d:=jY aa;omega))))|(refine DC.pure rfl (ss 0 _) ?_;rintro _ rfl)|(refine DC.pure rfl (ss 1 _) ?_;rintro _ rfl)|(refine DC.pure rfl (ss _ 2) ?_;rintro _ rfl)|(refine DV.flat rfl (vl k (i.l.l[m]'aa) ⟨(hrl2 m aa),hk2⟩) ?_;rintro _ rfl;refine⟨_,rfl,rfl,?_⟩)|(refine DC.pure rfl (sV n i.a aa ⟨aa,aa⟩) ?_;rintro _ rfl)|(refine DC.pure rfl (sV n i.b aa ⟨aa,aa⟩) ?_;rintro _ rfl)|(refine DC.pure rfl (sV n i.d aa ⟨aa,aa⟩) ?_;rintro _ rfl))<;>refine zk ?_)
   . (refine⟨⟨(m+1,[aP k (i.l.l[m]'aa)]),(by rw[qW aa,<-hm];rfl),aa⟩,(by(conv=>whnf);(repeat' first|exact True.intro|apply And.intro|rfl|exact congrArg (fun v=>an.arr 29 [((qY i k).cells.set 25 v)]) (dW aB aB ag aB)|exact dW aB aB ag aB|exact eS aB (gl (f:=ic) (fun _=>by rfl) aB ag)|exact dZ (f:=ic) (fun _=>by rfl)|exact cX (f:=ic) (fun _=>by rfl)|(refine cw ?_ ?_ ?_<;>(try dsimp only)<;>omega)|exact congrArg (AV.int .i64) cS)),rfl,bG⟩)
   all_goals
    have hLm:i.l.l.map (aP k)=[]:=by
     have h9:=hm;rw[take_of_length_le aa] at h9;exact h9.symm
    have hwv:Told (.ah) (aU (i.l.l.map (aP k))):=by rw[hLm];exact Told.nil
   all_goals first
    | (refine⟨_,_,rfl,lu (i:=i) (k:=k) [cq 0 (aP k i.a)] [] (gr i (aP k i.d) 0 (aP k i.b) ⟨i.l.l.map (aP k),by rw[length_map];exact i.l.h⟩) (.ah) hwv ?_ ?_⟩;(focus (unfold bY fG xF fF cD dD;(repeat' split);all_goals first|rfl|exact⟨⟩|(exfalso;omega)));(focus (unfold bS cD;(repeat' split);all_goals first|rfl|exact⟨⟩|(exfalso;omega))))
    | (refine⟨_,_,rfl,lu (i:=i) (k:=k) [] [] (gr i (aP k i.d) (aP k i.a) (aP k i.b) ⟨i.l.l.map (aP k),by rw[length_map];exact i.l.h⟩) (.ah) hwv ?_ ?_⟩;(focus (unfold bY fG xF fF cD dD;(repeat' split);all_goals first|rfl|exact⟨⟩|(exfalso;omega)));(focus (unfold bS cD;(repeat' split);all_goals first|rfl|exact⟨⟩|(exfalso;omega))))
    | (refine⟨_,_,rfl,lu (i:=i) (k:=k) [] [cq (aP k i.d) 2] (gr i 2 (aP k i.a) (aP k i.b) ⟨i.l.l.map (aP k),by rw[length_map];exact i.l.h⟩) (.ah) hwv ?_ ?_⟩;(focus (unfold bY fG xF fF cD dD;(repeat' split);all_goals first|rfl|exact⟨⟩|(exfalso;omega)));(focus (unfold bS cD;(repeat' split);all_goals first|rfl|exact⟨⟩|(exfalso;omega))))
    | (refine⟨_,_,rfl,lu (i:=i) (k:=k) [cq 1 (aP k i.b)] [] (gr i (aP k i.d) (aP k i.a) 1 ⟨i.l.l.map (aP k),by rw[length_map];exact i.l.h⟩) (.ah) hwv ?_ ?_⟩;(focus (unfold bY fG xF fF cD dD;(repeat' split);all_goals first|rfl|exact⟨⟩|(exfalso;omega)));(focus (unfold bS cD;(repeat' split);all_goals first|rfl|exact⟨⟩|(exfalso;omega))))
    | (refine⟨_,_,rfl,lu (i:=i) (k:=k) [cq 1 (aP k i.b)] [cq (aP k i.d) 2] (gr i 2 (aP k i.a) 1 ⟨i.l.l.map (aP k),by rw[length_map];exact i.l.h⟩) (.ah) hwv ?_ ?_⟩;(focus (unfold bY fG xF fF cD dD;(repeat' split);all_goals first|rfl|exact⟨⟩|(exfalso;omega)));(focus (unfold bS cD;(repeat' split);all_goals first|rfl|exact⟨⟩|(exfalso;omega))))
    | (refine⟨_,_,rfl,lu (i:=i) (k:=k) [cq 0 (aP k i.a)] [cq (aP k i.d) 2] (gr i 2 0 (aP k i.b) ⟨i.l.l.map (aP k),by rw[length_map];exact i.l.h⟩) (.ah) hwv ?_ ?_⟩;(focus (unfold bY fG xF fF cD dD;(repeat' split);all_goals first|rfl|exact⟨⟩|(exfalso;omega)));(focus (unfold bS cD;(repeat' split);all_goals first|rfl|exact⟨⟩|(exfalso;omega))))
    | (refine⟨_,_,rfl,lu (i:=i) (k:=k) [cq 0 (aP k i.a)] [] (gr i (aP k i.d) 0 0 ⟨i.l.l.map (aP k),by rw[length_map];exact i.l.h⟩) (.ah) hwv ?_ ?_⟩;(focus (unfold bY fG xF fF cD dD;(repeat' split);all_goals first|rfl|exact⟨⟩|(exfalso;omega)));(focus (unfold bS cD;(repeat' split);all_goals first|rfl|exact⟨⟩|(exfalso;omega))))
    | (refine⟨_,_,rfl,lu (i:=i) (k:=k) [cq 0 (aP k i.a)] [cq (aP k i.d) 2] (gr i 2 0 0 ⟨i.l.l.map (aP k),by rw[length_map];exact i.l.h⟩) (.ah) hwv ?_ ?_⟩;(focus (unfold bY fG xF fF cD dD;(repeat' split);all_goals first|rfl|exact⟨⟩|(exfalso;omega)));(focus (unfold bS cD;(repeat' split);all_goals first|rfl|exact⟨⟩|(exfalso;omega))))
    | (refine⟨_,_,rfl,lu (i:=i) (k:=k) [cq 0 (aP k i.a),cq 1 (aP k i.b)] [] (gr i (aP k i.d) 0 1 ⟨i.l.l.map (aP k),by rw[length_map];exact i.l.h⟩) (.ah) hwv ?_ ?_⟩;(focus (unfold bY fG xF fF cD dD;(repeat' split);all_goals first|rfl|exact⟨⟩|(exfalso;omega)));(focus (unfold bS cD;(repeat' split);all_goals first|rfl|exact⟨⟩|(exfalso;omega))))
    | (refine⟨_,_,rfl,lu (i:=i) (k:=k) [cq 0 (aP k i.a),cq 1 (aP k i.b)] [cq (aP k i.d) 2] (gr i 2 0 1 ⟨i.l.l.map (aP k),by rw[length_map];exact i.l.h⟩) (.ah) hwv ?_ ?_⟩;(focus (unfold bY fG xF fF cD dD;(repeat' split);all_goals first|rfl|exact⟨⟩|(exfalso;omega)));(focus (unfold bS cD;(repeat' split);all_goals first|rfl|exact⟨⟩|(exfalso;omega))))
 . dsimp only at hm hmb
   have i_len:=congrArg length hm;simp only[length_nil,length_cons,length_map,length_take] at i_len;refine zk ?_
   repeat' ((first|refine zf ?_|(refine Rq.mk (di 8 2000 ag rfl rfl mF ab) ?_)|refine ay.mk _ (bI (l:=i.l.l) (i:=m) aa) ?_|(refine Rq.mk (by(first|rfl|((try simp only[rz]);(first|(first|omega|(have hu:(qY i k).d=k+i.d:=jY aa;omega)))))) ?_)|(refine zb ?_ ?_<;>(first|exact⟨⟩|intro h)<;>try (exfalso;(first|omega|(have hu:(qY i k).d=k+i.d:=jY aa;omega))))|(refine DC.pure rfl (ss 0 _) ?_;rintro _ rfl)|(refine DC.pure rfl (ss 1 _) ?_;rintro _ rfl)|(refine DC.pure rfl (ss _ 2) ?_;rintro _ rfl)|(refine DV.flat rfl (vl k (i.l.l[m]'aa) ⟨(hrl2 m aa),hk2⟩) ?_;rintro _ rfl;refine⟨_,rfl,rfl,?_⟩)|(refine DC.pure rfl (sV n i.a aa ⟨aa,aa⟩) ?_;rintro _ rfl)|(refine DC.pure rfl (sV n i.b aa ⟨aa,aa⟩) ?_;rintro _ rfl)|(refine DC.pure rfl (sV n i.d aa ⟨aa,aa⟩) ?_;rintro _ rfl))<;>refine zk ?_)
   . (refine⟨⟨(m+1,y::(acc++[aP k (i.l.l[m]'aa)])),(by rw[qW aa,<-hm];rfl),aa⟩,(by(conv=>whnf);(repeat' first|exact True.intro|apply And.intro|rfl|exact congrArg (fun v=>an.arr 29 [((qY i k).cells.set 25 v)]) (dW aB aB ag aB)|exact dW aB aB ag aB|exact eS aB (gl (f:=ic) (fun _=>by rfl) aB ag)|exact dZ (f:=ic) (fun _=>by rfl)|exact cX (f:=ic) (fun _=>by rfl)|(refine cw ?_ ?_ ?_<;>(try dsimp only)<;>omega)|exact congrArg (AV.int .i64) cS)),rfl,bG⟩)
   all_goals
    have hLm:i.l.l.map (aP k)=y::acc:=by
     have h9:=hm;rw[take_of_length_le aa] at h9;exact h9.symm
    have hwv:Told (aU (y::acc)) (aU (i.l.l.map (aP k))):=by rw[hLm];exact Told.r
   all_goals first
    | (generalize hg2:snap _ 20 _=rr;refine Exists.elim (lZ (i:=i) (k:=k) hg2 [cq 0 (aP k i.a)] [] (gr i (aP k i.d) 0 (aP k i.b) ⟨i.l.l.map (aP k),by rw[length_map];exact i.l.h⟩) (.az 1000 0 ((acc.map ic).length+1) 1) (aU (y::acc)) rfl rfl rfl (gV (f:=ic) (n:=17) (fun _=>rfl) rfl) hwv ⟨[(0,(aP k i.a))],rfl⟩ ⟨[],rfl⟩ ?_ ?_) ?_;(focus (unfold bY fG xF fF cD dD;(repeat' split);all_goals first|rfl|exact⟨⟩|(exfalso;omega)));(focus (unfold bS cD;(repeat' split);all_goals first|rfl|exact⟨⟩|(exfalso;omega)));(rintro rows ⟨rfl,hh⟩;(conv=>whnf);exact⟨rows,_,rfl,hh⟩))
    | (generalize hg2:snap _ 20 _=rr;refine Exists.elim (lZ (i:=i) (k:=k) hg2 [] [] (gr i (aP k i.d) (aP k i.a) (aP k i.b) ⟨i.l.l.map (aP k),by rw[length_map];exact i.l.h⟩) (.az 1000 0 ((acc.map ic).length+1) 1) (aU (y::acc)) rfl rfl rfl (gV (f:=ic) (n:=17) (fun _=>rfl) rfl) hwv ⟨[],rfl⟩ ⟨[],rfl⟩ ?_ ?_) ?_;(focus (unfold bY fG xF fF cD dD;(repeat' split);all_goals first|rfl|exact⟨⟩|(exfalso;omega)));(focus (unfold bS cD;(repeat' split);all_goals first|rfl|exact⟨⟩|(exfalso;omega)));(rintro rows ⟨rfl,hh⟩;(conv=>whnf);exact⟨rows,_,rfl,hh⟩))
    | (generalize hg2:snap _ 20 _=rr;refine Exists.elim (lZ (i:=i) (k:=k) hg2 [] [cq (aP k i.d) 2] (gr i 2 (aP k i.a) (aP k i.b) ⟨i.l.l.map (aP k),by rw[length_map];exact i.l.h⟩) (.az 1000 0 ((acc.map ic).length+1) 1) (aU (y::acc)) rfl rfl rfl (gV (f:=ic) (n:=17) (fun _=>rfl) rfl) hwv ⟨[],rfl⟩ ⟨[((aP k i.d),2)],rfl⟩ ?_ ?_) ?_;(focus (unfold bY fG xF fF cD dD;(repeat' split);all_goals first|rfl|exact⟨⟩|(exfalso;omega)));(focus (unfold bS cD;(repeat' split);all_goals first|rfl|exact⟨⟩|(exfalso;omega)));(rintro rows ⟨rfl,hh⟩;(conv=>whnf);exact⟨rows,_,rfl,hh⟩))
    | (generalize hg2:snap _ 20 _=rr;refine Exists.elim (lZ (i:=i) (k:=k) hg2 [cq 1 (aP k i.b)] [] (gr i (aP k i.d) (aP k i.a) 1 ⟨i.l.l.map (aP k),by rw[length_map];exact i.l.h⟩) (.az 1000 0 ((acc.map ic).length+1) 1) (aU (y::acc)) rfl rfl rfl (gV (f:=ic) (n:=17) (fun _=>rfl) rfl) hwv ⟨[(1,(aP k i.b))],rfl⟩ ⟨[],rfl⟩ ?_ ?_) ?_;(focus (unfold bY fG xF fF cD dD;(repeat' split);all_goals first|rfl|exact⟨⟩|(exfalso;omega)));(focus (unfold bS cD;(repeat' split);all_goals first|rfl|exact⟨⟩|(exfalso;omega)));(rintro rows ⟨rfl,hh⟩;(conv=>whnf);exact⟨rows,_,rfl,hh⟩))
    | (generalize hg2:snap _ 20 _=rr;refine Exists.elim (lZ (i:=i) (k:=k) hg2 [cq 1 (aP k i.b)] [cq (aP k i.d) 2] (gr i 2 (aP k i.a) 1 ⟨i.l.l.map (aP k),by rw[length_map];exact i.l.h⟩) (.az 1000 0 ((acc.map ic).length+1) 1) (aU (y::acc)) rfl rfl rfl (gV (f:=ic) (n:=17) (fun _=>rfl) rfl) hwv ⟨[(1,(aP k i.b))],rfl⟩ ⟨[((aP k i.d),2)],rfl⟩ ?_ ?_) ?_;(focus (unfold bY fG xF fF cD dD;(repeat' split);all_goals first|rfl|exact⟨⟩|(exfalso;omega)));(focus (unfold bS cD;(repeat' split);all_goals first|rfl|exact⟨⟩|(exfalso;omega)));(rintro rows ⟨rfl,hh⟩;(conv=>whnf);exact⟨rows,_,rfl,hh⟩))
    | (generalize hg2:snap _ 20 _=rr;refine Exists.elim (lZ (i:=i) (k:=k) hg2 [cq 0 (aP k i.a)] [cq (aP k i.d) 2] (gr i 2 0 (aP k i.b) ⟨i.l.l.map (aP k),by rw[length_map];exact i.l.h⟩) (.az 1000 0 ((acc.map ic).length+1) 1) (aU (y::acc)) rfl rfl rfl (gV (f:=ic) (n:=17) (fun _=>rfl) rfl) hwv ⟨[(0,(aP k i.a))],rfl⟩ ⟨[((aP k i.d),2)],rfl⟩ ?_ ?_) ?_;(focus (unfold bY fG xF fF cD dD;(repeat' split);all_goals first|rfl|exact⟨⟩|(exfalso;omega)));(focus (unfold bS cD;(repeat' split);all_goals first|rfl|exact⟨⟩|(exfalso;omega)));(rintro rows ⟨rfl,hh⟩;(conv=>whnf);exact⟨rows,_,rfl,hh⟩))
    | (generalize hg2:snap _ 20 _=rr;refine Exists.elim (lZ (i:=i) (k:=k) hg2 [cq 0 (aP k i.a)] [] (gr i (aP k i.d) 0 0 ⟨i.l.l.map (aP k),by rw[length_map];exact i.l.h⟩) (.az 1000 0 ((acc.map ic).length+1) 1) (aU (y::acc)) rfl rfl rfl (gV (f:=ic) (n:=17) (fun _=>rfl) rfl) hwv ⟨[(0,(aP k i.a))],rfl⟩ ⟨[],rfl⟩ ?_ ?_) ?_;(focus (unfold bY fG xF fF cD dD;(repeat' split);all_goals first|rfl|exact⟨⟩|(exfalso;omega)));(focus (unfold bS cD;(repeat' split);all_goals first|rfl|exact⟨⟩|(exfalso;omega)));(rintro rows ⟨rfl,hh⟩;(conv=>whnf);exact⟨rows,_,rfl,hh⟩))
    | (generalize hg2:snap _ 20 _=rr;refine Exists.elim (lZ (i:=i) (k:=k) hg2 [cq 0 (aP k i.a)] [cq (aP k i.d) 2] (gr i 2 0 0 ⟨i.l.l.map (aP k),by rw[length_map];exact i.l.h⟩) (.az 1000 0 ((acc.map ic).length+1) 1) (aU (y::acc)) rfl rfl rfl (gV (f:=ic) (n:=17) (fun _=>rfl) rfl) hwv ⟨[(0,(aP k i.a))],rfl⟩ ⟨[((aP k i.d),2)],rfl⟩ ?_ ?_) ?_;(focus (unfold bY fG xF fF cD dD;(repeat' split);all_goals first|rfl|exact⟨⟩|(exfalso;omega)));(focus (unfold bS cD;(repeat' split);all_goals first|rfl|exact⟨⟩|(exfalso;omega)));(rintro rows ⟨rfl,hh⟩;(conv=>whnf);exact⟨rows,_,rfl,hh⟩))
    | (generalize hg2:snap _ 20 _=rr;refine Exists.elim (lZ (i:=i) (k:=k) hg2 [cq 0 (aP k i.a),cq 1 (aP k i.b)] [] (gr i (aP k i.d) 0 1 ⟨i.l.l.map (aP k),by rw[length_map];exact i.l.h⟩) (.az 1000 0 ((acc.map ic).length+1) 1) (aU (y::acc)) rfl rfl rfl (gV (f:=ic) (n:=17) (fun _=>rfl) rfl) hwv ⟨[(0,(aP k i.a)),(1,(aP k i.b))],rfl⟩ ⟨[],rfl⟩ ?_ ?_) ?_;(focus (unfold bY fG xF fF cD dD;(repeat' split);all_goals first|rfl|exact⟨⟩|(exfalso;omega)));(focus (unfold bS cD;(repeat' split);all_goals first|rfl|exact⟨⟩|(exfalso;omega)));(rintro rows ⟨rfl,hh⟩;(conv=>whnf);exact⟨rows,_,rfl,hh⟩))
    | (generalize hg2:snap _ 20 _=rr;refine Exists.elim (lZ (i:=i) (k:=k) hg2 [cq 0 (aP k i.a),cq 1 (aP k i.b)] [cq (aP k i.d) 2] (gr i 2 0 1 ⟨i.l.l.map (aP k),by rw[length_map];exact i.l.h⟩) (.az 1000 0 ((acc.map ic).length+1) 1) (aU (y::acc)) rfl rfl rfl (gV (f:=ic) (n:=17) (fun _=>rfl) rfl) hwv ⟨[(0,(aP k i.a)),(1,(aP k i.b))],rfl⟩ ⟨[((aP k i.d),2)],rfl⟩ ?_ ?_) ?_;(focus (unfold bY fG xF fF cD dD;(repeat' split);all_goals first|rfl|exact⟨⟩|(exfalso;omega)));(focus (unfold bS cD;(repeat' split);all_goals first|rfl|exact⟨⟩|(exfalso;omega)));(rintro rows ⟨rfl,hh⟩;(conv=>whnf);exact⟨rows,_,rfl,hh⟩))
end Go.Ago
end
