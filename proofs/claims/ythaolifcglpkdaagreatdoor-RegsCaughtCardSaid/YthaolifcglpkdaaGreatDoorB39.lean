/-
  Part B39: lemmas, each with its own conditions.
-/
import Derived.Test.YthaolifcglpkdaaGreatDoorB36
set_option maxRecDepth 100000
set_option maxHeartbeats 0
set_option linter.all false
section
namespace Go.Ago
open Go.Proofs List Nat Tryz
attribute [local irreducible] bA bw aV bp bG wr aZ bF comp DC DP DW DV
attribute [local irreducible] du ct aL cE dE dm dR dL bU dw dG bK bn bB eh
theorem XG {n k:Nat}(h:k<(a_ n).length):(a_ n)[k]=(k:Int):=by simp[a_]
def NS (l:List Int)(r:Int)(x:Nat×Nat):Prop:=(x.1:Int)≤r∧r≤x.2∧x.2≤l.length
theorem Yt (l:List Int)(r:Int)(hl:l.length≤100000)(hr:0≤r∧r<l.length)(hget:∀(k:Nat) (h:k<l.length),l[k]=(k:Int)):af 90 [aT l,i64 r] (fun ae=>∃n,ae = .ret (.ao [i64 n,.bool true])):=by
 refine zw func90 ?_
 conv=>whnf
 refine DW.aO aC aD [0,1,4,5,6] [] 0 (fun x:{x:Nat×Nat // NS l r x}=>[(7,i64 x.1.1),(8,i64 x.1.2)]) (fun _=>[]) [] (fun x=>x.1.2 - x.1.1) (⟨(0,l.length),by dsimp only;omega,by dsimp only;omega,zbm _⟩) ?_
 conv=>whnf
 refine⟨?_,fun x=>?_⟩
 . conv => whnf
   (exact NO)
 rcases x with⟨⟨lo,hi⟩,hx1,hx2,hx3⟩
 dsimp only at hx1 hx2 hx3;refine zk ?_
 repeat' ((first|(refine Rq.mk (HW (lo:=lo) (hi:=hi) aa (by rw[zba];omega)) ?_)|refine az.mk _ (Jr (l:=l) (lo:=lo) (hi:=hi) aa aa) ?_|refine az.mk _ (bO (l:=l) (i:=lo) aa) ?_|(refine Rq.mk (by(first|rfl|((try simp only[rz]);(first|(first|omega|(rw[hget] at h;omega)))))) ?_)|(refine zb ?_ ?_<;>(first|exact⟨⟩|intro h)<;>try (exfalso;(first|omega|(rw[hget] at h;omega))))|(refine DC.pure rfl (Ir (l[(lo+hi) / 2]'aa) r) ?_;rintro _ (⟨rfl,hc⟩|⟨rfl,hc⟩)))<;>refine zk ?_)
 . have h7 := hget ((lo + hi) / 2) aa
   rw[h7] at hc;refine⟨⟨((lo+hi) / 2+1,hi),⟨bH,bH,hx3⟩⟩,?_,rfl,bH⟩
   conv=>whnf
   repeat' first|exact True.intro|exact zbc (AV.int .i64) (by(try dsimp only);rw[sr aa,aE aa aa];(try omega))|rfl|refine And.intro ?_ ?_
 . have h7 := hget ((lo + hi) / 2) aa
   rw[h7] at hc;refine⟨⟨(lo,(lo+hi) / 2),⟨hx1,bH,bH⟩⟩,?_,rfl,bH⟩
   conv=>whnf
   repeat' first|exact True.intro|exact zbc (AV.int .i64) (by(try dsimp only);rw[sr aa])|rfl|refine And.intro ?_ ?_
 all_goals exact⟨_,rfl⟩
theorem Yu (n:Nat)(r:Int)(hn:n≤100000)(hr:0≤r∧r<n):af 90 [aT (a_ n),i64 r] (fun ae=>∃n,ae = .ret (.ao [i64 n,.bool true])):=
 Yt (a_ n) r (by rw[ib];exact hn) (by rw[ib];exact hr) fun k h=>XG h
theorem sW (n:Nat)(r:Int)(hn:n≤100000)(hr:0≤r∧r<n):af 89 [i64 r,.bm [aT (a_ n)]] (fun ae=>ae = .ret (.bool true)):=by
 have k1:=Yu n r hn hr;exact zw func89 W
attribute [local irreducible] aR
theorem vt (k r:Int)(h:r<100000∧0≤k∧k<100000):af 125 [i64 r,.bm [i64 k]] (fun ae=>ae = .ret (i64 (aR k r))):=(OQ k r h).mono fun _ e=>by rw[e];unfold aR;rfl
theorem Ee:∀{l:List AV},fT Told l l
 | []=>trivial
 | _::l=>⟨.r,Ee (l:=l)⟩
theorem zag {i:Ins}{w:AV}(h:Told w (aT i.l.l)):fT Told (i.cells.set 25 w) i.cells:=
 ⟨.r,.r,.r,.r,.r,.r,.r,.r,.r,.r,.r,.r,.r,.r,.r,.r,.r,.r,.r,.r,.r,.r,.r,.r,.r,h,.r,.r,.r,trivial⟩
theorem Za {H:aj}{n:Nat}{d a:Int}:aM (snap H (n+1)) (cq d a).cells=some (cq d a).cells:=rfl
theorem Zc {H:aj}{n:Nat}{i:Ins}{v w:AV}(hv:snap H (n+1) v=some w):aM (snap H (n+1)) (i.cells.set 25 v)=some (i.cells.set 25 w):=
 aJ rfl (aJ rfl (aJ rfl (aJ rfl (aJ rfl (aJ rfl (aJ rfl (aJ rfl (aJ rfl (aJ rfl (aJ rfl (aJ rfl (aJ rfl (aJ rfl (aJ rfl (aJ rfl (aJ rfl (aJ rfl (aJ rfl (aJ rfl (aJ rfl (aJ rfl (aJ rfl (aJ rfl (aJ rfl (aJ hv (aJ rfl (aJ rfl (aJ rfl rfl))))))))))))))))))))))))))))
theorem IE {α β:Type}{f:α->Option β}:∀{a:List α} {b:List α} {x y:List β},aM f a=some x->aM f b=some y->aM f (a++b)=some (x++y)
 | [], b, x, y, h1, h2 => by
   have:x=[]:=by simpa[aM] using h1.symm
   subst this;exact h2
 | z :: a, b, x, y, h1, h2 => by
   simp only[aM] at h1;cases hz:f z with
   | none=>rw[hz] at h1;cases h1
   | some z' =>
     cases hr:aM f a with
     | none=>rw[hz,hr] at h1;cases h1
     | some r =>
       rw[hz,hr] at h1;cases h1;exact aJ hz (IE hr h2)
theorem I7:∀{a b c:List (List AV)},mg Told b c->mg Told (a++b) (a++c)
 | [],_,_,h=>h
 | _::a,_,_,h=>⟨Ee,I7 (a:=a) h⟩
theorem I9:∀{a:List (List AV)},mg Told a a
 | []=>trivial
 | _::a=>⟨Ee,I9 (a:=a)⟩
theorem lu {i:Ins}{k n:Int}(pre post:List Ins)(x:Ins)(w:AV)(hw:Told w (aT x.l.l))(hb:b_ k i=pre++x::post)(hn:n=(bX i:Int)) :
 n=(bX i:Int)∧mg Told (pre.map Ins.cells++(x.cells.set 25 w)::post.map Ins.cells) ((b_ k i).map Ins.cells):=by
 refine⟨hn,?_⟩;rw[hb,zb9,zcq];exact I7 ⟨zag hw,I9⟩
theorem l4 {i:Ins}{k:Int}{H:aj}{nm:Nat}{n:Int}{es:List (List AV)}{len:Nat}{rr:Option AV}(hg:snap H 20 (.ao [.ay nm 0 len 29,i64 n])=rr)(pre post:List Ins)(x:Ins)(v w:AV)(hH:H.get nm=some (.arr 29 es))(he:es=pre.map Ins.cells++(x.cells.set 25 v)::post.map Ins.cells)
 (hl:len=es.length)(hv:snap H 18 v=some w)(hw:Told w (aT x.l.l))(h1:∃ds:List (Int×Int),pre=ds.map fun d=>cq d.1 d.2)(h2:∃ds:List (Int×Int),post=ds.map fun d=>cq d.1 d.2)(hb:b_ k i=pre++x::post)(hn:n=(bX i:Int)):∃rows,rr=some (.ao [.ak 29 rows,i64 n])∧n=(bX i:Int)∧mg Told rows ((b_ k i).map Ins.cells):=by
 obtain⟨d1,rfl⟩:=h1;obtain⟨d2,rfl⟩:=h2;have hm:∀ds:List (Int×Int),aM (aM (snap H 18)) ((ds.map fun d=>cq d.1 d.2).map Ins.cells)=some ((ds.map fun d=>cq d.1 d.2).map Ins.cells):=fun ds=>sn fun r hr=>by
  rw[zcz] at hr;obtain⟨d,_,rfl⟩:=zbG.1 hr;exact Za
 refine⟨((d1.map fun d=>cq d.1 d.2).map Ins.cells)++(x.cells.set 25 w)::((d2.map fun d=>cq d.1 d.2).map Ins.cells),hg.symm.trans (o3 (n:=19) (oZ (n:=18) hH aa ?_) rfl),lu _ _ x w hw hb hn⟩
 rw[zcV,hl,zcI,he];exact IE (hm d1) (aJ (Zc (n:=17) hv) (hm d2))
theorem OR (i:Ins)(k:Int)(n:Nat)(hk:4≤k∧k<100000)(hn:n≤1000)(hl40:i.l.l.length≤40)(hr:i.a<n∧i.b<n∧i.d<n∧∀r∈i.l.l,r<n)(hmv:i.op=3->0≤i.a) :
 af 91 [i.av,i64 k,.fn (.func 89) [] [.bm [aT (a_ n)]],.bool true] (fun ae=>∃rows at_,ae = .ret (.ao [.ak 29 rows,i64 at_])∧at_=(bX i:Int)∧mg Told rows ((b_ k i).map Ins.cells)):=by
 obtain⟨hra,hrb,hrd,hrl⟩:=hr;have hk2:0≤k∧k<100000:=⟨aa,hk.2⟩;have hil:=i.l.h;have hrl2:∀(m:Nat) (h:m<i.l.l.length),i.l.l[m]<100000:=fun m h=>by have:=hrl _ (za9 h);omega
 refine zw func91 ?_;refine zg ?_
 repeat' ((first|(refine DV.flat rfl (vt k i.d ⟨aa,hk2⟩) ?_;rintro _ rfl;refine⟨_,rfl,rfl,?_⟩)|(refine DV.flat rfl (vt k i.a ⟨aa,hk2⟩) ?_;rintro _ rfl;refine⟨_,rfl,rfl,?_⟩)|(refine DV.flat rfl (vt k i.b ⟨aa,hk2⟩) ?_;rintro _ rfl;refine⟨_,rfl,rfl,?_⟩))<;>refine zg ?_)
 refine DW.aO aC aD [2,3,4,8,9,10,11,37,38] [7] 2000 (fun x:{x:Nat×List Int // x.2=(i.l.l.take x.1).map (aR k)∧x.1≤i.l.l.length}=>[(39,i64 x.1.1)]) (fun x=>(7,.arr 29 [((qU i k).cells.set 25 (fu 1000 1 (x.1.2.map ic)))])::fq 1000 1 (x.1.2.map ic)) [(1000,.cell 7 25)] (fun x=>i.l.l.length+1 - x.1.1) (⟨(0,[]),rfl,zbq _⟩) ?_
 refine zl fun x=>?_
 rcases x with⟨⟨m,_|⟨y,acc⟩⟩,hm,hmb⟩
 . dsimp only at hm hmb
   have i_len:=zbc length hm;simp only[zbp,zbd,zba,zbA] at i_len;refine zk ?_
   repeat' ((first|refine zf ?_|refine az.mk _ (bO (l:=i.l.l) (i:=m) aa) ?_|(refine Rq.mk (by(first|rfl|((try simp only[rz]);(first|(first|omega|(have hu:(qU i k).d=k+i.d:=jZ aa;omega)))))) ?_)|(refine zb ?_ ?_<;>(first|exact⟨⟩|intro h)<;>try (exfalso;(first|omega|(have hu:(qU i k).d=k+i.d:=jZ aa;omega))))|(refine DC.pure rfl (sw 0 _) ?_;rintro _ rfl)|(refine DC.pure rfl (sw 1 _) ?_;rintro _ rfl)|(refine DC.pure rfl (sw _ 2) ?_;rintro _ rfl)|(refine DV.flat rfl (vt k (i.l.l[m]'aa) ⟨(hrl2 m aa),hk2⟩) ?_;rintro _ rfl;refine⟨_,rfl,rfl,?_⟩)|(refine DC.pure rfl (sW n i.a aa ⟨aa,aa⟩) ?_;rintro _ rfl)|(refine DC.pure rfl (sW n i.b aa ⟨aa,aa⟩) ?_;rintro _ rfl)|(refine DC.pure rfl (sW n i.d aa ⟨aa,aa⟩) ?_;rintro _ rfl))<;>refine zk ?_)
   . (refine⟨⟨(m+1,[aR k (i.l.l[m]'aa)]),(by rw[qS aa,<-hm];rfl),aa⟩,(by(conv=>whnf);(repeat' first|exact True.intro|apply And.intro|rfl|exact zbc (fun v=>an.arr 29 [((qU i k).cells.set 25 v)]) (dX aB aB ag aB)|exact dX aB aB ag aB|exact e_ aB (gM (f:=ic) (fun _=>by rfl) aB ag)|exact eg (f:=ic) (fun _=>by rfl)|exact c_ (f:=ic) (fun _=>by rfl)|(refine cw ?_ ?_ ?_<;>(try dsimp only)<;>omega)|exact zbc (AV.int .i64) cV)),rfl,bH⟩)
   all_goals
    have hLm:i.l.l.map (aR k)=[]:=by
     have h9:=hm;rw[zbj aa] at h9;exact h9.symm
    have hwv:Told (.ai) (aT (i.l.l.map (aR k))):=by rw[hLm];exact Told.nil
   all_goals first
    | (refine⟨_,_,rfl,lu (i:=i) (k:=k) [cq 0 (aR k i.a)] [] (gw i (aR k i.d) 0 (aR k i.b) ⟨i.l.l.map (aR k),by rw[zba];exact i.l.h⟩) (.ai) hwv ?_ ?_⟩;(focus (unfold b_ fK xF fJ cD dF;(repeat' split);all_goals first|rfl|exact⟨⟩|(exfalso;omega)));(focus (unfold bX cD;(repeat' split);all_goals first|rfl|exact⟨⟩|(exfalso;omega))))
    | (refine⟨_,_,rfl,lu (i:=i) (k:=k) [] [] (gw i (aR k i.d) (aR k i.a) (aR k i.b) ⟨i.l.l.map (aR k),by rw[zba];exact i.l.h⟩) (.ai) hwv ?_ ?_⟩;(focus (unfold b_ fK xF fJ cD dF;(repeat' split);all_goals first|rfl|exact⟨⟩|(exfalso;omega)));(focus (unfold bX cD;(repeat' split);all_goals first|rfl|exact⟨⟩|(exfalso;omega))))
    | (refine⟨_,_,rfl,lu (i:=i) (k:=k) [] [cq (aR k i.d) 2] (gw i 2 (aR k i.a) (aR k i.b) ⟨i.l.l.map (aR k),by rw[zba];exact i.l.h⟩) (.ai) hwv ?_ ?_⟩;(focus (unfold b_ fK xF fJ cD dF;(repeat' split);all_goals first|rfl|exact⟨⟩|(exfalso;omega)));(focus (unfold bX cD;(repeat' split);all_goals first|rfl|exact⟨⟩|(exfalso;omega))))
    | (refine⟨_,_,rfl,lu (i:=i) (k:=k) [cq 1 (aR k i.b)] [] (gw i (aR k i.d) (aR k i.a) 1 ⟨i.l.l.map (aR k),by rw[zba];exact i.l.h⟩) (.ai) hwv ?_ ?_⟩;(focus (unfold b_ fK xF fJ cD dF;(repeat' split);all_goals first|rfl|exact⟨⟩|(exfalso;omega)));(focus (unfold bX cD;(repeat' split);all_goals first|rfl|exact⟨⟩|(exfalso;omega))))
    | (refine⟨_,_,rfl,lu (i:=i) (k:=k) [cq 1 (aR k i.b)] [cq (aR k i.d) 2] (gw i 2 (aR k i.a) 1 ⟨i.l.l.map (aR k),by rw[zba];exact i.l.h⟩) (.ai) hwv ?_ ?_⟩;(focus (unfold b_ fK xF fJ cD dF;(repeat' split);all_goals first|rfl|exact⟨⟩|(exfalso;omega)));(focus (unfold bX cD;(repeat' split);all_goals first|rfl|exact⟨⟩|(exfalso;omega))))
    | (refine⟨_,_,rfl,lu (i:=i) (k:=k) [cq 0 (aR k i.a)] [cq (aR k i.d) 2] (gw i 2 0 (aR k i.b) ⟨i.l.l.map (aR k),by rw[zba];exact i.l.h⟩) (.ai) hwv ?_ ?_⟩;(focus (unfold b_ fK xF fJ cD dF;(repeat' split);all_goals first|rfl|exact⟨⟩|(exfalso;omega)));(focus (unfold bX cD;(repeat' split);all_goals first|rfl|exact⟨⟩|(exfalso;omega))))
    | (refine⟨_,_,rfl,lu (i:=i) (k:=k) [cq 0 (aR k i.a)] [] (gw i (aR k i.d) 0 0 ⟨i.l.l.map (aR k),by rw[zba];exact i.l.h⟩) (.ai) hwv ?_ ?_⟩;(focus (unfold b_ fK xF fJ cD dF;(repeat' split);all_goals first|rfl|exact⟨⟩|(exfalso;omega)));(focus (unfold bX cD;(repeat' split);all_goals first|rfl|exact⟨⟩|(exfalso;omega))))
    | (refine⟨_,_,rfl,lu (i:=i) (k:=k) [cq 0 (aR k i.a)] [cq (aR k i.d) 2] (gw i 2 0 0 ⟨i.l.l.map (aR k),by rw[zba];exact i.l.h⟩) (.ai) hwv ?_ ?_⟩;(focus (unfold b_ fK xF fJ cD dF;(repeat' split);all_goals first|rfl|exact⟨⟩|(exfalso;omega)));(focus (unfold bX cD;(repeat' split);all_goals first|rfl|exact⟨⟩|(exfalso;omega))))
    | (refine⟨_,_,rfl,lu (i:=i) (k:=k) [cq 0 (aR k i.a),cq 1 (aR k i.b)] [] (gw i (aR k i.d) 0 1 ⟨i.l.l.map (aR k),by rw[zba];exact i.l.h⟩) (.ai) hwv ?_ ?_⟩;(focus (unfold b_ fK xF fJ cD dF;(repeat' split);all_goals first|rfl|exact⟨⟩|(exfalso;omega)));(focus (unfold bX cD;(repeat' split);all_goals first|rfl|exact⟨⟩|(exfalso;omega))))
    | (refine⟨_,_,rfl,lu (i:=i) (k:=k) [cq 0 (aR k i.a),cq 1 (aR k i.b)] [cq (aR k i.d) 2] (gw i 2 0 1 ⟨i.l.l.map (aR k),by rw[zba];exact i.l.h⟩) (.ai) hwv ?_ ?_⟩;(focus (unfold b_ fK xF fJ cD dF;(repeat' split);all_goals first|rfl|exact⟨⟩|(exfalso;omega)));(focus (unfold bX cD;(repeat' split);all_goals first|rfl|exact⟨⟩|(exfalso;omega))))
 . dsimp only at hm hmb
   have i_len:=zbc length hm;simp only[zbp,zbd,zba,zbA] at i_len;refine zk ?_
   repeat' ((first|refine zf ?_|(refine Rq.mk (eP 8 2000 ag rfl rfl lQ ab) ?_)|refine az.mk _ (bO (l:=i.l.l) (i:=m) aa) ?_|(refine Rq.mk (by(first|rfl|((try simp only[rz]);(first|(first|omega|(have hu:(qU i k).d=k+i.d:=jZ aa;omega)))))) ?_)|(refine zb ?_ ?_<;>(first|exact⟨⟩|intro h)<;>try (exfalso;(first|omega|(have hu:(qU i k).d=k+i.d:=jZ aa;omega))))|(refine DC.pure rfl (sw 0 _) ?_;rintro _ rfl)|(refine DC.pure rfl (sw 1 _) ?_;rintro _ rfl)|(refine DC.pure rfl (sw _ 2) ?_;rintro _ rfl)|(refine DV.flat rfl (vt k (i.l.l[m]'aa) ⟨(hrl2 m aa),hk2⟩) ?_;rintro _ rfl;refine⟨_,rfl,rfl,?_⟩)|(refine DC.pure rfl (sW n i.a aa ⟨aa,aa⟩) ?_;rintro _ rfl)|(refine DC.pure rfl (sW n i.b aa ⟨aa,aa⟩) ?_;rintro _ rfl)|(refine DC.pure rfl (sW n i.d aa ⟨aa,aa⟩) ?_;rintro _ rfl))<;>refine zk ?_)
   . (refine⟨⟨(m+1,y::(acc++[aR k (i.l.l[m]'aa)])),(by rw[qS aa,<-hm];rfl),aa⟩,(by(conv=>whnf);(repeat' first|exact True.intro|apply And.intro|rfl|exact zbc (fun v=>an.arr 29 [((qU i k).cells.set 25 v)]) (dX aB aB ag aB)|exact dX aB aB ag aB|exact e_ aB (gM (f:=ic) (fun _=>by rfl) aB ag)|exact eg (f:=ic) (fun _=>by rfl)|exact c_ (f:=ic) (fun _=>by rfl)|(refine cw ?_ ?_ ?_<;>(try dsimp only)<;>omega)|exact zbc (AV.int .i64) cV)),rfl,bH⟩)
   all_goals
    have hLm:i.l.l.map (aR k)=y::acc:=by
     have h9:=hm;rw[zbj aa] at h9;exact h9.symm
    have hwv:Told (aT (y::acc)) (aT (i.l.l.map (aR k))):=by rw[hLm];exact Told.r
   all_goals first
    | (generalize hg2:snap _ 20 _=rr;refine zct (l4 (i:=i) (k:=k) hg2 [cq 0 (aR k i.a)] [] (gw i (aR k i.d) 0 (aR k i.b) ⟨i.l.l.map (aR k),by rw[zba];exact i.l.h⟩) (.ay 1000 0 ((acc.map ic).length+1) 1) (aT (y::acc)) rfl rfl rfl (gW (f:=ic) (n:=17) (fun _=>rfl) rfl) hwv ⟨[(0,(aR k i.a))],rfl⟩ ⟨[],rfl⟩ ?_ ?_) ?_;(focus (unfold b_ fK xF fJ cD dF;(repeat' split);all_goals first|rfl|exact⟨⟩|(exfalso;omega)));(focus (unfold bX cD;(repeat' split);all_goals first|rfl|exact⟨⟩|(exfalso;omega)));(rintro rows ⟨rfl,hh⟩;(conv=>whnf);exact⟨rows,_,rfl,hh⟩))
    | (generalize hg2:snap _ 20 _=rr;refine zct (l4 (i:=i) (k:=k) hg2 [] [] (gw i (aR k i.d) (aR k i.a) (aR k i.b) ⟨i.l.l.map (aR k),by rw[zba];exact i.l.h⟩) (.ay 1000 0 ((acc.map ic).length+1) 1) (aT (y::acc)) rfl rfl rfl (gW (f:=ic) (n:=17) (fun _=>rfl) rfl) hwv ⟨[],rfl⟩ ⟨[],rfl⟩ ?_ ?_) ?_;(focus (unfold b_ fK xF fJ cD dF;(repeat' split);all_goals first|rfl|exact⟨⟩|(exfalso;omega)));(focus (unfold bX cD;(repeat' split);all_goals first|rfl|exact⟨⟩|(exfalso;omega)));(rintro rows ⟨rfl,hh⟩;(conv=>whnf);exact⟨rows,_,rfl,hh⟩))
    | (generalize hg2:snap _ 20 _=rr;refine zct (l4 (i:=i) (k:=k) hg2 [] [cq (aR k i.d) 2] (gw i 2 (aR k i.a) (aR k i.b) ⟨i.l.l.map (aR k),by rw[zba];exact i.l.h⟩) (.ay 1000 0 ((acc.map ic).length+1) 1) (aT (y::acc)) rfl rfl rfl (gW (f:=ic) (n:=17) (fun _=>rfl) rfl) hwv ⟨[],rfl⟩ ⟨[((aR k i.d),2)],rfl⟩ ?_ ?_) ?_;(focus (unfold b_ fK xF fJ cD dF;(repeat' split);all_goals first|rfl|exact⟨⟩|(exfalso;omega)));(focus (unfold bX cD;(repeat' split);all_goals first|rfl|exact⟨⟩|(exfalso;omega)));(rintro rows ⟨rfl,hh⟩;(conv=>whnf);exact⟨rows,_,rfl,hh⟩))
    | (generalize hg2:snap _ 20 _=rr;refine zct (l4 (i:=i) (k:=k) hg2 [cq 1 (aR k i.b)] [] (gw i (aR k i.d) (aR k i.a) 1 ⟨i.l.l.map (aR k),by rw[zba];exact i.l.h⟩) (.ay 1000 0 ((acc.map ic).length+1) 1) (aT (y::acc)) rfl rfl rfl (gW (f:=ic) (n:=17) (fun _=>rfl) rfl) hwv ⟨[(1,(aR k i.b))],rfl⟩ ⟨[],rfl⟩ ?_ ?_) ?_;(focus (unfold b_ fK xF fJ cD dF;(repeat' split);all_goals first|rfl|exact⟨⟩|(exfalso;omega)));(focus (unfold bX cD;(repeat' split);all_goals first|rfl|exact⟨⟩|(exfalso;omega)));(rintro rows ⟨rfl,hh⟩;(conv=>whnf);exact⟨rows,_,rfl,hh⟩))
    | (generalize hg2:snap _ 20 _=rr;refine zct (l4 (i:=i) (k:=k) hg2 [cq 1 (aR k i.b)] [cq (aR k i.d) 2] (gw i 2 (aR k i.a) 1 ⟨i.l.l.map (aR k),by rw[zba];exact i.l.h⟩) (.ay 1000 0 ((acc.map ic).length+1) 1) (aT (y::acc)) rfl rfl rfl (gW (f:=ic) (n:=17) (fun _=>rfl) rfl) hwv ⟨[(1,(aR k i.b))],rfl⟩ ⟨[((aR k i.d),2)],rfl⟩ ?_ ?_) ?_;(focus (unfold b_ fK xF fJ cD dF;(repeat' split);all_goals first|rfl|exact⟨⟩|(exfalso;omega)));(focus (unfold bX cD;(repeat' split);all_goals first|rfl|exact⟨⟩|(exfalso;omega)));(rintro rows ⟨rfl,hh⟩;(conv=>whnf);exact⟨rows,_,rfl,hh⟩))
    | (generalize hg2:snap _ 20 _=rr;refine zct (l4 (i:=i) (k:=k) hg2 [cq 0 (aR k i.a)] [cq (aR k i.d) 2] (gw i 2 0 (aR k i.b) ⟨i.l.l.map (aR k),by rw[zba];exact i.l.h⟩) (.ay 1000 0 ((acc.map ic).length+1) 1) (aT (y::acc)) rfl rfl rfl (gW (f:=ic) (n:=17) (fun _=>rfl) rfl) hwv ⟨[(0,(aR k i.a))],rfl⟩ ⟨[((aR k i.d),2)],rfl⟩ ?_ ?_) ?_;(focus (unfold b_ fK xF fJ cD dF;(repeat' split);all_goals first|rfl|exact⟨⟩|(exfalso;omega)));(focus (unfold bX cD;(repeat' split);all_goals first|rfl|exact⟨⟩|(exfalso;omega)));(rintro rows ⟨rfl,hh⟩;(conv=>whnf);exact⟨rows,_,rfl,hh⟩))
    | (generalize hg2:snap _ 20 _=rr;refine zct (l4 (i:=i) (k:=k) hg2 [cq 0 (aR k i.a)] [] (gw i (aR k i.d) 0 0 ⟨i.l.l.map (aR k),by rw[zba];exact i.l.h⟩) (.ay 1000 0 ((acc.map ic).length+1) 1) (aT (y::acc)) rfl rfl rfl (gW (f:=ic) (n:=17) (fun _=>rfl) rfl) hwv ⟨[(0,(aR k i.a))],rfl⟩ ⟨[],rfl⟩ ?_ ?_) ?_;(focus (unfold b_ fK xF fJ cD dF;(repeat' split);all_goals first|rfl|exact⟨⟩|(exfalso;omega)));(focus (unfold bX cD;(repeat' split);all_goals first|rfl|exact⟨⟩|(exfalso;omega)));(rintro rows ⟨rfl,hh⟩;(conv=>whnf);exact⟨rows,_,rfl,hh⟩))
    | (generalize hg2:snap _ 20 _=rr;refine zct (l4 (i:=i) (k:=k) hg2 [cq 0 (aR k i.a)] [cq (aR k i.d) 2] (gw i 2 0 0 ⟨i.l.l.map (aR k),by rw[zba];exact i.l.h⟩) (.ay 1000 0 ((acc.map ic).length+1) 1) (aT (y::acc)) rfl rfl rfl (gW (f:=ic) (n:=17) (fun _=>rfl) rfl) hwv ⟨[(0,(aR k i.a))],rfl⟩ ⟨[((aR k i.d),2)],rfl⟩ ?_ ?_) ?_;(focus (unfold b_ fK xF fJ cD dF;(repeat' split);all_goals first|rfl|exact⟨⟩|(exfalso;omega)));(focus (unfold bX cD;(repeat' split);all_goals first|rfl|exact⟨⟩|(exfalso;omega)));(rintro rows ⟨rfl,hh⟩;(conv=>whnf);exact⟨rows,_,rfl,hh⟩))
    | (generalize hg2:snap _ 20 _=rr;refine zct (l4 (i:=i) (k:=k) hg2 [cq 0 (aR k i.a),cq 1 (aR k i.b)] [] (gw i (aR k i.d) 0 1 ⟨i.l.l.map (aR k),by rw[zba];exact i.l.h⟩) (.ay 1000 0 ((acc.map ic).length+1) 1) (aT (y::acc)) rfl rfl rfl (gW (f:=ic) (n:=17) (fun _=>rfl) rfl) hwv ⟨[(0,(aR k i.a)),(1,(aR k i.b))],rfl⟩ ⟨[],rfl⟩ ?_ ?_) ?_;(focus (unfold b_ fK xF fJ cD dF;(repeat' split);all_goals first|rfl|exact⟨⟩|(exfalso;omega)));(focus (unfold bX cD;(repeat' split);all_goals first|rfl|exact⟨⟩|(exfalso;omega)));(rintro rows ⟨rfl,hh⟩;(conv=>whnf);exact⟨rows,_,rfl,hh⟩))
    | (generalize hg2:snap _ 20 _=rr;refine zct (l4 (i:=i) (k:=k) hg2 [cq 0 (aR k i.a),cq 1 (aR k i.b)] [cq (aR k i.d) 2] (gw i 2 0 1 ⟨i.l.l.map (aR k),by rw[zba];exact i.l.h⟩) (.ay 1000 0 ((acc.map ic).length+1) 1) (aT (y::acc)) rfl rfl rfl (gW (f:=ic) (n:=17) (fun _=>rfl) rfl) hwv ⟨[(0,(aR k i.a)),(1,(aR k i.b))],rfl⟩ ⟨[((aR k i.d),2)],rfl⟩ ?_ ?_) ?_;(focus (unfold b_ fK xF fJ cD dF;(repeat' split);all_goals first|rfl|exact⟨⟩|(exfalso;omega)));(focus (unfold bX cD;(repeat' split);all_goals first|rfl|exact⟨⟩|(exfalso;omega)));(rintro rows ⟨rfl,hh⟩;(conv=>whnf);exact⟨rows,_,rfl,hh⟩))
end Go.Ago
end
