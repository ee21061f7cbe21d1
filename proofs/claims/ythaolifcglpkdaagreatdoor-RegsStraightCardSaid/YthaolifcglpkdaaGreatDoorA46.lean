/-
  Part 46: lemmas, each with its own conditions.
-/
import Derived.Test.YthaolifcglpkdaaGreatDoorA42
import Derived.Test.YthaolifcglpkdaaGreatDoorA45
set_option maxRecDepth 100000
set_option maxHeartbeats 0
set_option linter.all false
section
namespace Go.Ago
open Go.Proofs
attribute [local irreducible] ltI leI eqI eqS shrI wr inB mmI comp DC DP DW DV
attribute [local irreducible] ckP ct InR PLc zev zeu zdo zcf ckC zb7 entN zbh za3 bitW EntP
theorem zw2 {n k:Nat}(h:k<(zby n).length):(zby n)[k]=(k:Int):=by simp[zby]
def BrS (l:List Int)(r:Int)(x:Nat×Nat):Prop:=(x.1:Int)≤r∧r≤x.2∧x.2≤l.length
theorem zww (l:List Int)(r:Int)(hl:l.length≤100000)(hr:0≤r∧r<l.length)(hget:∀(k:Nat) (h:k<l.length),l[k]=(k:Int)):DPR 90 [zaq l,i64 r] (fun ae=>∃n,ae = .ret (.tup [i64 n,.bool true])):=by
 refine zaf eRg zae Tryz.func90 rfl (by decide) rfl rfl ?_
 conv=>whnf
 refine zai eRg zae [0,1,4,5,6] [] 0 (fun x:{x:Nat×Nat // BrS l r x}=>[(7,i64 x.1.1),(8,i64 x.1.2)]) (fun _=>[]) [] (fun x=>x.1.2 - x.1.1) (⟨(0,l.length),by dsimp only;omega,by dsimp only;omega,Nat.le_refl _⟩) ?_
 conv=>whnf
 refine⟨?_,fun x=>?_⟩
 · conv => whnf
   (repeat' first|exact True.intro|exact congrArg (AV.int .i64) (congrArg (fun k:Nat=>(k:Int)) (List.length_map _))|rfl|apply And.intro )
 rcases x with⟨⟨lo,hi⟩,hx1,hx2,hx3⟩
 dsimp only at hx1 hx2 hx3
 conv=>whnf
 repeat' first
  | (refine Rq.mk (yaq (lo:=lo) (hi:=hi) (by omega) (by rw[List.length_map];omega)) ?_;conv=>whnf)
  | (refine Ok3.mk _ (zzz (l:=l) (lo:=lo) (hi:=hi) (by omega) (by omega)) ?_;conv=>whnf)
  | (refine Ok3.mk _ (zam (l:=l) (i:=lo) (by omega)) ?_;conv=>whnf)
  | (refine Rq.mk (by(first|rfl|((try simp only[rz]);((omega ))))) ?_;conv=>whnf)
  | (refine Br.split (fun h=>?_) (fun h=>?_)<;>(try simp only[bz] at h)<;>first|(exfalso;(first|omega|(rw[hget] at h;omega)))|(conv=>whnf))
  | (refine zaa rfl (zq4 (l[(lo+hi) / 2]'(by omega)) r) ?_;rintro _ (⟨rfl,hc⟩|⟨rfl,hc⟩)<;>conv=>whnf)
 · have h7 := hget ((lo + hi) / 2) (by omega)
   rw[h7] at hc;refine⟨⟨((lo+hi) / 2+1,hi),⟨(by(dsimp only);omega),(by(dsimp only);omega),hx3⟩⟩,?_,rfl,(by(dsimp only);omega)⟩
   conv=>whnf
   repeat' first|exact True.intro|exact congrArg (AV.int .i64) (by(try dsimp only);rw[zn3 (by omega),wr64 (by omega) (by omega)];(try omega))|rfl|refine And.intro ?_ ?_
 · have h7 := hget ((lo + hi) / 2) (by omega)
   rw[h7] at hc;refine⟨⟨(lo,(lo+hi) / 2),⟨hx1,(by(dsimp only);omega),(by(dsimp only);omega)⟩⟩,?_,rfl,(by(dsimp only);omega)⟩
   conv=>whnf
   repeat' first|exact True.intro|exact congrArg (AV.int .i64) (by(try dsimp only);rw[zn3 (by omega)])|rfl|refine And.intro ?_ ?_
 all_goals exact⟨_,rfl⟩
theorem zwv (n:Nat)(r:Int)(hn:n≤100000)(hr:0≤r∧r<n):DPR 90 [zaq (zby n),i64 r] (fun ae=>∃n,ae = .ret (.tup [i64 n,.bool true])):=
 zww (zby n) r (by rw[zff];exact hn) (by rw[zff];exact hr) fun k h=>zw2 h
theorem zg8 (n:Nat)(r:Int)(hn:n≤100000)(hr:0≤r∧r<n):DPR 89 [i64 r,.rptr [zaq (zby n)]] (fun ae=>ae = .ret (.bool true)):=by
 refine zaf eRg zae Tryz.func89 rfl (by decide) rfl rfl ?_
 conv=>whnf
 repeat' first
  | (refine zaa rfl (zwv n r hn hr) ?_;rintro _ ⟨m,rfl⟩<;>conv=>whnf)
 all_goals rfl
def upR (k r:Int):Int:=if r<0 then r else k+r
theorem yf0 {k r:Int}(h:0≤r):upR k r=k+r:=by unfold upR;rw[if_neg (by omega)]
attribute [local irreducible] upR
theorem zlp (k r:Int)(h:r<100000∧0≤k∧k<100000):DPR 125 [i64 r,.rptr [i64 k]] (fun ae=>ae = .ret (i64 (upR k r))):=(zrz k r h).mono fun _ e=>by rw[e];unfold upR;rfl
def upI (i:Ins)(k:Int):Ins:={ i with d:=upR k i.d,a:=upR k i.a,b:=upR k i.b,l:=⟨i.l.l.map (upR k),by rw[List.length_map];exact i.l.h⟩ }
abbrev regI (i:Ins)(d a b:Int)(l:BL Int):Ins:={ i with d:=d,a:=a,b:=b,l:=l }
def BetP (i:Ins)(out:List Ins)(n:Int):Prop:=∃pre x post,out=pre++x::post∧n=(pre.length:Int)∧(x.op=i.op∧x.p=i.p∧x.n=i.n∧x.m=i.m)∧(∀y∈pre,y.op=3)∧(∀y∈post,y.op=3)∧out.length≤4
theorem zlq:∀{l:List AV},nrmL Told l l
 | []=>trivial
 | _::l=>⟨.r,zlq (l:=l)⟩
theorem zt7 {i:Ins}{w:AV}(h:Told w (zaq i.l.l)):nrmL Told (i.cells.set 25 w) i.cells:=
 ⟨.r,.r,.r,.r,.r,.r,.r,.r,.r,.r,.r,.r,.r,.r,.r,.r,.r,.r,.r,.r,.r,.r,.r,.r,.r,h,.r,.r,.r,trivial⟩
theorem yhy {H:zah}{n:Nat}{d a:Int}:mapO (snap H (n+1)) (zb3 d a).cells=some (zb3 d a).cells:=rfl
theorem ydp {H:zah}{n:Nat}{i:Ins}{v w:AV}(hv:snap H (n+1) v=some w):mapO (snap H (n+1)) (i.cells.set 25 v)=some (i.cells.set 25 w):=
 zab rfl (zab rfl (zab rfl (zab rfl (zab rfl (zab rfl (zab rfl (zab rfl (zab rfl (zab rfl (zab rfl (zab rfl (zab rfl (zab rfl (zab rfl (zab rfl (zab rfl (zab rfl (zab rfl (zab rfl (zab rfl (zab rfl (zab rfl (zab rfl (zab rfl (zab hv (zab rfl (zab rfl (zab rfl rfl))))))))))))))))))))))))))))
theorem zvm {α β:Type}{f:α→Option β}:∀{a:List α} {b:List α} {x y:List β},mapO f a=some x→mapO f b=some y→mapO f (a++b)=some (x++y)
 | [], b, x, y, h1, h2 => by
   have:x=[]:=by simpa[mapO] using h1.symm
   subst this;exact h2
 | z :: a, b, x, y, h1, h2 => by
   simp only[mapO] at h1;cases hz:f z with
   | none=>rw[hz] at h1;cases h1
   | some z' =>
     cases hr:mapO f a with
     | none=>rw[hz,hr] at h1;cases h1
     | some r =>
       rw[hz,hr] at h1;cases h1;exact zab hz (zvm hr h2)
theorem zl5:∀{a b c:List (List AV)},znh Told b c→znh Told (a++b) (a++c)
 | [],_,_,h=>h
 | _::a,_,_,h=>⟨zlq,zl5 (a:=a) h⟩
theorem zjx:∀{a:List (List AV)},znh Told a a
 | []=>trivial
 | _::a=>⟨zlq,zjx (a:=a)⟩
theorem ze9 {i:Ins}{n:Int}(pre post:List Ins)(x:Ins)(w:AV)(hw:Told w (zaq x.l.l))(hn:n=(pre.length:Int))(hx:x.op=i.op∧x.p=i.p∧x.n=i.n∧x.m=i.m)(h1:∃ds:List (Int×Int),pre=ds.map fun d=>zb3 d.1 d.2)(h2:∃ds:List (Int×Int),post=ds.map fun d=>zb3 d.1 d.2)(h3:pre.length≤2∧post.length≤1) :
 ∃out,BetP i out n∧znh Told (pre.map Ins.cells++(x.cells.set 25 w)::post.map Ins.cells) (out.map Ins.cells):=by
 obtain⟨d1,rfl⟩:=h1;obtain⟨d2,rfl⟩:=h2;refine⟨(d1.map fun d=>zb3 d.1 d.2)++x::(d2.map fun d=>zb3 d.1 d.2),⟨_,x,_,rfl,hn,hx,?_,?_,?_⟩,?_⟩
 · intro y hy;obtain⟨d,_,rfl⟩:=List.mem_map.1 hy;rfl
 · intro y hy;obtain⟨d,_,rfl⟩:=List.mem_map.1 hy;rfl
 · rw[List.length_append,List.length_cons];omega
 · rw [List.map_append, List.map_cons]
   exact zl5 ⟨zt7 hw,zjx⟩
theorem zfa {i:Ins}{H:zah}{nm:Nat}{n:Int}{es:List (List AV)}{len:Nat}{rr:Option AV}(hg:snap H 20 (.tup [.slc nm 0 len 29,i64 n])=rr)(pre post:List Ins)(x:Ins)(v w:AV)(hH:H.get nm=some (.arr 29 es))(he:es=pre.map Ins.cells++(x.cells.set 25 v)::post.map Ins.cells)
 (hl:len=es.length)(hv:snap H 18 v=some w)(hw:Told w (zaq x.l.l))(hn:n=(pre.length:Int))(hx:x.op=i.op∧x.p=i.p∧x.n=i.n∧x.m=i.m)(h1:∃ds:List (Int×Int),pre=ds.map fun d=>zb3 d.1 d.2)(h2:∃ds:List (Int×Int),post=ds.map fun d=>zb3 d.1 d.2)(h3:pre.length≤2∧post.length≤1):∃rows,rr=some (.tup [.rsl 29 rows,i64 n])∧∃out,BetP i out n∧znh Told rows (out.map Ins.cells):=by
 obtain⟨d1,rfl⟩:=h1;obtain⟨d2,rfl⟩:=h2;have hm:∀ds:List (Int×Int),mapO (mapO (snap H 18)) ((ds.map fun d=>zb3 d.1 d.2).map Ins.cells)=some ((ds.map fun d=>zb3 d.1 d.2).map Ins.cells):=fun ds=>zl9 fun r hr=>by
  rw[List.map_map] at hr;obtain⟨d,_,rfl⟩:=List.mem_map.1 hr;exact yhy
 refine⟨((d1.map fun d=>zb3 d.1 d.2).map Ins.cells)++(x.cells.set 25 w)::((d2.map fun d=>zb3 d.1 d.2).map Ins.cells),hg.symm.trans (zd5 (n:=19) (zky (n:=18) hH (by omega) ?_) rfl),(d1.map fun d=>zb3 d.1 d.2)++x::(d2.map fun d=>zb3 d.1 d.2),⟨_,x,_,rfl,hn,hx,?_,?_,?_⟩,?_⟩
 · rw [List.drop_zero, hl, List.take_length, he]
   exact zvm (hm d1) (zab (ydp (n:=17) hv) (hm d2))
 · intro y hy;obtain⟨d,_,rfl⟩:=List.mem_map.1 hy;rfl
 · intro y hy;obtain⟨d,_,rfl⟩:=List.mem_map.1 hy;rfl
 · rw[List.length_append,List.length_cons];omega
 · rw [List.map_append, List.map_cons]
   exact zl5 ⟨zt7 hw,zjx⟩
theorem ztz (i:Ins)(k:Int)(n:Nat)(hk:4≤k∧k<100000)(hn:n≤1000)(hl40:i.l.l.length≤40)(hr:i.a<n∧i.b<n∧i.d<n∧∀r∈i.l.l,r<n) :
 DPR 91 [i.av,i64 k,.fn (.func 89) [] [.rptr [zaq (zby n)]],.bool true] (fun ae=>∃rows at_,ae = .ret (.tup [.rsl 29 rows,i64 at_])∧∃out,BetP i out at_∧znh Told rows (out.map Ins.cells)):=by
 obtain⟨hra,hrb,hrd,hrl⟩:=hr;have hk2:0≤k∧k<100000:=⟨by omega,hk.2⟩
 have hil:=i.l.h;have hrl2:∀(m:Nat) (h:m<i.l.l.length),i.l.l[m]<100000:=fun m h=>by have:=hrl _ (List.getElem_mem h);omega
 refine zaf eRg zae Tryz.func91 rfl (by decide) rfl rfl ?_
 conv=>whnf
 repeat' ((first|refine Rq.mk (b:=chk3 _ _ _ _ _ _) (by kernel_rfl) ?_|refine And.intro (a:=zaw _=true) (by kernel_rfl) (LzK.e ?_)|(refine DV.flat rfl (zlp k i.d ⟨(by omega),hk2⟩) ?_;rintro _ rfl;refine⟨_,rfl,rfl,?_⟩)|(refine DV.flat rfl (zlp k i.a ⟨(by omega),hk2⟩) ?_;rintro _ rfl;refine⟨_,rfl,rfl,?_⟩)|(refine DV.flat rfl (zlp k i.b ⟨(by omega),hk2⟩) ?_;rintro _ rfl;refine⟨_,rfl,rfl,?_⟩))<;>conv=>whnf)
 refine zai eRg zae [2,3,4,8,9,10,11,37,38] [7] 2000 (fun x:{x:Nat×List Int // x.2=(i.l.l.take x.1).map (upR k)∧x.1≤i.l.l.length}=>[(39,i64 x.1.1)]) (fun x=>(7,.arr 29 [((upI i k).cells.set 25 (accV 1000 1 (x.1.2.map ic)))])::accH 1000 1 (x.1.2.map ic)) [(1000,.cell 7 25)] (fun x=>i.l.l.length+1 - x.1.1) (⟨(0,[]),rfl,Nat.zero_le _⟩) ?_
 conv=>whnf
 refine⟨?_,fun x=>?_⟩
 · conv => whnf
   (repeat' first|exact True.intro|rfl|apply And.intro )
 rcases x with⟨⟨m,_|⟨y,acc⟩⟩,hm,hmb⟩
 · dsimp only at hm hmb
   have i_len:=congrArg List.length hm;simp only[List.length_nil,List.length_cons,List.length_map,List.length_take] at i_len
   conv=>whnf
   repeat' first
    | (refine Br.f (b:=Nat.beq _ _) rfl ?_;conv=>whnf)
    | (refine Ok3.mk _ (zam (l:=i.l.l) (i:=m) (by omega)) ?_;conv=>whnf)
    | (refine Rq.mk (b:=chk3 _ _ _ _ _ _) (by kernel_rfl) ?_;conv=>whnf)
    | (refine Rq.mk (by(first|rfl|((try simp only[rz]);((omega ))))) ?_;conv=>whnf)
    | (refine Br.split (fun h=>?_) (fun h=>?_)<;>(try simp only[bz] at h)<;>first|(exfalso;(first|omega|(have hu:(upI i k).d=k+i.d:=yf0 (by omega);omega)))|(conv=>whnf))
    | (refine zaa rfl (zfh 0 _) ?_;rintro _ rfl<;>conv=>whnf)
    | (refine zaa rfl (zfh 1 _) ?_;rintro _ rfl<;>conv=>whnf)
    | (refine zaa rfl (zfh _ 2) ?_;rintro _ rfl<;>conv=>whnf)
    | (refine And.intro (a:=zaw _=true) (by kernel_rfl) (LzK.e ?_);conv=>whnf)
    | (refine DV.flat rfl (zlp k (i.l.l[m]'(by omega)) ⟨(hrl2 m (by omega)),hk2⟩) ?_;rintro _ rfl;refine⟨_,rfl,rfl,?_⟩;conv=>whnf)
    | (refine zaa rfl (zg8 n i.a (by omega) ⟨by omega,by omega⟩) ?_;rintro _ rfl;conv=>whnf)
    | (refine zaa rfl (zg8 n i.b (by omega) ⟨by omega,by omega⟩) ?_;rintro _ rfl;conv=>whnf)
    | (refine zaa rfl (zg8 n i.d (by omega) ⟨by omega,by omega⟩) ?_;rintro _ rfl;conv=>whnf)
   · (refine⟨⟨(m+1,[upR k (i.l.l[m]'(by omega))]),(by rw[zb2 (by omega),← hm];rfl),(by omega)⟩,(by(conv=>whnf);(repeat' first|exact True.intro|rfl|apply And.intro|(refine cw ?_ ?_ ?_<;>(try dsimp only)<;>omega) )),rfl,(by(dsimp only);omega)⟩)
   all_goals skip
   all_goals first
    | (exact⟨_,_,rfl,ze9 (i:=i) [zb3 0 (upR k i.a)] [] (regI i (upR k i.d) 0 (upR k i.b) ⟨[],by decide⟩) (.nils) Told.nil rfl ⟨rfl,rfl,rfl,rfl⟩ ⟨[(0,(upR k i.a))],rfl⟩ ⟨[],rfl⟩ (by simp)⟩)
    | (exact⟨_,_,rfl,ze9 (i:=i) [] [] (regI i (upR k i.d) (upR k i.a) (upR k i.b) ⟨[],by decide⟩) (.nils) Told.nil rfl ⟨rfl,rfl,rfl,rfl⟩ ⟨[],rfl⟩ ⟨[],rfl⟩ (by simp)⟩)
    | (exact⟨_,_,rfl,ze9 (i:=i) [] [zb3 (upR k i.d) 2] (regI i 2 (upR k i.a) (upR k i.b) ⟨[],by decide⟩) (.nils) Told.nil rfl ⟨rfl,rfl,rfl,rfl⟩ ⟨[],rfl⟩ ⟨[((upR k i.d),2)],rfl⟩ (by simp)⟩)
    | (exact⟨_,_,rfl,ze9 (i:=i) [zb3 1 (upR k i.b)] [] (regI i (upR k i.d) (upR k i.a) 1 ⟨[],by decide⟩) (.nils) Told.nil rfl ⟨rfl,rfl,rfl,rfl⟩ ⟨[(1,(upR k i.b))],rfl⟩ ⟨[],rfl⟩ (by simp)⟩)
    | (exact⟨_,_,rfl,ze9 (i:=i) [zb3 1 (upR k i.b)] [zb3 (upR k i.d) 2] (regI i 2 (upR k i.a) 1 ⟨[],by decide⟩) (.nils) Told.nil rfl ⟨rfl,rfl,rfl,rfl⟩ ⟨[(1,(upR k i.b))],rfl⟩ ⟨[((upR k i.d),2)],rfl⟩ (by simp)⟩)
    | (exact⟨_,_,rfl,ze9 (i:=i) [zb3 0 (upR k i.a)] [zb3 (upR k i.d) 2] (regI i 2 0 (upR k i.b) ⟨[],by decide⟩) (.nils) Told.nil rfl ⟨rfl,rfl,rfl,rfl⟩ ⟨[(0,(upR k i.a))],rfl⟩ ⟨[((upR k i.d),2)],rfl⟩ (by simp)⟩)
    | (exact⟨_,_,rfl,ze9 (i:=i) [zb3 0 (upR k i.a)] [] (regI i (upR k i.d) 0 0 ⟨[],by decide⟩) (.nils) Told.nil rfl ⟨rfl,rfl,rfl,rfl⟩ ⟨[(0,(upR k i.a))],rfl⟩ ⟨[],rfl⟩ (by simp)⟩)
    | (exact⟨_,_,rfl,ze9 (i:=i) [zb3 0 (upR k i.a)] [zb3 (upR k i.d) 2] (regI i 2 0 0 ⟨[],by decide⟩) (.nils) Told.nil rfl ⟨rfl,rfl,rfl,rfl⟩ ⟨[(0,(upR k i.a))],rfl⟩ ⟨[((upR k i.d),2)],rfl⟩ (by simp)⟩)
    | (exact⟨_,_,rfl,ze9 (i:=i) [zb3 0 (upR k i.a),zb3 1 (upR k i.b)] [] (regI i (upR k i.d) 0 1 ⟨[],by decide⟩) (.nils) Told.nil rfl ⟨rfl,rfl,rfl,rfl⟩ ⟨[(0,(upR k i.a)),(1,(upR k i.b))],rfl⟩ ⟨[],rfl⟩ (by simp)⟩)
    | (exact⟨_,_,rfl,ze9 (i:=i) [zb3 0 (upR k i.a),zb3 1 (upR k i.b)] [zb3 (upR k i.d) 2] (regI i 2 0 1 ⟨[],by decide⟩) (.nils) Told.nil rfl ⟨rfl,rfl,rfl,rfl⟩ ⟨[(0,(upR k i.a)),(1,(upR k i.b))],rfl⟩ ⟨[((upR k i.d),2)],rfl⟩ (by simp)⟩)
 · dsimp only at hm hmb
   have i_len:=congrArg List.length hm;simp only[List.length_nil,List.length_cons,List.length_map,List.length_take] at i_len
   conv=>whnf
   repeat' first
    | (refine Br.f (b:=Nat.beq _ _) rfl ?_;conv=>whnf)
    | (refine Rq.mk (zcg 8 2000 (by simp) rfl rfl (by have:=i_len;simp only[List.length_cons,List.length_map,List.length_nil] at this ⊢;omega) (by decide)) ?_;conv=>whnf)
    | (refine Ok3.mk _ (zam (l:=i.l.l) (i:=m) (by omega)) ?_;conv=>whnf)
    | (refine Rq.mk (b:=chk3 _ _ _ _ _ _) (by kernel_rfl) ?_;conv=>whnf)
    | (refine Rq.mk (by(first|rfl|((try simp only[rz]);((omega ))))) ?_;conv=>whnf)
    | (refine Br.split (fun h=>?_) (fun h=>?_)<;>(try simp only[bz] at h)<;>first|(exfalso;(first|omega|(have hu:(upI i k).d=k+i.d:=yf0 (by omega);omega)))|(conv=>whnf))
    | (refine zaa rfl (zfh 0 _) ?_;rintro _ rfl<;>conv=>whnf)
    | (refine zaa rfl (zfh 1 _) ?_;rintro _ rfl<;>conv=>whnf)
    | (refine zaa rfl (zfh _ 2) ?_;rintro _ rfl<;>conv=>whnf)
    | (refine And.intro (a:=zaw _=true) (by kernel_rfl) (LzK.e ?_);conv=>whnf)
    | (refine DV.flat rfl (zlp k (i.l.l[m]'(by omega)) ⟨(hrl2 m (by omega)),hk2⟩) ?_;rintro _ rfl;refine⟨_,rfl,rfl,?_⟩;conv=>whnf)
    | (refine zaa rfl (zg8 n i.a (by omega) ⟨by omega,by omega⟩) ?_;rintro _ rfl;conv=>whnf)
    | (refine zaa rfl (zg8 n i.b (by omega) ⟨by omega,by omega⟩) ?_;rintro _ rfl;conv=>whnf)
    | (refine zaa rfl (zg8 n i.d (by omega) ⟨by omega,by omega⟩) ?_;rintro _ rfl;conv=>whnf)
   · (refine⟨⟨(m+1,y::(acc++[upR k (i.l.l[m]'(by omega))])),(by rw[zb2 (by omega),← hm];rfl),(by omega)⟩,(by(conv=>whnf);(repeat' first|exact True.intro|rfl|exact congrArg (fun v=>AObj.arr 29 [((upI i k).cells.set 25 v)]) (zat (by rfl) (by rfl) (by simp) (by rfl))|exact za4 (by rfl) (za7 (f:=ic) (fun _=>by rfl) (by rfl) (by simp))|exact zaj (f:=ic) (fun _=>by rfl)|apply And.intro|(refine cw ?_ ?_ ?_<;>(try dsimp only)<;>omega) )),rfl,(by(dsimp only);omega)⟩)
   all_goals skip
   all_goals first
    | (generalize hg2:snap _ 20 _=rr;obtain⟨rows,rfl,hh⟩:=zfa (i:=i) hg2 [zb3 0 (upR k i.a)] [] (regI i (upR k i.d) 0 (upR k i.b) ⟨y::acc,by rw[List.length_cons];omega⟩) (.slc 1000 0 ((acc.map ic).length+1) 1) (zaq (y::acc)) rfl rfl rfl (zbf (f:=ic) (n:=17) (fun _=>rfl) rfl) .r rfl ⟨rfl,rfl,rfl,rfl⟩ ⟨[(0,(upR k i.a))],rfl⟩ ⟨[],rfl⟩ (by simp);(conv=>whnf);exact⟨rows,_,rfl,hh⟩)
    | (generalize hg2:snap _ 20 _=rr;obtain⟨rows,rfl,hh⟩:=zfa (i:=i) hg2 [] [] (regI i (upR k i.d) (upR k i.a) (upR k i.b) ⟨y::acc,by rw[List.length_cons];omega⟩) (.slc 1000 0 ((acc.map ic).length+1) 1) (zaq (y::acc)) rfl rfl rfl (zbf (f:=ic) (n:=17) (fun _=>rfl) rfl) .r rfl ⟨rfl,rfl,rfl,rfl⟩ ⟨[],rfl⟩ ⟨[],rfl⟩ (by simp);(conv=>whnf);exact⟨rows,_,rfl,hh⟩)
    | (generalize hg2:snap _ 20 _=rr;obtain⟨rows,rfl,hh⟩:=zfa (i:=i) hg2 [] [zb3 (upR k i.d) 2] (regI i 2 (upR k i.a) (upR k i.b) ⟨y::acc,by rw[List.length_cons];omega⟩) (.slc 1000 0 ((acc.map ic).length+1) 1) (zaq (y::acc)) rfl rfl rfl (zbf (f:=ic) (n:=17) (fun _=>rfl) rfl) .r rfl ⟨rfl,rfl,rfl,rfl⟩ ⟨[],rfl⟩ ⟨[((upR k i.d),2)],rfl⟩ (by simp);(conv=>whnf);exact⟨rows,_,rfl,hh⟩)
    | (generalize hg2:snap _ 20 _=rr;obtain⟨rows,rfl,hh⟩:=zfa (i:=i) hg2 [zb3 1 (upR k i.b)] [] (regI i (upR k i.d) (upR k i.a) 1 ⟨y::acc,by rw[List.length_cons];omega⟩) (.slc 1000 0 ((acc.map ic).length+1) 1) (zaq (y::acc)) rfl rfl rfl (zbf (f:=ic) (n:=17) (fun _=>rfl) rfl) .r rfl ⟨rfl,rfl,rfl,rfl⟩ ⟨[(1,(upR k i.b))],rfl⟩ ⟨[],rfl⟩ (by simp);(conv=>whnf);exact⟨rows,_,rfl,hh⟩)
    | (generalize hg2:snap _ 20 _=rr;obtain⟨rows,rfl,hh⟩:=zfa (i:=i) hg2 [zb3 1 (upR k i.b)] [zb3 (upR k i.d) 2] (regI i 2 (upR k i.a) 1 ⟨y::acc,by rw[List.length_cons];omega⟩) (.slc 1000 0 ((acc.map ic).length+1) 1) (zaq (y::acc)) rfl rfl rfl (zbf (f:=ic) (n:=17) (fun _=>rfl) rfl) .r rfl ⟨rfl,rfl,rfl,rfl⟩ ⟨[(1,(upR k i.b))],rfl⟩ ⟨[((upR k i.d),2)],rfl⟩ (by simp);(conv=>whnf);exact⟨rows,_,rfl,hh⟩)
    | (generalize hg2:snap _ 20 _=rr;obtain⟨rows,rfl,hh⟩:=zfa (i:=i) hg2 [zb3 0 (upR k i.a)] [zb3 (upR k i.d) 2] (regI i 2 0 (upR k i.b) ⟨y::acc,by rw[List.length_cons];omega⟩) (.slc 1000 0 ((acc.map ic).length+1) 1) (zaq (y::acc)) rfl rfl rfl (zbf (f:=ic) (n:=17) (fun _=>rfl) rfl) .r rfl ⟨rfl,rfl,rfl,rfl⟩ ⟨[(0,(upR k i.a))],rfl⟩ ⟨[((upR k i.d),2)],rfl⟩ (by simp);(conv=>whnf);exact⟨rows,_,rfl,hh⟩)
    | (generalize hg2:snap _ 20 _=rr;obtain⟨rows,rfl,hh⟩:=zfa (i:=i) hg2 [zb3 0 (upR k i.a)] [] (regI i (upR k i.d) 0 0 ⟨y::acc,by rw[List.length_cons];omega⟩) (.slc 1000 0 ((acc.map ic).length+1) 1) (zaq (y::acc)) rfl rfl rfl (zbf (f:=ic) (n:=17) (fun _=>rfl) rfl) .r rfl ⟨rfl,rfl,rfl,rfl⟩ ⟨[(0,(upR k i.a))],rfl⟩ ⟨[],rfl⟩ (by simp);(conv=>whnf);exact⟨rows,_,rfl,hh⟩)
    | (generalize hg2:snap _ 20 _=rr;obtain⟨rows,rfl,hh⟩:=zfa (i:=i) hg2 [zb3 0 (upR k i.a)] [zb3 (upR k i.d) 2] (regI i 2 0 0 ⟨y::acc,by rw[List.length_cons];omega⟩) (.slc 1000 0 ((acc.map ic).length+1) 1) (zaq (y::acc)) rfl rfl rfl (zbf (f:=ic) (n:=17) (fun _=>rfl) rfl) .r rfl ⟨rfl,rfl,rfl,rfl⟩ ⟨[(0,(upR k i.a))],rfl⟩ ⟨[((upR k i.d),2)],rfl⟩ (by simp);(conv=>whnf);exact⟨rows,_,rfl,hh⟩)
    | (generalize hg2:snap _ 20 _=rr;obtain⟨rows,rfl,hh⟩:=zfa (i:=i) hg2 [zb3 0 (upR k i.a),zb3 1 (upR k i.b)] [] (regI i (upR k i.d) 0 1 ⟨y::acc,by rw[List.length_cons];omega⟩) (.slc 1000 0 ((acc.map ic).length+1) 1) (zaq (y::acc)) rfl rfl rfl (zbf (f:=ic) (n:=17) (fun _=>rfl) rfl) .r rfl ⟨rfl,rfl,rfl,rfl⟩ ⟨[(0,(upR k i.a)),(1,(upR k i.b))],rfl⟩ ⟨[],rfl⟩ (by simp);(conv=>whnf);exact⟨rows,_,rfl,hh⟩)
    | (generalize hg2:snap _ 20 _=rr;obtain⟨rows,rfl,hh⟩:=zfa (i:=i) hg2 [zb3 0 (upR k i.a),zb3 1 (upR k i.b)] [zb3 (upR k i.d) 2] (regI i 2 0 1 ⟨y::acc,by rw[List.length_cons];omega⟩) (.slc 1000 0 ((acc.map ic).length+1) 1) (zaq (y::acc)) rfl rfl rfl (zbf (f:=ic) (n:=17) (fun _=>rfl) rfl) .r rfl ⟨rfl,rfl,rfl,rfl⟩ ⟨[(0,(upR k i.a)),(1,(upR k i.b))],rfl⟩ ⟨[((upR k i.d),2)],rfl⟩ (by simp);(conv=>whnf);exact⟨rows,_,rfl,hh⟩)
end Go.Ago
end
