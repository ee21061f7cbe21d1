/-
  Part 40: lemmas, each with its own conditions.
-/
import Derived.Test.YthaolifcglpkdaaGreatDoorA39
set_option maxRecDepth 100000
set_option maxHeartbeats 0
set_option linter.all false
section
namespace Go.Ago
open Go.Proofs
attribute [local irreducible] ltI leI eqI eqS shrI wr inB mmI comp DC DP DW DV
attribute [local irreducible] ckP ct InR PLc zev zeu zdo zcf ckC zb7 entN zbh za3 bitW EntP mapR NoneB
structure ColP (c:Cd)(p:Int)(tw:List Int)(v:AV):Prop where
 hp:0≤p∧p<c.b.l.length
 ck:ckC c=0
 ex:∃g S bd,GOf c p g∧LiveOK g S∧(tw.length:Int)=g.regs∧zsm g S (fun r=>tw.getD r 0)∧(∀t∈tw,0≤t∧t<bd.regs)∧0≤bd.regs∧v=(zh5 c p.toNat bd).av
def ApR (g:Gr)(C:List (List W64))(tw:List Int)(n:Nat):Prop:=∀d r:Nat,d<n→(r:Int)<g.regs→bitW (rowS C d) r=true→tw.getD d 0≠tw.getD r 0
def ApL (d:Nat)(L:List Int)(tw:List Int)(n:Nat):Prop:=∀r∈L.take n,tw.getD d 0≠tw.getD r.toNat 0
theorem ApR.nil {g C tw}:ApR g C tw 0:=fun _ _ h=>absurd h (Nat.not_lt_zero _)
theorem ApL.nil {d L tw}:ApL d L tw 0:=fun _ h=>by cases h
theorem ApL.step {d:Nat}{L tw:List Int}{n:Nat}(h:ApL d L tw n)(hn:n<L.length)(h1:tw.getD d 0≠tw.getD L[n].toNat 0):ApL d L tw (n+1):=fun r hr=>by
 rw[List.take_succ_eq_append_getElem hn] at hr;rcases List.mem_append.1 hr with hr|hr
 · exact h r hr
 · rw[List.mem_singleton.1 hr];exact h1
theorem ApR.step {g:Gr}{C:List (List W64)}{tw:List Int}{n:Nat}(h:ApR g C tw n)(hn:n<C.length)(h1:ApL n (za3 C[n] g.regs.toNat) tw (za3 C[n] g.regs.toNat).length):ApR g C tw (n+1):=fun d r hd hr hb=>by
 rcases Nat.lt_or_ge d n with h2|h2
 · exact h d r h2 hr hb
 · obtain rfl : d = n := by omega
   have := h1 (r : Int) (by
    rw[List.take_length];refine mem_listW.2 ⟨r,rfl,by omega,?_⟩
    have:rowS C d=C[d]:=by simp[rowS,List.getD,hn]
    rw[← this];exact hb)
   simpa using this
theorem ApR.apart {g:Gr}(hg:GrOK g){S C:List (List W64)}{tw:List Int}(hC:ClN g S C g.ins.l.length)(h:ApR g C tw g.regs.toNat):zsm g S (fun r=>tw.getD r 0):=fun k hk h0 hf r hr hb hne=>by
 have:=hC k r hk hk h0 hf hr hb hne;have hs:=hg.sets _ (List.getElem_mem hk);exact h _ r (by omega) hr this
theorem zi7 {l:List Int}{n:Nat}(h:n<l.length):l.getD n 0=l[n]:=by simp[List.getD,h]
theorem zz6 {l:List Int}(h:NoneB l l.length):∀t∈l,0≤t∧t<4000:=fun t ht=>by
 obtain⟨j,hj,rfl⟩:=List.getElem_of_mem ht;unfold NoneB at h;have:=h j hj hj;omega
theorem zk6 {n:Int}{tw:List Int}(h1:(tw.length:Int)=n)(h2:∀t∈tw,0≤t){r:Int}(h:r = -1∨(0≤r∧r<n)):zyc tw r:=by
 rcases h with h|⟨ha,hb⟩
 · exact .inl h
 · exact .inr ⟨ha,by omega,by rw[zmj (by omega)];exact h2 _ (List.getElem_mem _)⟩
theorem zhf {g:Gr}{tw:List Int}(hv:GrV g)(h1:(tw.length:Int)=g.regs)(h2:∀t∈tw,0≤t){i:Ins}(hi:i∈g.ins.l):yk1 i tw:=by
 have h:=hv.ins i hi;exact⟨zk6 h1 h2 h.d,zk6 h1 h2 h.a,zk6 h1 h2 h.b,fun r hr=>zk6 h1 h2 (.inr (h.l r hr))⟩
theorem zmf {x n:Int}{m:Nat}(h:0≤x∧x<n)(e:n=(m:Int)):inB x m=true:=by rw[zhw];omega
theorem zk4 {g:Gr}{C:List (List W64)}(hg:GrOK g)(hs:ShC g C){k:Nat}(h:k<C.length):C[k].length≤1∧g.regs≤64 * (C[k].length:Int):=by
 have:=hs.row _ (List.getElem_mem h);have:=zef hg;have:=zkc hg;omega
attribute [local irreducible] ApR ApL
abbrev yk6:AV := .agg [.nils,i64 0,.nils,.nils,.nils,.nils,.nils]
theorem ybn (c:Cd)(p:Int)(tw:BL Int)(h100:tw.l.length≤100)(hsm:SmallC c 1000 60):DPR 13 [c.av,i64 p,zaq tw.l] (fun ae=>∃v e,ae = .ret (.tup [v,i64 e])∧((e≠0∧v=yk6)∨ColP c p tw.l v)):=by
 refine zaf eRg zae Tryz.func13 rfl (by decide) rfl rfl ?_
 have hs:zbh c.b.l≤100000:=by have:=hsm.sum;omega
 have hlt:=tw.h;have hlb:=c.b.h
 conv=>whnf
 repeat' ((first|refine Rq.mk (by(first|rfl|((try simp only[rz]);omega))) ?_|refine Br.split (fun h=>?_) (fun h=>?_)<;>(try simp only[bz] at h)<;>try (exfalso;omega)|refine zag (fun h=>?_) (fun h=>?_)<;>(try simp only[bz] at h)|refine Ok3.mk _ (za2 (by omega)) ?_|(refine zaa rfl (zfq c) ?_;rintro _ rfl)|(refine zaa rfl (zlh c p) ?_;rintro _ (⟨rfl,hp⟩|⟨rfl,hp⟩))|(refine zaa rfl (yi7 tw) ?_;rintro _ ⟨b,rfl,hb⟩)|(refine zaa rfl (zrr g (hg.v hsm (Nat.le_refl _) (Nat.le_refl _) hp (by omega)).ok) ?_;rintro _ ⟨C,S,rfl,hC,hS,hcl⟩)|refine zay eRg zae Tryz.func30 rfl (by decide) rfl rfl ?_|refine zay eRg zae Tryz.func48 rfl (by decide) rfl rfl ?_|(refine zaa rfl (zgu c p hs hp) ?_;rintro _ ⟨g,rfl,hg⟩))<;>conv=>whnf)
 all_goals first|exact⟨_,_,rfl,.inl ⟨by omega,rfl⟩⟩|skip
 rename_i hl1 hl2 hl3;have hgo:=(hg.v hsm (Nat.le_refl _) (Nat.le_refl _) hp (by omega)).ok
 have hck:ckC c=0:=by omega
 have hreg:(tw.l.length:Int)=g.regs:=by obtain⟨_,_,h2,_⟩:=hg;rw[h2];exact hl3
 have hrg:=hgo.regs;have hcl2:=hC.len;refine zai eRg zae [2,3,4,6,7,9,44,45] [] 0 (fun x:{x:Nat // ApR g C tw.l x∧x≤C.length}=>[(46,i64 x.1)]) (fun _=>[]) [] (fun x=>C.length+1 - x.1) (⟨0,ApR.nil,Nat.zero_le _⟩) ?_
 conv=>whnf
 refine⟨?_,fun x=>?_⟩
 · conv => whnf
   (repeat' first|exact True.intro|rfl|apply And.intro )
 have hx2:=x.2.2
 conv=>whnf
 repeat' ((first|refine Ok3.mk _ (zam (i:=x.1) (by omega)) ?_|refine Rq.mk (by(first|rfl|((try simp only[rz]);omega))) ?_|refine Br.split (fun h=>?_) (fun h=>?_)<;>(try simp only[bz] at h)|(refine zaa rfl (zc3 (C[x.1]'(by omega)) (zk4 hgo hC (by omega)).1 g.regs ⟨hrg.1,(zk4 hgo hC (by omega)).2⟩) ?_;rintro _ rfl))<;>conv=>whnf)
 · have hlt9 : x.1 < C.length := by omega
   have hLr:∀(j:Nat) (h:j<(za3 (C[x.1]'(by omega)) g.regs.toNat).length),0≤(za3 (C[x.1]'(by omega)) g.regs.toNat)[j]∧(za3 (C[x.1]'(by omega)) g.regs.toNat)[j]<g.regs:=fun j h=>zc9 (List.getElem_mem h)
   have hLl:(za3 (C[x.1]'(by omega)) g.regs.toNat).length≤1000:=by have:=@zep (C[x.1]'(by omega)) g.regs.toNat;omega
   refine zai eRg zae [2,3,4,6,7,9,10,11,44,45,46,47,48,49,50,51,52,53,54,55] [] 100 (fun y:{y:Nat // ApL x.1 (za3 (C[x.1]'(by omega)) g.regs.toNat) tw.l y∧y≤(za3 (C[x.1]'(by omega)) g.regs.toNat).length}=>[(56,i64 y.1)]) (fun _=>[]) [] (fun y=>(za3 (C[x.1]'(by omega)) g.regs.toNat).length+1 - y.1) (⟨0,ApL.nil,Nat.zero_le _⟩) ?_
   conv=>whnf
   refine⟨?_,fun y=>?_⟩
   · conv => whnf
     (repeat' first|exact True.intro|rfl|apply And.intro )
   have hy2:=y.2.2
   conv=>whnf
   repeat' ((first|refine Ok3.mk _ (zam (i:=y.1) (by omega)) ?_|refine Ok3.mk _ (zam (l:=tw.l) (i:=x.1) (by omega)) ?_|refine Rq.mk (zmf (hLr y.1 (by omega)) (by rw[List.length_map];omega)) ?_|refine Ok3.mk _ (za2 (l:=tw.l) (by have:=hLr y.1 (by omega);omega)) ?_|refine Rq.mk (by(first|rfl|((try simp only[rz]);omega))) ?_|refine Br.split (fun h=>?_) (fun h=>?_)<;>(try simp only[bz] at h)|refine And.intro (a:=zaw _=true) (by kernel_rfl) (LzK.e ?_))<;>conv=>whnf)
   · exact⟨_,_,rfl,.inl ⟨by omega,rfl⟩⟩
   · (refine⟨⟨y.1+1,ApL.step y.2.1 (by omega) (by rw[← zi7 (by omega:x.1<tw.l.length),← zmj (by have:=hLr y.1 (by omega);omega)] at h;exact h),(by omega)⟩,(by(conv=>whnf);(repeat' first|exact True.intro|rfl|apply And.intro|(refine cw ?_ ?_ ?_<;>(try dsimp only)<;>omega) )),rfl,(by(try simp only[List.length_map] at *)<;>omega)⟩)
   · (refine⟨⟨x.1+1,ApR.step x.2.1 (by omega) (by have e:(za3 (C[x.1]'(by omega)) g.regs.toNat).length=y.1:=(by omega);rw[e];exact y.2.1),(by omega)⟩,?_,rfl,?_⟩<;>first|((conv=>whnf);(repeat' first|exact True.intro|rfl|apply And.intro|(refine cw ?_ ?_ ?_<;>(try dsimp only)<;>omega) );done)|((try simp only[List.length_map] at *)<;>omega))
 all_goals have hnb:∀t∈tw.l,0≤t∧t<4000:=zz6 (hb (by assumption))
 all_goals have hgv:=hg.v hsm (Nat.le_refl _) (Nat.le_refl _) hp (by omega)
 all_goals have hfew:=hgo.few
 all_goals have hap : ApR g C tw.l g.regs.toNat := (by
  have e:g.regs.toNat=x.1:=by omega
  rw[e];exact x.2.1)
 conv=>whnf
 repeat' first
  | (refine zaa rfl (yis tw (by omega)) ?_;rintro _ ⟨n,rfl,hnm,hn⟩<;>conv=>whnf)
 · have hn0 := hnb n hnm
   have hw:wr .i64 (n+1)=n+1:=wr64 (by omega) (by omega)
   refine zai eRg zae [2,3,4,6,7,14,81,82] [50] 4000 (fun y:{y:(Nat×List Ins)×Int // y.1.2=(g.ins.l.take y.1.1).map (fun i=>repI i tw.l)∧y.1.1≤g.ins.l.length∧0≤y.2∧∀t∈tw.l,0≤t∧t<y.2}=>[(83,i64 y.1.1.1)]) (fun y=>(50,.arr 2 [[i64 y.1.2,accV 2000 29 (y.1.1.2.map Ins.cells)]])::accH 2000 29 (y.1.1.2.map Ins.cells)) [(2000,.cell 50 1)] (fun y=>g.ins.l.length+1 - y.1.1.1) (⟨((0,[]),wr .i64 (n+1)),rfl,Nat.zero_le _,(by rw[hw];omega),fun t ht=>⟨(hnb t ht).1,(by have:=hn t ht;rw[hw];omega)⟩⟩) ?_
   conv=>whnf
   refine⟨?_,fun y=>?_⟩
   · conv => whnf
     (repeat' first|exact True.intro|rfl|apply And.intro )
   rcases y with⟨⟨⟨m,_|⟨z,acc⟩⟩,r⟩,hm,hmb,hr0,hrt⟩
   · dsimp only at hm hmb hr0 hrt
     have i_len:=congrArg List.length hm;simp only[List.length_nil,List.length_cons,List.length_map,List.length_take] at i_len
     conv=>whnf
     repeat' ((first|refine Br.f (b:=Nat.beq _ _) rfl ?_|refine Ok3.mk _ (zam (i:=m) (by omega)) ?_|refine Rq.mk (by(first|rfl|((try simp only[rz]);omega))) ?_|refine Br.split (fun h=>?_) (fun h=>?_)<;>(try simp only[bz] at h)|(refine zaa rfl (zfd (g.ins.l[m]'(by omega)) tw (hgo.lst _ (List.getElem_mem _)) (zhf hgv hreg (fun t ht=>(hrt t ht).1) (List.getElem_mem _))) ?_;rintro _ rfl))<;>conv=>whnf)
     · (refine⟨⟨((m+1,[repI (g.ins.l[m]'(by omega)) tw.l]),r),(by(dsimp only);rw[zb2 (by omega),← hm];rfl),(by(dsimp only);omega),hr0,hrt⟩,(by(conv=>whnf);(repeat' first|exact True.intro|exact congrArg (fun v=>AObj.arr 2 [[i64 r,v]]) (zat (k:=_) (k':=_) (by rfl) (by rfl) (by simp) (by rfl))|exact zaj (f:=Ins.cells) (fun _=>by rfl)|rfl|apply And.intro|(refine cw ?_ ?_ ?_<;>(try dsimp only)<;>omega) )),rfl,(by(dsimp only);omega)⟩)
     · refine zt6 (args2 := [c.av, i64 p, .agg [i64 r, .rsl 29 []]]) ⟨.inl .r, .inl .r, .inl (.inr ⟨_, _, rfl, rfl, .r, .n, trivial⟩), trivial⟩ ?_
       refine zaa rfl (zp3 c p ⟨r,⟨[],by decide⟩⟩ hp (by have:=hsm.nb;omega)) ?_
       rintro _ rfl
       conv=>whnf
       conv=>whnf
       exact⟨_,_,rfl,.inr ⟨hp,hck,g,S,⟨r,⟨[],by decide⟩⟩,hg,hS,hreg,hap.apart hgo hcl,hrt,hr0,rfl⟩⟩
   · dsimp only at hm hmb hr0 hrt
     have i_len:=congrArg List.length hm;simp only[List.length_nil,List.length_cons,List.length_map,List.length_take] at i_len
     conv=>whnf
     repeat' ((first|refine Br.f (b:=Nat.beq _ _) rfl ?_|refine Rq.mk (zcg 304 2000 (by simp) rfl rfl (by have:=i_len;simp only[List.length_cons,List.length_map,List.length_nil] at this ⊢;omega) (by decide)) ?_|refine Ok3.mk _ (zam (i:=m) (by omega)) ?_|refine Rq.mk (by(first|rfl|((try simp only[rz]);omega))) ?_|refine Br.split (fun h=>?_) (fun h=>?_)<;>(try simp only[bz] at h)|(refine zaa rfl (zfd (g.ins.l[m]'(by omega)) tw (hgo.lst _ (List.getElem_mem _)) (zhf hgv hreg (fun t ht=>(hrt t ht).1) (List.getElem_mem _))) ?_;rintro _ rfl))<;>conv=>whnf)
     · (refine⟨⟨((m+1,z::(acc++[repI (g.ins.l[m]'(by omega)) tw.l])),r),(by(dsimp only);rw[zb2 (by omega),← hm];rfl),(by(dsimp only);omega),hr0,hrt⟩,(by(conv=>whnf);(repeat' first|exact True.intro|exact congrArg (fun v=>AObj.arr 2 [[i64 r,v]]) (zat (k:=_) (k':=_) (by rfl) (by rfl) (by simp) (by rfl))|exact za4 (by rfl) (za7 (f:=Ins.cells) (fun _=>by rfl) (by rfl) (by simp))|exact zaj (f:=Ins.cells) (fun _=>by rfl)|rfl|apply And.intro|(refine cw ?_ ?_ ?_<;>(try dsimp only)<;>omega) )),rfl,(by(dsimp only);omega)⟩)
     · refine DC.frzG (nm := 2000) (args2 := [c.av, i64 p, .agg [i64 r, zgs (z :: acc)]]) rfl ⟨.inl rfl, .inl rfl, .inr (zd2 (n := 19) (zab rfl (zab (zbf (f := Ins.cells) (n := 18) (fun _ => rfl) rfl) rfl))), trivial⟩ ?_
       refine zaa rfl (zp3 c p ⟨r,⟨z::acc,by rw[List.length_cons,i_len];omega⟩⟩ hp (by have:=hsm.nb;omega)) ?_
       rintro _ rfl
       conv=>whnf
       conv=>whnf
       exact⟨_,_,rfl,.inr ⟨hp,hck,g,S,⟨r,⟨z::acc,by rw[List.length_cons,i_len];omega⟩⟩,hg,hS,hreg,hap.apart hgo hcl,hrt,hr0,rfl⟩⟩
 · have htw : tw.l = [] := List.eq_nil_of_length_eq_zero (by omega)
   refine zai eRg zae [2,3,4,6,7,14,81,82] [50] 4000 (fun y:{y:(Nat×List Ins)×Int // y.1.2=(g.ins.l.take y.1.1).map (fun i=>repI i tw.l)∧y.1.1≤g.ins.l.length∧0≤y.2∧∀t∈tw.l,0≤t∧t<y.2}=>[(83,i64 y.1.1.1)]) (fun y=>(50,.arr 2 [[i64 y.1.2,accV 2000 29 (y.1.1.2.map Ins.cells)]])::accH 2000 29 (y.1.1.2.map Ins.cells)) [(2000,.cell 50 1)] (fun y=>g.ins.l.length+1 - y.1.1.1) (⟨((0,[]),0),rfl,Nat.zero_le _,Int.le_refl _,fun t ht=>(by rw[htw] at ht;cases ht)⟩) ?_
   conv=>whnf
   refine⟨?_,fun y=>?_⟩
   · conv => whnf
     (repeat' first|exact True.intro|rfl|apply And.intro )
   rcases y with⟨⟨⟨m,_|⟨z,acc⟩⟩,r⟩,hm,hmb,hr0,hrt⟩
   · dsimp only at hm hmb hr0 hrt
     have i_len:=congrArg List.length hm;simp only[List.length_nil,List.length_cons,List.length_map,List.length_take] at i_len
     conv=>whnf
     repeat' ((first|refine Br.f (b:=Nat.beq _ _) rfl ?_|refine Ok3.mk _ (zam (i:=m) (by omega)) ?_|refine Rq.mk (by(first|rfl|((try simp only[rz]);omega))) ?_|refine Br.split (fun h=>?_) (fun h=>?_)<;>(try simp only[bz] at h)|(refine zaa rfl (zfd (g.ins.l[m]'(by omega)) tw (hgo.lst _ (List.getElem_mem _)) (zhf hgv hreg (fun t ht=>(hrt t ht).1) (List.getElem_mem _))) ?_;rintro _ rfl))<;>conv=>whnf)
     · (refine⟨⟨((m+1,[repI (g.ins.l[m]'(by omega)) tw.l]),r),(by(dsimp only);rw[zb2 (by omega),← hm];rfl),(by(dsimp only);omega),hr0,hrt⟩,(by(conv=>whnf);(repeat' first|exact True.intro|exact congrArg (fun v=>AObj.arr 2 [[i64 r,v]]) (zat (k:=_) (k':=_) (by rfl) (by rfl) (by simp) (by rfl))|exact zaj (f:=Ins.cells) (fun _=>by rfl)|rfl|apply And.intro|(refine cw ?_ ?_ ?_<;>(try dsimp only)<;>omega) )),rfl,(by(dsimp only);omega)⟩)
     · refine zt6 (args2 := [c.av, i64 p, .agg [i64 r, .rsl 29 []]]) ⟨.inl .r, .inl .r, .inl (.inr ⟨_, _, rfl, rfl, .r, .n, trivial⟩), trivial⟩ ?_
       refine zaa rfl (zp3 c p ⟨r,⟨[],by decide⟩⟩ hp (by have:=hsm.nb;omega)) ?_
       rintro _ rfl
       conv=>whnf
       conv=>whnf
       exact⟨_,_,rfl,.inr ⟨hp,hck,g,S,⟨r,⟨[],by decide⟩⟩,hg,hS,hreg,hap.apart hgo hcl,hrt,hr0,rfl⟩⟩
   · dsimp only at hm hmb hr0 hrt
     have i_len:=congrArg List.length hm;simp only[List.length_nil,List.length_cons,List.length_map,List.length_take] at i_len
     conv=>whnf
     repeat' ((first|refine Br.f (b:=Nat.beq _ _) rfl ?_|refine Rq.mk (zcg 304 2000 (by simp) rfl rfl (by have:=i_len;simp only[List.length_cons,List.length_map,List.length_nil] at this ⊢;omega) (by decide)) ?_|refine Ok3.mk _ (zam (i:=m) (by omega)) ?_|refine Rq.mk (by(first|rfl|((try simp only[rz]);omega))) ?_|refine Br.split (fun h=>?_) (fun h=>?_)<;>(try simp only[bz] at h)|(refine zaa rfl (zfd (g.ins.l[m]'(by omega)) tw (hgo.lst _ (List.getElem_mem _)) (zhf hgv hreg (fun t ht=>(hrt t ht).1) (List.getElem_mem _))) ?_;rintro _ rfl))<;>conv=>whnf)
     · (refine⟨⟨((m+1,z::(acc++[repI (g.ins.l[m]'(by omega)) tw.l])),r),(by(dsimp only);rw[zb2 (by omega),← hm];rfl),(by(dsimp only);omega),hr0,hrt⟩,(by(conv=>whnf);(repeat' first|exact True.intro|exact congrArg (fun v=>AObj.arr 2 [[i64 r,v]]) (zat (k:=_) (k':=_) (by rfl) (by rfl) (by simp) (by rfl))|exact za4 (by rfl) (za7 (f:=Ins.cells) (fun _=>by rfl) (by rfl) (by simp))|exact zaj (f:=Ins.cells) (fun _=>by rfl)|rfl|apply And.intro|(refine cw ?_ ?_ ?_<;>(try dsimp only)<;>omega) )),rfl,(by(dsimp only);omega)⟩)
     · refine DC.frzG (nm := 2000) (args2 := [c.av, i64 p, .agg [i64 r, zgs (z :: acc)]]) rfl ⟨.inl rfl, .inl rfl, .inr (zd2 (n := 19) (zab rfl (zab (zbf (f := Ins.cells) (n := 18) (fun _ => rfl) rfl) rfl))), trivial⟩ ?_
       refine zaa rfl (zp3 c p ⟨r,⟨z::acc,by rw[List.length_cons,i_len];omega⟩⟩ hp (by have:=hsm.nb;omega)) ?_
       rintro _ rfl
       conv=>whnf
       conv=>whnf
       exact⟨_,_,rfl,.inr ⟨hp,hck,g,S,⟨r,⟨z::acc,by rw[List.length_cons,i_len];omega⟩⟩,hg,hS,hreg,hap.apart hgo hcl,hrt,hr0,rfl⟩⟩
end Go.Ago
end
section
namespace Go.Ago
def zjl (ae:AE):Prop:=∀(c c':Ctx) (w:World) (e:Ending),c'.imm=c.imm→ERel c w ae e→ERel c' w ae e
theorem zys {cs:List AV}(h:(cs.all zgv)=true):zjl (.ret (.agg cs)):=by
 intro c c' w e hi her;cases e<;>first|exact her.elim|skip
 have her:Rel c w (.agg cs) _:=her;cases her with
 | agg hl hr =>
   exact(Rel.agg hl fun i x v e1 e2=>zjb hi (hr i x v e1 e2) (List.all_eq_true.1 h x (List.mem_of_getElem? e1)):Rel c' w (.agg cs) _)
variable {P:Program} {E:Env}
theorem ydc {g:FuncId}{args args0:List AV}{H H0:zah}{nx nx0:Nat}{R R0:AE→zah→Nat→Prop}(ρ:Nat→Nat)(h:AC P E g args0 H0 nx0 R0)
 (hr:args=args0.map (AV.r2 ρ))(hl:args0.all (AV.l2 nx0)=true)(hh:∀k o,H0.get k=some o→k<nx0∧H.get (ρ k)=some o∧o.flatO)
 (hi:∀k k' o o',H0.get k=some o→H0.get k'=some o'→ρ k=ρ k'→k=k')
 (hq:∀ae H' nx',R0 ae H' nx'→zjl ae∧∃H2,FrmH ρ H0 H' H H2∧R ae H2 nx):AC P E g args H nx R:=by
 refine⟨h.1,fun c w vs hw hf hrl=>?_⟩
 have hc0:∀k,k<nx0→(⟨fun k=>if k<nx0 then c.f (ρ k) else none,c.imm⟩:Ctx).f k=c.f (ρ k):=fun k hk=>if_pos hk
 have hbare:(⟨fun k=>if k<nx0 then c.f (ρ k) else none,c.imm⟩:Ctx).bare=c.bare:=rfl
 have hw0:WRel E.glob ⟨fun k=>if k<nx0 then c.f (ρ k) else none,c.imm⟩ w H0:=by
  refine⟨hw.imm_lt,fun k B e=>?_,fun k o e=>?_,fun k k' o o' B B' e e' f f' hb=>?_,fun g cs e=>?_⟩
  · by_cases hk : k < nx0
    · rw[hc0 k hk] at e;exact hw.f_lt _ B e
    · simp[hk] at e
  · obtain ⟨g1, g2, g3⟩ := hh k o e
    obtain⟨B,b1,b2,b3⟩:=hw.obj _ _ g2;exact⟨B,(hc0 k g1).trans b1,b2,ObjRel.flatO (c:=c) rfl b3 g3⟩
  · obtain ⟨g1, g2, _⟩ := hh k o e
    obtain⟨g1',g2',_⟩:=hh k' o' e';rw[hc0 k g1] at f;rw[hc0 k' g1'] at f';exact hi k k' o o' e e' (hw.inj _ _ _ _ B B' g2 g2' f f' hb)
  · have := hw.glob g cs e
    cases this with
    | rptr h1 h2 h3 h4=>exact .rptr h1 h2 h3 h4
 have hr0:RelL ⟨fun k=>if k<nx0 then c.f (ρ k) else none,c.imm⟩ w args0 vs:=by
  subst hr;exact zfy (c:=c) (f:=AV.r2 ρ) (fun y v a b=>zqo (c:=c) (c':=⟨fun k=>if k<nx0 then c.f (ρ k) else none,c.imm⟩) (ρ:=ρ) (n:=nx0) rfl hc0 a b) hl hrl.1 hrl.2
 have hown:∀b,Own ⟨fun k=>if k<nx0 then c.f (ρ k) else none,c.imm⟩ H0 b→∃k o0 B,H0.get k=some o0∧H.get (ρ k)=some o0∧c.f (ρ k)=some B∧B.b=b:=by
  rintro b ⟨k,o,B,hk,hf',rfl⟩
  obtain⟨g1,g2,_⟩:=hh k o hk;rw[hc0 k g1] at hf';exact⟨k,o,B,hk,g2,hf',rfl⟩
 have hown':∀b,Own ⟨fun k=>if k<nx0 then c.f (ρ k) else none,c.imm⟩ H0 b→Own c H b:=fun b hb=>by
  obtain⟨k,o,B,_,h2,h3,h4⟩:=hown b hb;exact⟨ρ k,o,B,h2,h3,h4⟩
 refine(h.2 _ w vs hw0 (fun k hk=>if_neg (Nat.not_lt.2 hk)) hr0).mono ?_
 rintro e w' ⟨c',H',nx',ae,hx,hw',_,_,her,hR⟩
 obtain⟨hfl,H2,hH2,hR2⟩:=hq ae H' nx' hR;have him:∀b,c.imm b→w'.heap[b]? = w.heap[b]?:=fun b hb=>hx.other b (hw.imm_lt b hb) fun ho=>hw.not_own hb (hown' b ho)
 have hle:c.le ⟨c.f,c'.imm⟩:=⟨fun _ _ e=>e,fun b hb=>hx.imm b hb⟩
 have hrel:∀{x v},Rel c w x v→Rel ⟨c.f,c'.imm⟩ w' x v:=fun hr=>hr.mono hle him
 have hget:∀j o,H2.get j=some o→∃o1,H.get j=some o1:=fun j o e=>by
  rcases hH2 j o e with⟨h1,_⟩|⟨k,o0,h1,rfl,_⟩
  · exact⟨o,h1⟩
  · exact⟨o0,(hh k o0 h1).2.1⟩
 refine⟨⟨c.f,c'.imm⟩,H2,nx,ae,⟨fun _ _=>rfl,fun b hb=>hx.imm b hb,hx.os,hx.tape,hx.output,hx.size,fun b hb hn=>hx.other b hb fun ho=>hn (hown' b ho),fun b hb=>?_,fun b hb=>?_⟩,
  ⟨hw'.imm_lt,fun k B e=>Nat.lt_of_lt_of_le (hw.f_lt k B e) hx.size,fun j o e=>?_,fun k k' o o' B B' e e' f f' hb=>?_,fun g cs e=>hrel (hw.glob g cs e)⟩,Nat.le_refl _,hf,?_,hR2⟩
 · rcases hx.newimm b hb with g | g | g
   · exact .inl g
   · exact .inr (.inl (hown' b g))
   · exact .inr (.inr g)
 · obtain ⟨j, o, B, e1, e2, rfl⟩ := hb
   obtain⟨o1,e3⟩:=hget j o e1;exact .inl ⟨j,o1,B,e3,e2,rfl⟩
 · rcases hH2 j o e with ⟨h1, h2⟩ | ⟨k, o0, h1, rfl, h2, h3⟩
   · obtain ⟨B, b1, b2, b3⟩ := hw.obj j o h1
     have hno:¬Own ⟨fun k=>if k<nx0 then c.f (ρ k) else none,c.imm⟩ H0 B.b:=fun ho=>by
      obtain⟨k,o0,B',g1,g2,g3,g4⟩:=hown _ ho;exact h2 k o0 g1 (hw.inj _ _ _ _ B' B g2 h1 g3 b1 g4)
     refine⟨B,b1,fun hi=>?_,b3.mono (hx.other _ (hw.f_lt _ _ b1) hno) hrel (fun b hb=>⟨hle.imm b hb,him b hb⟩)⟩
     rcases hx.newimm _ hi with g|g|g
     · exact b2 g
     · exact hno g
     · have:=hw.f_lt _ _ b1;omega
   · obtain ⟨B, b1, b2, b3⟩ := hw'.obj k o h2
     have hk:=(hh k o0 h1).1;exact⟨B,((hx.f k hk).trans (hc0 k hk)).symm.trans b1,b2,ObjRel.flatO (c:=c') rfl b3 h3⟩
 · obtain ⟨o1, e1⟩ := hget k o e
   obtain⟨o2,e2⟩:=hget k' o' e';exact hw.inj _ _ _ _ B B' e1 e2 f f' hb
 · exact hfl c' ⟨c.f,c'.imm⟩ w' e rfl her
theorem yc7 {g:FuncId}{args args0:List AV}{H H0:zah}{nx nx0:Nat}{R R0:AE→zah→Nat→Prop}(ρ:Nat→Nat)(h:DC P E g args0 H0 nx0 R0)
 (hr:args=args0.map (AV.r2 ρ))(hl:args0.all (AV.l2 nx0)=true)(hh:∀k o,H0.get k=some o→k<nx0∧H.get (ρ k)=some o∧o.flatO)
 (hi:∀k k' o o',H0.get k=some o→H0.get k'=some o'→ρ k=ρ k'→k=k')
 (hq:∀ae H' nx',R0 ae H' nx'→zjl ae∧∃H2,FrmH ρ H0 H' H H2∧R ae H2 nx):DC P E g args H nx R:=by
 obtain⟨ae,H',nx',h1,h2⟩:=h;obtain⟨g1,H2,g2,g3⟩:=hq ae H' nx' h2;exact⟨ae,H2,nx,ydc ρ h1 hr hl hh hi (fun a h n hh=>by obtain⟨rfl,rfl,rfl⟩:=hh;exact⟨g1,H2,g2,rfl,rfl,rfl⟩),g3⟩
theorem zor {g:FuncId}{args args0:List AV}{H:zah}{nx k:Nat}{o:AObj}{R:AE→zah→Nat→Prop}{R0:AE→zah→Nat→Prop}(h:DC P E g args0 (.put 0 (some o) .nil) 1 R0)
 (hr:args=args0.map (AV.r2 fun _=>k))(hl:args0.all (AV.l2 1)=true)(hk:H.get k=some o)(ho:o.flatO)
 (hq:∀ae H' nx',R0 ae H' nx'→zjl ae∧∃o',H'.get 0=some o'∧o'.flatO∧R ae (.put k (some o') H) nx):DC P E g args H nx R:=by
 have key:∀j o1,(Tr.put 0 (some o) Tr.nil:zah).get j=some o1→j=0∧o1=o:=by
  intro j o1 e;rw[Tr.get] at e;cases b:Nat.beq j 0 with
  | true=>rw[b] at e;exact⟨Nat.eq_of_beq_eq_true b,by cases e;rfl⟩
  | false=>rw[b] at e;cases e
 refine yc7 (fun _=>k) h hr hl (fun j o1 e=>?_) (fun j j' o1 o2 e e' _=>?_) fun ae H' nx' hR=>?_
 · obtain ⟨rfl, rfl⟩ := key j o1 e
   exact⟨Nat.zero_lt_one,hk,ho⟩
 · rw[(key j o1 e).1,(key j' o2 e').1]
 · obtain ⟨g1, o', g2, g3, g4⟩ := hq ae H' nx' hR
   refine⟨g1,_,fun j o1 e=>?_,g4⟩
   rw[Tr.get] at e;cases b:Nat.beq j k with
   | true =>
     rw[b] at e;cases e;exact .inr ⟨0,o,rfl,(Nat.eq_of_beq_eq_true b).symm,g2,g3⟩
   | false =>
     rw[b] at e;refine .inl ⟨e,fun k' o0 _ he=>?_⟩
     subst he;rw[show Nat.beq k k=true from Nat.beq_refl k] at b
     cases b
theorem DC.nrm {g:FuncId}{args:List AV}{H:zah}{nx:Nat}{R R':AE→zah→Nat→Prop}(h:DC P E g args H nx R)(hq:∀ae H' n,R ae H' n→∃x y,ae = .ret x∧Nrm2 x y∧R' (.ret y) H' n):DC P E g args H nx R':=by
 obtain⟨ae,H',nx',⟨h0,h1⟩,h2⟩:=h;obtain⟨x,y,rfl,h3,h4⟩:=hq ae H' nx' h2;refine⟨.ret y,H',nx',⟨h0,fun c w vs hw hf hrl=>(h1 c w vs hw hf hrl).mono ?_⟩,h4⟩
 rintro e w' ⟨c',H3,n2,a2,k1,k2,k3,k4,k5,rfl,rfl,rfl⟩
 refine⟨c',H3,n2,.ret y,k1,k2,k3,k4,?_,rfl,rfl,rfl⟩;cases e<;>first|exact k5.elim|exact h3.rel k5
theorem DC.frzR {g:FuncId}{args:List AV}{H:zah}{nx:Nat}{R R':AE→zah→Nat→Prop}(h:DC P E g args H nx R)(hq:∀ae H' n,R ae H' n→∃nm o x y,ae = .ret x∧H'.get nm=some o∧FrzC nm o x y∧R' (.ret y) (.put nm none H') n):DC P E g args H nx R':=by
 obtain⟨ae,H',nx',⟨h0,h1⟩,h2⟩:=h;obtain⟨nm,o,x,y,rfl,ho,hxy,h4⟩:=hq ae H' nx' h2;refine⟨.ret y,.put nm none H',nx',⟨h0,fun c w vs hw hf hrl=>(h1 c w vs hw hf hrl).mono ?_⟩,h4⟩
 rintro e w' ⟨c',H3,n2,a2,k1,k2,k3,k4,k5,rfl,rfl,rfl⟩
 obtain⟨B,b1,b2,b3⟩:=k2.obj nm o ho;have hle:c'.le ⟨c'.f,fun b=>c'.imm b∨b=B.b⟩:=⟨fun _ _ e=>e,fun _ hb => .inl hb⟩
 have hrel:∀{x v},Rel c' w' x v→Rel ⟨c'.f,fun b=>c'.imm b∨b=B.b⟩ w' x v:=fun hr=>hr.mono hle (fun _ _=>rfl)
 have hown:Own c' H3 B.b:=⟨nm,o,B,ho,b1,rfl⟩;have hget:∀k b,(Tr.put nm none H3:zah).get k=some b→k≠nm∧H3.get k=some b:=by
  intro k b e;rw[Tr.get] at e;cases hb:Nat.beq k nm with
  | true=>rw[hb] at e;cases e
  | false=>rw[hb] at e;exact⟨(fun e2=>by subst e2;rw[show Nat.beq k k=true from Nat.beq_refl k] at hb;cases hb),e⟩
 have hw2:WRel E.glob ⟨c'.f,fun b=>c'.imm b∨b=B.b⟩ w' (.put nm none H3):=by
  refine⟨fun b hb=>?_,k2.f_lt,fun k b e=>?_,fun k k' o1 o2 B1 B2 e e' f f' hb=>k2.inj _ _ _ _ B1 B2 (hget _ _ e).2 (hget _ _ e').2 f f' hb,fun g cs e=>hrel (k2.glob g cs e)⟩
  · rcases hb with hb | rfl
    · exact k2.imm_lt b hb
    · exact k2.f_lt _ _ b1
  · obtain ⟨hne, e1⟩ := hget k b e
    obtain⟨B1,c1,c2,c3⟩:=k2.obj k b e1;refine⟨B1,c1,fun hi=>?_,c3.mono rfl hrel (fun b hb=>⟨hle.imm b hb,rfl⟩)⟩
    rcases hi with hi|hi
    · exact c2 hi
    · exact hne (k2.inj _ _ _ _ B1 B e1 ho c1 b1 hi)
 have hv:∀v,Rel c' w' x v→Rel ⟨c'.f,fun b=>c'.imm b∨b=B.b⟩ w' y v:=by
  intro v hr;rcases hxy with rfl|hy
  · exact hrel hr
  · refine (zdb (k2.only ho) (I := fun b => c'.imm b ∨ b = B.b) (fun b hb => .inl hb) (fun b hb => ?_) 20 hr hy).mono ⟨fun _ _ e => (by cases e), fun _ hb => hb⟩ (fun _ _ => rfl)
    obtain⟨k,o1,B1,e1,e2,rfl⟩:=hb;rw[Tr.get] at e1;cases b:Nat.beq k nm with
    | true =>
      have:=Nat.eq_of_beq_eq_true b;subst this;rw[b1] at e2;cases e2;exact .inr rfl
    | false=>rw[b] at e1;cases e1
 refine⟨⟨c'.f,fun b=>c'.imm b∨b=B.b⟩,.put nm none H3,n2,.ret y,⟨k1.f,fun b hb => .inl (k1.imm b hb),k1.os,k1.tape,k1.output,k1.size,k1.other,fun b hb=>?_,fun b hb=>?_⟩,hw2,k3,k4,?_,rfl,rfl,rfl⟩
 · rcases hb with hb | rfl
   · exact k1.newimm b hb
   · exact .inr (k1.own _ hown)
 · obtain ⟨k, o1, B1, e1, e2, rfl⟩ := hb
   exact k1.own _ ⟨k,o1,B1,(hget _ _ e1).2,e2,rfl⟩
 · cases e<;>first|exact k5.elim|exact hv _ k5
theorem DC.one {g:FuncId}{args:List AV}{H:zah}{nx:Nat}{R:AE→zah→Nat→Prop}(h:DC P E g args H nx R):∃ae H' n,DC P E g args H nx (fun a h m=>a=ae∧h=H'∧m=n)∧R ae H' n:=by
 obtain⟨ae,H',nx',h1,h2⟩:=h;exact⟨ae,H',nx',⟨ae,H',nx',h1,rfl,rfl,rfl⟩,h2⟩
end Go.Ago
end
section
namespace Go.Ago
open Go.Proofs
attribute [local irreducible] ltI leI eqI eqS shrI wr inB mmI comp DC DP DW DV
attribute [local irreducible] ckP ct InR PLc zev zeu zdo zcf ckC zb7 entN zbh za3 bitW EntP mapR NoneB
def zby (n:Nat):List Int:=(List.range n).map fun k:Nat=>(k:Int)
theorem zu2 (n:Nat):zby (n+1)=zby n++[(n:Int)]:=by simp[zby,List.range_succ]
theorem zff (n:Nat):(zby n).length=n:=by simp[zby]
theorem mem_rangeI {n:Nat}{x:Int}:x∈zby n↔0≤x∧x<n:=by
 simp only[zby,List.mem_map,List.mem_range];exact⟨fun ⟨k,h1,h2⟩=>by omega,fun h=>⟨x.toNat,by omega,by omega⟩⟩
theorem yd0:([]:List Int)=zby 0:=rfl
attribute [local irreducible] zby
theorem yd8 (n:Nat)(hn:n≤100000):DPR 45 [i64 n] (fun ae=>∃v,ae = .ret v∧Nrm0 v (zaq (zby n))):=by
 refine zaf eRg zae Tryz.func45 rfl (by decide) rfl rfl ?_
 conv=>whnf
 refine zai eRg zae [2,5] [] 2000 (fun x:{x:Nat×List Int // x.2=zby x.1∧x.1≤n}=>[(6,i64 x.1.1),(3,accV 1000 1 (x.1.2.map ic))]) (fun x=>accH 1000 1 (x.1.2.map ic)) [(1000,.slot 3)] (fun x=>n+1 - x.1.1) (⟨(0,[]),yd0,Nat.zero_le _⟩) ?_
 conv=>whnf
 refine⟨?_,fun x=>?_⟩
 · conv => whnf
   (repeat' first|exact True.intro|rfl|apply And.intro )
 rcases x with⟨⟨m,_|⟨y,acc⟩⟩,hm,hmb⟩
 · dsimp only at hm hmb
   have i_len:=congrArg List.length hm;simp only[List.length_nil,zff] at i_len
   conv=>whnf
   repeat' ((first|refine Br.f (b:=Nat.beq _ _) rfl ?_|refine Rq.mk (by(rfl )) ?_|refine Br.split (fun h=>?_) (fun h=>?_)<;>(try simp only[bz] at h))<;>conv=>whnf)
   · (refine⟨⟨(m+1,[(m:Int)]),(by rw[zu2,← hm];rfl),(by omega)⟩,(by(conv=>whnf);(repeat' first|exact True.intro|exact zat (by rfl) (by rfl) (by simp) (by rfl)|exact zaj (f:=ic) (fun _=>by rfl)|rfl|apply And.intro|(refine cw ?_ ?_ ?_<;>(try dsimp only)<;>omega) )),rfl,(by(dsimp only);omega)⟩)
   · have e : n = m := by omega
     exact⟨.nils,rfl,by rw[e,← hm];exact Nrm0.n⟩
 · dsimp only at hm hmb
   have i_len:=congrArg List.length hm;simp only[List.length_cons,zff] at i_len
   conv=>whnf
   repeat' ((first|refine Br.f (b:=Nat.beq _ _) rfl ?_|refine Rq.mk (zcg 8 100001 (by simp) rfl rfl (by have:=i_len;simp only[List.length_cons,List.length_map,List.length_nil] at this ⊢;omega) (by decide)) ?_|refine Rq.mk (by(rfl )) ?_|refine Br.split (fun h=>?_) (fun h=>?_)<;>(try simp only[bz] at h))<;>conv=>whnf)
   · (refine⟨⟨(m+1,y::(acc++[(m:Int)])),(by rw[zu2,← hm];rfl),(by omega)⟩,(by(conv=>whnf);(repeat' first|exact True.intro|exact zat (by rfl) (by rfl) (by simp) (by rfl)|exact za4 (by rfl) (za7 (f:=ic) (fun _=>by rfl) (by rfl) (by simp))|exact zaj (f:=ic) (fun _=>by rfl)|rfl|apply And.intro|(refine cw ?_ ?_ ?_<;>(try dsimp only)<;>omega) )),rfl,(by(dsimp only);omega)⟩)
   · generalize hg2 : snap _ 20 _ = rr
     obtain rfl:=hg2.symm.trans (zin (f:=ic) (fun _=>rfl) rfl)
     conv=>whnf
     have e:n=m:=by omega
     exact⟨zaq (y::acc),rfl,by rw[e,← hm];exact Nrm0.r⟩
theorem zvb (n:Nat)(hn:n≤100000):DPR 45 [i64 n] (fun ae=>ae = .ret (zaq (zby n))):=by
 refine(yd8 n hn).nrm ?_
 rintro _ ⟨v,rfl,hv⟩
 exact⟨_,_,rfl,.inl (.inl hv),rfl⟩
def NoneI (l:List Int)(r:Int)(n:Nat):Prop:=∀(k:Nat) (h:k<l.length),k<n→r≠l[k]
theorem NoneI.nil {l r}:NoneI l r 0:=fun _ _ h=>absurd h (Nat.not_lt_zero _)
theorem NoneI.step {l:List Int}{r:Int}{n:Nat}(h:NoneI l r n)(hn:n<l.length)(h1:¬r=l[n]):NoneI l r (n+1):=fun k hk hl=>by
 rcases Nat.lt_or_ge k n with h2|h2
 · exact h k hk h2
 · obtain rfl : k = n := by omega
   exact h1
theorem NoneI.not {l:List Int}{r:Int}{n:Nat}(h:NoneI l r n)(hn:(l.length:Int)≤n):r∉l:=fun hm=>by
 obtain⟨k,hk,rfl⟩:=List.getElem_of_mem hm;exact h k hk (by omega) rfl
attribute [local irreducible] NoneI
theorem yap (l:BL Int)(r:Int):DPR 47 [zaq l.l,i64 r] (retI fun n=>(0≤n∧r∈l.l)∨(n = -1∧r∉l.l)):=by
 refine zaf eRg zae Tryz.func47 rfl (by decide) rfl rfl ?_
 have hl:=l.h
 conv=>whnf
 refine zai eRg zae [0,1,4,7] [] 0 (fun n:{n:Nat // NoneI l.l r n}=>[(8,i64 n.1)]) (fun _=>[]) [] (fun n=>l.l.length+1 - n.1) (⟨0,NoneI.nil⟩) ?_
 conv=>whnf
 refine⟨?_,fun n=>?_⟩
 · conv => whnf
   (repeat' first|exact True.intro|rfl|apply And.intro )
 conv=>whnf
 repeat' ((first|refine Ok3.mk _ (zam (i:=n.1) (by omega)) ?_|refine Rq.mk (by(first|rfl|((try simp only[rz]);omega))) ?_|refine Br.split (fun h=>?_) (fun h=>?_)<;>(try simp only[bz] at h))<;>conv=>whnf)
 all_goals first|exact⟨_,rfl,.inr ⟨rfl,n.2.not h⟩⟩|exact⟨_,rfl,.inl ⟨by omega,by rw[h];exact List.getElem_mem _⟩⟩|(refine⟨⟨n.1+1,NoneI.step n.2 (by omega) h⟩,?_,rfl,?_⟩<;>first|((conv=>whnf);(repeat' first|exact True.intro|rfl|apply And.intro|(refine cw ?_ ?_ ?_<;>(try dsimp only)<;>omega) );done)|((try simp only[List.length_map] at *)<;>omega))
theorem zrn (l:BL Int)(r:Int):DPR 12 [zaq l.l,i64 r] (retB fun b=>b=true↔r∈l.l):=by
 refine zaf eRg zae Tryz.func12 rfl (by decide) rfl rfl ?_
 conv=>whnf
 repeat' ((first|refine Br.split (fun h=>?_) (fun h=>?_)<;>(try simp only[bz] at h)|(refine zaa rfl (yap l r) ?_;rintro _ ⟨n,rfl,hn⟩))<;>conv=>whnf)
 all_goals first|exact⟨_,rfl,by simp only[true_iff];rcases hn with hn|hn;exact hn.2;omega⟩|exact⟨_,rfl,by simp only[false_iff,Bool.false_eq_true];rcases hn with hn|hn;omega;exact hn.2⟩
theorem zro (l:BL Int)(r:Int):DPR 12 [zaq l.l,i64 r] (retD (r∈l.l)):=DP.dec (zrn l r)
def plR (tw:List Int)(r:Int):Int:=if r<0 then r else tw.getD r.toNat 0
def PlTo (tw:List Int)(r:Int):Prop:=r<0∨r<tw.length
def plI (i:Ins)(tw:List Int):Ins:={ i with a:=plR tw i.a,b:=plR tw i.b,l:=⟨i.l.l.map (plR tw),by rw[List.length_map];exact i.l.h⟩ }
theorem ziw (tw:List Int)(h48:tw.length<281474976710656)(r:Int)(h:PlTo tw r):DPR 122 [i64 r,.rptr [zaq tw]] (fun ae=>ae = .ret (i64 (plR tw r))):=by
 refine zaf eRg zae Tryz.func122 rfl (by decide) rfl rfl ?_
 have h:r<0∨r<tw.length:=h
 conv=>whnf
 repeat' ((first|refine Rq.mk (by(first|rfl|((try simp only[rz]);omega))) ?_|refine Br.split (fun h=>?_) (fun h=>?_)<;>(try simp only[bz] at h)|refine Ok3.mk _ (za2 (by omega)) ?_)<;>conv=>whnf)
 · rw[plR,if_pos h]
 · rw[plR,if_neg (by omega),zmj]
attribute [local irreducible] plR
def PlOK (i:Ins)(tw:List Int):Prop:=PlTo tw i.a∧PlTo tw i.b∧∀r∈i.l.l,PlTo tw r
theorem zb4 {ρ:Nat→Nat}{s:Nat}{l:List Int}{es:List (List AV)}(h:es=l.map ic):AObj.arr s es=AObj.ren ρ (.arr s (l.map ic)):=by
 subst h;simp only[AObj.ren,List.map_map];congr 1
theorem zdi {n s:Nat}{l:List Int}:AObj.lt n (.arr s (l.map ic)):=by show(List.all _ _)=true;simp[AV.l1,AV.la,AV.l0]
theorem zfu {H:zah}{n k i len sz m:Nat}{α:Type}{l:List α}{f:α→List AV}(hH:H.get k=some (.arr m (l.map f)))(hf:∀a,(f a).flatMap (sids H n)=[]):sids H (n+1) (.slc k i len sz)=[k]:=by
 have:(((l.map f).drop i).take len).flatMap (fun e=>e.flatMap (sids H n))=[]:=by
  rw[List.flatMap_eq_nil_iff];intro e he;obtain⟨a,_,rfl⟩:=List.mem_map.1 (List.mem_of_mem_drop (List.mem_of_mem_take he));exact hf a
 simp only[sids,hH,this]
theorem yh2 {H:zah}{n:Nat}{x y:AV}{rx:List Nat}(hx:sids H n x=rx)(hy:sids H n y=[]):(([]++[x,y]++[]):List AV).flatMap (sids H n)=rx:=by
 simp[hx,hy]
theorem zk1 {H:zah}{n:Nat}{x y:AV}{rx:List Nat}(hx:sids H n x=[])(hy:sids H n y=rx):(([]++[x]++[y]):List AV).flatMap (sids H n)=rx:=by
 simp[hx,hy]
theorem zk0 {H:zah}{n k s:Nat}{v:AV}{rs:List Nat}(hH:H.get k=some (.arr s [[v]]))(hv:sids H n v=rs):sids H (n+1) (.ptr k 0 0)=k::rs:=by
 simp only[sids,hH];simp[hv]
theorem zga {P:Program}{E:Env}{nm:Nat}{g:FuncId}{first cap args args':List AV}{H:zah}{Q:AE→Prop}{R:AV→List (Nat×Option AObj)→List Nat→Prop}{rs:List Nat}(hs:mapO (snap H 20) (first++args++cap)=some args')(h:DP P E g args' Q)
 (he:(first++args++cap).flatMap (sids H 20)=rs)(hq:∀ae,Q ae→∃v,ae = .ret v∧v.flat=true∧R v [] rs):DV P E nm (.fn (.func g) first cap) args H R:=
 DV.flat hs h fun ae ha=>by obtain⟨v,h1,h2,h3⟩:=hq ae ha;exact⟨v,h1,h2,by rw[he];exact h3⟩
abbrev plO (pl:List Int):AObj := .arr 1 (pl.map ic)
theorem zw6 (i:Ins)(tw:List Int)(h48:tw.length<281474976710656)(hl40:i.l.l.length≤40)(hR:PlOK i tw):DC Tryz.prog ERg 88 [i.av,.slc 0 0 tw.length 1] (.put 0 (some (plO tw)) .nil) 1 (fun ae H' _=>H'.get 0=some (plO tw)∧∃v,ae = .ret (.agg ((plI i tw).cells.set 25 v))∧(Nrm0 v (zaq (i.l.l.map (plR tw)))∨∃o,H'.get 1000=some o∧snap (.put 1000 (some o) .nil) 19 v=some (zaq (i.l.l.map (plR tw))))):=by
 refine zay eRg zae Tryz.func88 rfl (by decide) rfl rfl ?_
 conv=>whnf
 repeat' ((first|refine Rq.mk (b:=chk3 _ _ _ _ _ _) (by kernel_rfl) ?_|refine And.intro (a:=zaw _=true) (by kernel_rfl) (LzK.e ?_)|(refine zga (rs:=[2,0]) (zab rfl (zab (zft (n:=19) rfl (zab (zbk (f:=ic) (l:=tw) (n:=18) (fun _=>rfl) rfl rfl rfl) rfl)) rfl)) (ziw tw h48 i.a hR.1) (zk1 rfl (zk0 rfl (zfu (n:=18) (f:=ic) (l:=tw) rfl (fun _=>rfl)))) ?_;rintro _ rfl;refine⟨_,rfl,rfl,?_⟩)|(refine zga (rs:=[2,0]) (zab rfl (zab (zft (n:=19) rfl (zab (zbk (f:=ic) (l:=tw) (n:=18) (fun _=>rfl) rfl rfl rfl) rfl)) rfl)) (ziw tw h48 i.b hR.2.1) (zk1 rfl (zk0 rfl (zfu (n:=18) (f:=ic) (l:=tw) rfl (fun _=>rfl)))) ?_;rintro _ rfl;refine⟨_,rfl,rfl,?_⟩))<;>conv=>whnf)
 refine zai eRg zae [4,5,6,23,24] [7] 2000 (fun x:{x:Nat×List Int // x.2=(i.l.l.take x.1).map (plR tw)∧x.1≤i.l.l.length}=>[(25,i64 x.1.1)]) (fun x=>(7,.arr 29 [((plI i tw).cells.set 25 (accV 1000 1 (x.1.2.map ic)))])::accH 1000 1 (x.1.2.map ic)) [(1000,.cell 7 25)] (fun x=>i.l.l.length+1 - x.1.1) (⟨(0,[]),rfl,Nat.zero_le _⟩) ?_
 conv=>whnf
 refine⟨?_,fun x=>?_⟩
 · conv => whnf
   (repeat' first|exact True.intro|exact zb4 (by rfl)|exact zdi|rfl|apply And.intro )
 rcases x with⟨⟨m,_|⟨y,acc⟩⟩,hm,hmb⟩
 · dsimp only at hm hmb
   have i_len:=congrArg List.length hm;simp only[List.length_nil,List.length_map,List.length_take] at i_len
   conv=>whnf
   repeat' ((first|refine Br.f (b:=Nat.beq _ _) rfl ?_|refine Ok3.mk _ (zam (l:=i.l.l) (i:=m) (by omega)) ?_|refine Rq.mk (b:=chk3 _ _ _ _ _ _) (by kernel_rfl) ?_|refine Rq.mk (by(first|rfl|((try simp only[rz]);omega))) ?_|refine Br.split (fun h=>?_) (fun h=>?_)<;>(try simp only[bz] at h)|refine And.intro (a:=zaw _=true) (by kernel_rfl) (LzK.e ?_)|(refine zga (rs:=[2,0]) (zab rfl (zab (zft (n:=19) rfl (zab (zbk (f:=ic) (l:=tw) (n:=18) (fun _=>rfl) rfl rfl rfl) rfl)) rfl)) (ziw tw h48 (i.l.l[m]'(by omega)) (hR.2.2 _ (List.getElem_mem _))) (zk1 rfl (zk0 rfl (zfu (n:=18) (f:=ic) (l:=tw) rfl (fun _=>rfl)))) ?_;rintro _ rfl;refine⟨_,rfl,rfl,?_⟩))<;>conv=>whnf)
   · (refine⟨⟨(m+1,[plR tw (i.l.l[m]'(by omega))]),(by rw[zb2 (by omega),← hm];rfl),(by omega)⟩,(by(conv=>whnf);(repeat' first|exact True.intro|exact congrArg (fun v=>AObj.arr 29 [((plI i tw).cells.set 25 v)]) (zat (by rfl) (by rfl) (by simp) (by rfl))|exact zb4 (by rfl)|exact zdi|exact zaj (f:=ic) (fun _=>by rfl)|rfl|apply And.intro|(refine cw ?_ ?_ ?_<;>(try dsimp only)<;>omega) )),rfl,(by(dsimp only);omega)⟩)
   · have e : i.l.l = [] := List.eq_nil_of_length_eq_zero (by omega)
     exact⟨rfl,.nils,rfl,.inl (by rw[e];exact Nrm0.n)⟩
 · dsimp only at hm hmb
   have i_len:=congrArg List.length hm;simp only[List.length_cons,List.length_map,List.length_take] at i_len
   conv=>whnf
   repeat' ((first|refine Br.f (b:=Nat.beq _ _) rfl ?_|refine Rq.mk (zcg 8 2000 (by simp) rfl rfl (by have:=i_len;simp only[List.length_cons,List.length_map,List.length_nil] at this ⊢;omega) (by decide)) ?_|refine Ok3.mk _ (zam (l:=i.l.l) (i:=m) (by omega)) ?_|refine Rq.mk (b:=chk3 _ _ _ _ _ _) (by kernel_rfl) ?_|refine Rq.mk (by(first|rfl|((try simp only[rz]);omega))) ?_|refine Br.split (fun h=>?_) (fun h=>?_)<;>(try simp only[bz] at h)|refine And.intro (a:=zaw _=true) (by kernel_rfl) (LzK.e ?_)|(refine zga (rs:=[2,0]) (zab rfl (zab (zft (n:=19) rfl (zab (zbk (f:=ic) (l:=tw) (n:=18) (fun _=>rfl) rfl rfl rfl) rfl)) rfl)) (ziw tw h48 (i.l.l[m]'(by omega)) (hR.2.2 _ (List.getElem_mem _))) (zk1 rfl (zk0 rfl (zfu (n:=18) (f:=ic) (l:=tw) rfl (fun _=>rfl)))) ?_;rintro _ rfl;refine⟨_,rfl,rfl,?_⟩))<;>conv=>whnf)
   · (refine⟨⟨(m+1,y::(acc++[plR tw (i.l.l[m]'(by omega))])),(by rw[zb2 (by omega),← hm];rfl),(by omega)⟩,(by(conv=>whnf);(repeat' first|exact True.intro|exact congrArg (fun v=>AObj.arr 29 [((plI i tw).cells.set 25 v)]) (zat (by rfl) (by rfl) (by simp) (by rfl))|exact zb4 (by rfl)|exact zdi|exact za4 (by rfl) (za7 (f:=ic) (fun _=>by rfl) (by rfl) (by simp))|exact zaj (f:=ic) (fun _=>by rfl)|rfl|apply And.intro|(refine cw ?_ ?_ ?_<;>(try dsimp only)<;>omega) )),rfl,(by(dsimp only);omega)⟩)
   · exact⟨rfl,_,rfl,.inr ⟨_,rfl,(zbf (f:=ic) (n:=18) (fun _=>rfl) rfl).trans (by have e:y::acc=i.l.l.map (plR tw):=(by rw[hm,List.take_of_length_le (by omega)]);rw[← e];rfl)⟩⟩
theorem zw7 (i:Ins)(tw:List Int)(h48:tw.length<281474976710656)(hl40:i.l.l.length≤40)(hR:PlOK i tw):DC Tryz.prog ERg 88 [i.av,.slc 0 0 tw.length 1] (.put 0 (some (plO tw)) .nil) 1 (fun ae H' _=>ae = .ret (plI i tw).av∧H'.get 0=some (plO tw)):=by
 obtain⟨ae,H',nx',h,h0,v,rfl,h2⟩:=(zw6 i tw h48 hl40 hR).one;rcases h2 with h2|⟨o,ho,hv⟩
 · refine h.nrm ?_
   rintro _ _ _ ⟨rfl,rfl,rfl⟩
   exact⟨_,_,rfl,.inl (.inr ⟨_,_,rfl,rfl,zsk (i:=plI i tw) h2⟩),rfl,h0⟩
 · refine h.frzR ?_
   rintro _ _ _ ⟨rfl,rfl,rfl⟩
   exact⟨1000,o,_,(plI i tw).av,rfl,ho,.inr (zd2 (n:=19) (zab rfl (zab rfl (zab rfl (zab rfl (zab rfl (zab rfl (zab rfl (zab rfl (zab rfl (zab rfl (zab rfl (zab rfl (zab rfl (zab rfl (zab rfl (zab rfl (zab rfl (zab rfl (zab rfl (zab rfl (zab rfl (zab rfl (zab rfl (zab rfl (zab rfl (zab hv rfl))))))))))))))))))))))))))),rfl,h0⟩
theorem zn0 {n:Nat}(i:Ins)(tw:List Int)(hn:tw.length=n)(h48:tw.length<281474976710656)(hl40:i.l.l.length≤40)(hR:PlOK i tw):DC Tryz.prog ERg 88 [i.av,.slc 0 0 n 1] (.put 0 (some (plO tw)) .nil) 1 (fun ae H' _=>ae = .ret (plI i tw).av∧H'.get 0=some (plO tw)):=by
 subst hn;exact zw7 i tw h48 hl40 hR
theorem zk9 {tw:List Int}:(plO tw).flatO:=by show(List.all _ _)=true;simp[zgv,znn,zpm]
theorem zq6 (i:Ins):zjl (.ret i.av):=zys rfl
end Go.Ago
end
namespace Go.Ago
open Go.Proofs
attribute [local irreducible] ltI leI eqI eqS shrI wr inB mmI comp DC DP DW DV
abbrev yko (l:List Bool):AV := .rsl 1 (l.map fun b=>[.bool b])
def AllT (l:List Bool)(n:Nat):Prop:=∀(j:Nat) (h:j<l.length),j<n→l[j]=true
theorem AllT.nil {l}:AllT l 0:=fun _ _ h=>by omega
theorem AllT.step {l n}(h:AllT l n)(hn:n<l.length)(h1:l[n]=true):AllT l (n+1):=fun j hj hl=>by
 rcases Nat.lt_or_ge j n with hj'|hj'
 · exact h j hj hj'
 · have : j = n := by omega
   subst this;exact h1
def FreeP (l:List Bool)(n:Int):Prop:=(n = -1∧AllT l l.length)∨(0≤n∧n<l.length∧l.getD n.toNat true=false)
theorem FreeP.no {l:List Bool}{n:Nat}(h:AllT l n)(hn:l.length≤n):FreeP l (-1) := .inl ⟨rfl,fun j hj _=>h j hj (by omega)⟩
theorem yc3 {l:List Bool}{n:Nat}(hn:n<l.length)(h:l[n]=false):FreeP l (n:Int) := .inr ⟨by omega,by omega,by simp[List.getD,hn,h]⟩
theorem zi4 (l:BL Bool):DPR 87 [yko l.l,.bool false] (retI (FreeP l.l)):=by
 refine zaf eRg zae Tryz.func87 rfl (by decide) rfl rfl ?_
 have hs:=l.h
 conv=>whnf
 refine zai eRg zae [0,1,4,7] [] 0 (fun i:{i:Nat // AllT l.l i}=>[(8,i64 i.1)]) (fun _=>[]) [] (fun i=>l.l.length+1 - i.1) (⟨0,AllT.nil⟩) ?_
 conv=>whnf
 refine⟨?_,fun i=>?_⟩
 · conv => whnf
   (repeat' first|exact True.intro|rfl|apply And.intro )
 conv=>whnf
 repeat' ((first|refine Rq.mk (by(first|rfl|((try simp only[rz]);omega))) ?_|refine Br.split (fun h=>?_) (fun h=>?_)<;>(try simp only[bz] at h)|refine zag (fun h=>?_) (fun h=>?_)<;>(try simp only[bz] at h)|refine Ok3.mk _ (zam (by omega)) ?_)<;>conv=>whnf)
 all_goals first|(refine⟨⟨i.1+1,AllT.step i.2 (by omega) h⟩,(by(conv=>whnf);(repeat' first|exact True.intro|rfl|apply And.intro|(refine cw ?_ ?_ ?_<;>(try dsimp only)<;>omega) )),rfl,(by(try simp only[List.length_map] at *)<;>omega)⟩)|exact⟨_,rfl,yc3 (by omega) h⟩|exact⟨_,rfl,FreeP.no i.2 (by omega)⟩
end Go.Ago
