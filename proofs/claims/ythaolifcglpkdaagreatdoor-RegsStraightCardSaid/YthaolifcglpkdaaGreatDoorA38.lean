/-
  Part 38: lemmas, each with its own conditions.
-/
import Derived.Test.YthaolifcglpkdaaGreatDoorA36
import Derived.Test.YthaolifcglpkdaaGreatDoorA37
set_option maxRecDepth 100000
set_option maxHeartbeats 0
set_option linter.all false
section
namespace Go.Ago
open Go.Proofs
attribute [local irreducible] ltI leI eqI eqS shrI wr inB mmI comp DC DP DW DV
attribute [local irreducible] ckP ct InR PLc zev zeu zdo zcf ckC
theorem zv1 {l:List Int}{n:Nat}(h:n<l.length):l.getD n 0=l[n]:=by simp[List.getD,h]
theorem ydo (zs:List Int):(zjq zs).Pairwise (·≤·):=by
 refine List.Pairwise.ip (fun h=>by simpa using h) (List.pairwise_mergeSort (le:=fun x y=>decide (x≤y)) (fun a b c h1 h2=>by simp only[decide_eq_true_eq] at *;omega) (fun a b=>by simp only[Bool.or_eq_true,decide_eq_true_eq];omega) zs)
theorem zxt {zs:List Int}(h:zs.Pairwise (·≤·)):(Lib.compact zs).Pairwise (·<·):=by
 have hle:∀(i j:Nat) (hi:i<zs.length) (hj:j<zs.length),i≤j→zs[i]≤zs[j]:=fun i j hi hj hij=>by
  rcases Nat.lt_or_ge i j with h1|h1
  · exact List.pairwise_iff_getElem.1 h i j hi hj h1
  · obtain rfl : i = j := by omega
    exact Int.le_refl _
 have hg:∀i,i<zs.length→zs.toArray[i]! = zs.getD i 0:=fun i hi=>by rw[getElem!_pos _ i (by simpa using hi)];simp[List.getD,hi]
 unfold Lib.compact Lib.compactUpTo;refine List.pairwise_map.2 ?_;refine List.Pairwise.imp_of_mem (R:=fun a b:Nat=>a<b) ?_ (List.Pairwise.filter _ List.pairwise_lt_range)
 intro a b ha hb hab;obtain⟨ha1,_⟩:=List.mem_filter.1 ha;obtain⟨hb1,hb2⟩:=List.mem_filter.1 hb;have ha1:=List.mem_range.1 ha1;have hb1:=List.mem_range.1 hb1;simp only[Lib.keeps,decide_eq_true_eq] at hb2;rw[hg _ ha1,hg _ hb1];rw[hg _ hb1,hg _ (by omega)] at hb2
 have h1:=hle a (b - 1) ha1 (by omega) (by omega)
 have h2:=hle (b - 1) b (by omega) hb1 (by omega)
 rw[← zv1 ha1,← zv1 (by omega:b - 1<zs.length)] at h1
 rw[← zv1 hb1,← zv1 (by omega:b - 1<zs.length)] at h2
 rcases hb2 with hb2|hb2
 · omega
 · omega
def zb7 (p:Int)(l:List Ins)(n:Nat):List Int:=((l.take n).filter fun i=>decide (i.op=16∧i.p=p)).map (·.n)
theorem zvy {p l}:zb7 p l 0=[]:=rfl
theorem zph {p:Int}{l:List Ins}{n:Nat}(h:n<l.length)(h1:l[n].op=16)(h2:l[n].p=p):zb7 p l (n+1)=zb7 p l n++[l[n].n]:=by
 unfold zb7;rw[List.take_succ_eq_append_getElem h,List.filter_append,List.map_append];simp[h1,h2]
theorem zpi {p:Int}{l:List Ins}{n:Nat}(h:n<l.length)(h1:¬(l[n].op=16∧l[n].p=p)):zb7 p l (n+1)=zb7 p l n:=by
 unfold zb7;rw[List.take_succ_eq_append_getElem h,List.filter_append,List.map_append];simp[h1]
theorem zhp {p:Int}{l:List Ins}{n:Nat}:(zb7 p l n).length≤n:=by
 unfold zb7;rw[List.length_map];exact Nat.le_trans (List.length_filter_le _ _) (by rw[List.length_take];omega)
theorem zxg {p:Int}{l:List Ins}{x:Int}:x∈zb7 p l l.length↔∃i∈l,i.op=16∧i.p=p∧x=i.n:=by
 unfold zb7;rw[List.take_length];simp only[List.mem_map,List.mem_filter,decide_eq_true_eq]
 constructor
 · rintro⟨i,⟨h1,h2,h3⟩,rfl⟩;exact⟨i,h1,h2,h3,rfl⟩
 · rintro⟨i,h1,h2,h3,rfl⟩;exact⟨i,⟨h1,h2,h3⟩,rfl⟩
def entN (bs:List Bd)(p:Int)(m:Nat):List Int:=(bs.take m).flatMap fun b=>zb7 p b.ins.l b.ins.l.length
theorem entN_0 {bs p}:entN bs p 0=[]:=rfl
theorem ybc {bs:List Bd}{p:Int}{m:Nat}(h:m<bs.length):entN bs p (m+1)=entN bs p m++zb7 p bs[m].ins.l bs[m].ins.l.length:=by
 unfold entN;rw[List.take_succ_eq_append_getElem h,List.flatMap_append];simp
def zbh (bs:List Bd):Nat:=(bs.map fun b=>b.ins.l.length).sum
theorem zpq {p:Int}:∀{bs:List Bd} {m:Nat},(entN bs p m).length+((bs.drop m).map fun b=>b.ins.l.length).sum≤zbh bs
 | [],m=>by simp[entN,zbh]
 | b::bs,0=>by simp[entN,zbh]
 | b :: bs, m + 1 => by
   have h1:=@zpq p bs m;have h2:=@zhp p b.ins.l b.ins.l.length;have e:entN (b::bs) p (m+1)=zb7 p b.ins.l b.ins.l.length++entN bs p m:=by simp[entN]
   rw[e];simp only[List.length_append,List.drop_succ_cons,zbh,List.map_cons,List.sum_cons] at h1 ⊢;omega
theorem ztn {p:Int}{bs:List Bd}{m:Nat}(h:m<bs.length):(entN bs p m).length+bs[m].ins.l.length≤zbh bs:=by
 have h1:=@zpq p bs m;rw[List.drop_eq_getElem_cons h,List.map_cons,List.sum_cons] at h1;omega
theorem zv5 {p:Int}{bs:List Bd}{m:Nat}:(entN bs p m).length≤zbh bs:=by have:=@zpq p bs m;omega
def EntP (c:Cd)(p:Int)(l:List Int)(e:Int):Prop:=
 (ckC c≠0∧e=ckC c∧l=[])∨(ckC c=0∧¬(0≤p∧p<c.b.l.length)∧e=1∧l=[])∨(ckC c=0∧(0≤p∧p<c.b.l.length)∧e=0∧l.length≤zbh c.b.l∧(∀x,x∈l↔x∈entN c.b.l p c.b.l.length)∧l.Pairwise (·<·))
attribute [local irreducible] zb7 entN zbh
theorem zd5 {H:zah}{n:Nat}{x y x' y':AV}(hx:snap H n x=some x')(hy:snap H n y=some y'):snap H (n+1) (.tup [x,y])=some (.tup [x',y']):=by simp only[snap,mapO,hx,hy]
theorem zyy {H:zah}{n:Nat}{l r:List Int}{k:Nat}(hk:k=l.length):mapO (mapO (snap H (n+1))) ((((l++r).map ic).drop 0).take k)=some (l.map ic):=by
 subst hk;have:(((l++r).map ic).drop 0).take l.length=l.map ic:=by rw[List.drop_zero,List.map_append];exact List.take_left' (by simp)
 rw[this];exact zl9 fun x hx=>by obtain⟨a,_,rfl⟩:=List.mem_map.1 hx;rfl
theorem ylf {l:List Int}{e:Int}(h:l≠[]):AE.ret (.tup [.rsl 1 (l.map ic),i64 e])=AE.ret (.tup [bif l.isEmpty then .nils else .rsl 1 (l.map ic),i64 e]):=by
 cases l with
 | nil=>exact absurd rfl h
 | cons x l=>rfl
theorem yj0 {l:List Int}(h:l≠[]):Lib.compact (zjq l)≠[]:=fun e=>by
 rcases l with _|⟨x,l⟩
 · exact h rfl
 · have : x ∈ Lib.compact (zjq (x :: l)) := mem_compact.2 (mem_sortL.2 List.mem_cons_self)
   rw[e] at this;cases this
theorem yax {a b:Int}{X:Prop}(_:a=b)(x:X):X:=x
theorem yav {a b:Int}{X:Prop}(_:¬a=b)(x:X):X:=x
theorem yaw {a b:Int}{X:Prop}(_:a≤b)(x:X):X:=x
theorem ydn {l:List Int}(h:l≠[]):zjq l≠[]:=fun e=>h (List.eq_nil_of_length_eq_zero (by rw[← zgm (zs:=l),e];rfl))
theorem yba (c:Cd)(p:Int)(hs:zbh c.b.l≤100000):DPR 72 [c.av,i64 p] (fun ae=>∃l e,ae = .ret (.tup [bif l.isEmpty then .nils else .rsl 1 (l.map ic),i64 e])∧EntP c p l e):=by
 refine zaf eRg zae Tryz.func72 rfl (by decide) rfl rfl ?_
 have hl:=c.b.h;have hw:wr .i64 ((c.b.l.length:Int) - 1)=(c.b.l.length:Int) - 1:=wr64 (by omega) (by omega)
 conv=>whnf
 repeat' ((first|refine Br.split (fun h=>?_) (fun h=>?_)<;>(try simp only[bz] at h)|(refine zaa rfl (zfq c) ?_;rintro _ rfl)|(refine zaa rfl (in_e p 0 (wr .i64 (((c.b.l.map Bd.cells).length:Int) - 1))) ?_;rintro _ (⟨rfl,hp⟩|⟨rfl,hp⟩)))<;>conv=>whnf)
 all_goals (try rw[List.length_map,hw] at hp)
 all_goals first
  | exact⟨[],ckC c,rfl,.inl ⟨h,rfl,rfl⟩⟩
  | exact⟨[],1,rfl,.inr (.inl ⟨by omega,by omega,rfl,rfl⟩)⟩
  | skip
 have hck:ckC c=0:=by omega
 refine zai eRg zae [1,4,5,25,26] [] 2000 (fun x:{x:Nat×List Int // x.2=entN c.b.l p x.1∧x.1≤c.b.l.length}=>[(27,i64 x.1.1),(7,accV 1000 1 (x.1.2.map ic))]) (fun x=>accH 1000 1 (x.1.2.map ic)) [(1000,.slot 7)] (fun x=>c.b.l.length+1 - x.1.1) (⟨(0,[]),entN_0.symm,Nat.zero_le _⟩) ?_
 conv=>whnf
 refine⟨?_,fun x=>?_⟩
 · conv => whnf
   (repeat' first|exact True.intro|rfl|apply And.intro )
 rcases x with⟨⟨m,_|⟨y,acc⟩⟩,hm,hmb⟩
 · dsimp only at hm hmb
   have hacc:=zv5 (p:=p) (bs:=c.b.l) (m:=m);rw[← hm] at hacc;simp only[List.length_cons,List.length_nil] at hacc
   conv=>whnf
   repeat' ((first|refine Ok3.mk _ (zam (i:=m) (by omega)) ?_|refine Rq.mk (by(first|rfl|((try simp only[rz]);omega))) ?_|refine Br.split (fun h=>?_) (fun h=>?_)<;>(try simp only[bz] at h)|(refine zaa rfl yht ?_;rintro _ rfl)|(refine zaa rfl zxw ?_;rintro _ rfl))<;>conv=>whnf)
   rotate_left
   · exact⟨[],0,rfl,.inr (.inr ⟨hck,by omega,rfl,by simp,fun x=>by rw[show c.b.l.length=m by omega,← hm],.nil⟩)⟩
   have hmlt:m<c.b.l.length:=by omega
   refine zai eRg zae [1,4,5,9,25,26,27,28,29,30,31,32,33] [] 6000 (fun z:{z:Nat×List Int // z.2=([]:List Int)++zb7 p (c.b.l[m]'(by omega)).ins.l z.1∧z.1≤(c.b.l[m]'(by omega)).ins.l.length}=>[(34,i64 z.1.1),(7,accV 5000 1 (z.1.2.map ic))]) (fun z=>accH 5000 1 (z.1.2.map ic)) [(5000,.slot 7)] (fun z=>(c.b.l[m]'(by omega)).ins.l.length+1 - z.1.1) (⟨(0,([]:List Int)),by rw[zvy,List.append_nil],Nat.zero_le _⟩) ?_
   conv=>whnf
   refine⟨?_,fun z=>?_⟩
   · conv => whnf
     (repeat' first|exact True.intro|rfl|apply And.intro )
   rcases z with⟨⟨n,_|⟨z0,zac⟩⟩,hz,hzb⟩
   · dsimp only at hz hzb
     have hgl:=@zhp p (c.b.l[m]'(by omega)).ins.l n
     have hel:=ztn (p:=p) (bs:=c.b.l) (m:=m) hmlt;have i_len:=congrArg List.length hz;rw[List.length_append] at i_len;simp only[List.length_cons,List.length_nil] at i_len
     conv=>whnf
     repeat' ((first|refine Br.f (b:=Nat.beq _ _) rfl ?_|refine Ok3.mk _ (zam (i:=n) (by omega)) ?_|refine Rq.mk (by(first|rfl|((try simp only[rz]);omega))) ?_|refine Br.split (fun h=>?_) (fun h=>?_)<;>(try simp only[bz] at h))<;>conv=>whnf)
     all_goals first
      | (refine yax h ?_;skip)<;>(refine⟨⟨(n+1,[((c.b.l[m]'(by omega)).ins.l[n]'(by omega)).n]),(by rw[zph (by omega) (by assumption) (by assumption),← List.append_assoc,← hz];rfl),(by omega)⟩,(by(conv=>whnf);(repeat' first|exact True.intro|exact zat (by rfl) (by rfl) (by simp) (by rfl)|exact zaj (f:=ic) (fun _=>by rfl)|rfl|apply And.intro|(refine cw ?_ ?_ ?_<;>(try dsimp only)<;>omega) )),rfl,(by(dsimp only);omega)⟩)
      | (refine yav h ?_;skip)<;>(refine⟨⟨(n+1,[]),(by rw[zpi (by omega) (by intro hh;first|exact absurd hh.1 (by assumption)|exact absurd hh.2 (by assumption)),← hz]),(by omega)⟩,(by(conv=>whnf);(repeat' first|exact True.intro|rfl|apply And.intro|(refine cw ?_ ?_ ?_<;>(try dsimp only)<;>omega) )),rfl,(by(dsimp only);omega)⟩)
      | (refine yaw h ?_;skip)<;>(refine⟨⟨(m+1,[]),(by rw[ybc hmlt,← hm,show(c.b.l[m]'(by omega)).ins.l.length=n by omega,← hz]),(by omega)⟩,(by(conv=>whnf);(repeat' first|exact True.intro|rfl|apply And.intro|(refine cw ?_ ?_ ?_<;>(try dsimp only)<;>omega) )),rfl,(by(dsimp only);omega)⟩)
      | skip
   · dsimp only at hz hzb
     have hgl:=@zhp p (c.b.l[m]'(by omega)).ins.l n
     have hel:=ztn (p:=p) (bs:=c.b.l) (m:=m) hmlt;have i_len:=congrArg List.length hz;rw[List.length_append] at i_len;simp only[List.length_cons,List.length_nil] at i_len
     conv=>whnf
     repeat' ((first|refine Br.f (b:=Nat.beq _ _) rfl ?_|refine Rq.mk (zcg 8 1000000 (by simp) rfl rfl (by have:=i_len;simp only[List.length_cons,List.length_map,List.length_nil] at this ⊢;omega) (by decide)) ?_|refine Ok3.mk _ (zam (i:=n) (by omega)) ?_|refine Rq.mk (by(first|rfl|((try simp only[rz]);omega))) ?_|refine Br.split (fun h=>?_) (fun h=>?_)<;>(try simp only[bz] at h))<;>conv=>whnf)
     all_goals first
      | (refine yax h ?_;skip)<;>(refine⟨⟨(n+1,z0::(zac++[((c.b.l[m]'(by omega)).ins.l[n]'(by omega)).n])),(by rw[zph (by omega) (by assumption) (by assumption),← List.append_assoc,← hz];rfl),(by omega)⟩,(by(conv=>whnf);(repeat' first|exact True.intro|exact zat (by rfl) (by rfl) (by simp) (by rfl)|exact za4 (by rfl) (za7 (f:=ic) (fun _=>by rfl) (by rfl) (by simp))|exact zaj (f:=ic) (fun _=>by rfl)|rfl|apply And.intro|(refine cw ?_ ?_ ?_<;>(try dsimp only)<;>omega) )),rfl,(by(dsimp only);omega)⟩)
      | (refine yav h ?_;skip)<;>(refine⟨⟨(n+1,z0::zac),(by rw[zpi (by omega) (by intro hh;first|exact absurd hh.1 (by assumption)|exact absurd hh.2 (by assumption)),← hz]),(by omega)⟩,(by(conv=>whnf);(repeat' first|exact True.intro|exact zat (by rfl) (by rfl) (by simp) (by rfl)|exact zav (f:=ic) (fun _=>by rfl)|exact zaj (f:=ic) (fun _=>by rfl)|rfl|apply And.intro|(refine cw ?_ ?_ ?_<;>(try dsimp only)<;>omega) )),rfl,(by(dsimp only);omega)⟩)
      | (refine yaw h ?_;skip)<;>(refine⟨⟨(m+1,z0::zac),(by rw[ybc hmlt,← hm,show(c.b.l[m]'(by omega)).ins.l.length=n by omega,← hz]),(by omega)⟩,(by(conv=>whnf);(repeat' first|exact True.intro|exact zat (by rfl) (by rfl) (by simp) (by rfl)|exact zav (f:=ic) (fun _=>by rfl)|exact zaj (f:=ic) (fun _=>by rfl)|rfl|apply And.intro|(refine cw ?_ ?_ ?_<;>(try dsimp only)<;>omega) )),rfl,(by(dsimp only);omega)⟩)
      | skip
 · dsimp only at hm hmb
   have hacc:=zv5 (p:=p) (bs:=c.b.l) (m:=m);rw[← hm] at hacc;simp only[List.length_cons,List.length_nil] at hacc;have hz1:(y::acc).length<4611686018427387904:=by simp only[List.length_cons];omega
   conv=>whnf
   repeat' ((first|refine Ok3.mk _ (zam (i:=m) (by omega)) ?_|refine Rq.mk (by(first|rfl|((try simp only[rz]);omega))) ?_|refine Br.split (fun h=>?_) (fun h=>?_)<;>(try simp only[bz] at h)|(refine zeb (k:=1000) (yhr (n:=(acc.map ic).length+1) (y::acc) (by simp) (List.cons_ne_nil _ _) hz1) rfl rfl rfl (zpl (l:=y::acc)) ?_;rintro _ H' _ ⟨rfl,h0⟩;refine⟨rfl,_,h0,zpl,?_⟩)|(refine zyd (k:=1000) (zxu (n:=(acc.map ic).length+1) (zjq (y::acc)) (by rw[zgm];simp) (ydn (List.cons_ne_nil _ _)) (by rw[zgm];exact hz1)) rfl rfl rfl zpl ?_;rintro _ H' _ ⟨rfl,h0⟩;refine⟨_,_,_,rfl,_,h0,zpl,?_⟩))<;>conv=>whnf)
   rotate_left
   · generalize hg : snap _ 20 _ = rr
     obtain rfl:=hg.symm.trans (zd5 (n:=19) (zky (n:=18) (r:=(Lib.compact (zjq (y::acc))).map ic) rfl (by simp) (zyy (by simp))) rfl)
     conv=>whnf
     exact⟨Lib.compact (zjq (y::acc)),0,ylf (yj0 (List.cons_ne_nil _ _)),.inr (.inr ⟨hck,by omega,rfl,by have:=@zmt (zjq (y::acc));rw[zgm] at this;simp only[List.length_cons] at this;omega,fun x=>by rw[mem_compact,mem_sortL,show c.b.l.length=m by omega,← hm],zxt (ydo _)⟩)⟩
   have hmlt:m<c.b.l.length:=by omega
   refine zai eRg zae [1,4,5,9,25,26,27,28,29,30,31,32,33] [1000] 6000 (fun z:{z:Nat×List Int // z.2=(y::acc)++zb7 p (c.b.l[m]'(by omega)).ins.l z.1∧z.1≤(c.b.l[m]'(by omega)).ins.l.length}=>[(34,i64 z.1.1),(7,accV 5000 1 (z.1.2.map ic))]) (fun z=>accH 5000 1 (z.1.2.map ic)) [(5000,.slot 7)] (fun z=>(c.b.l[m]'(by omega)).ins.l.length+1 - z.1.1) (⟨(0,(y::acc)),by rw[zvy,List.append_nil],Nat.zero_le _⟩) ?_
   conv=>whnf
   refine⟨?_,fun z=>?_⟩
   · conv => whnf
     (repeat' first|exact True.intro|exact zat (by rfl) (by rfl) (by simp) (by rfl)|exact zav (f:=ic) (fun _=>by rfl)|exact zaj (f:=ic) (fun _=>by rfl)|rfl|apply And.intro )
   rcases z with⟨⟨n,_|⟨z0,zac⟩⟩,hz,hzb⟩
   · exact absurd hz (by simp)
   · dsimp only at hz hzb
     have hgl:=@zhp p (c.b.l[m]'(by omega)).ins.l n
     have hel:=ztn (p:=p) (bs:=c.b.l) (m:=m) hmlt;have i_len:=congrArg List.length hz;rw[List.length_append] at i_len;simp only[List.length_cons,List.length_nil] at i_len
     conv=>whnf
     repeat' ((first|refine Br.f (b:=Nat.beq _ _) rfl ?_|refine Rq.mk (zcg 8 1000000 (by simp) rfl rfl (by have:=i_len;simp only[List.length_cons,List.length_map,List.length_nil] at this ⊢;omega) (by decide)) ?_|refine Ok3.mk _ (zam (i:=n) (by omega)) ?_|refine Rq.mk (by(first|rfl|((try simp only[rz]);omega))) ?_|refine Br.split (fun h=>?_) (fun h=>?_)<;>(try simp only[bz] at h))<;>conv=>whnf)
     all_goals first
      | (refine yax h ?_;skip)<;>(refine⟨⟨(n+1,z0::(zac++[((c.b.l[m]'(by omega)).ins.l[n]'(by omega)).n])),(by rw[zph (by omega) (by assumption) (by assumption),← List.append_assoc,← hz];rfl),(by omega)⟩,(by(conv=>whnf);(repeat' first|exact True.intro|exact zat (by rfl) (by rfl) (by simp) (by rfl)|exact za4 (by rfl) (za7 (f:=ic) (fun _=>by rfl) (by rfl) (by simp))|exact zaj (f:=ic) (fun _=>by rfl)|rfl|apply And.intro|(refine cw ?_ ?_ ?_<;>(try dsimp only)<;>omega) )),rfl,(by(dsimp only);omega)⟩)
      | (refine yav h ?_;skip)<;>(refine⟨⟨(n+1,z0::zac),(by rw[zpi (by omega) (by intro hh;first|exact absurd hh.1 (by assumption)|exact absurd hh.2 (by assumption)),← hz]),(by omega)⟩,(by(conv=>whnf);(repeat' first|exact True.intro|exact zat (by rfl) (by rfl) (by simp) (by rfl)|exact zav (f:=ic) (fun _=>by rfl)|exact zaj (f:=ic) (fun _=>by rfl)|rfl|apply And.intro|(refine cw ?_ ?_ ?_<;>(try dsimp only)<;>omega) )),rfl,(by(dsimp only);omega)⟩)
      | (refine yaw h ?_;skip)<;>(refine⟨⟨(m+1,z0::zac),(by rw[ybc hmlt,← hm,show(c.b.l[m]'(by omega)).ins.l.length=n by omega,← hz]),(by omega)⟩,(by(conv=>whnf);(repeat' first|exact True.intro|exact zat (by rfl) (by rfl) (by simp) (by rfl)|exact zav (f:=ic) (fun _=>by rfl)|exact zaj (f:=ic) (fun _=>by rfl)|rfl|apply And.intro|(refine cw ?_ ?_ ?_<;>(try dsimp only)<;>omega) )),rfl,(by(dsimp only);omega)⟩)
      | skip
attribute [local semireducible] DP in
theorem yfv {g:FuncId}{args:List AV}{p:List Int→Int→Prop}(h:DPR g args (fun ae=>∃l e,ae = .ret (.tup [bif l.isEmpty then .nils else .rsl 1 (l.map ic),i64 e])∧p l e)):DPR g args (fun ae=>∃l e,ae = .ret (.tup [zaq l,i64 e])∧p l e):=by
 obtain⟨_,h,l,e,rfl,hp⟩:=h;cases l with
 | nil =>
   refine⟨.ret (.tup [.rsl 1 [],i64 e]),⟨h.1,fun c w vs h1 h2 h3=>(h.2 c w vs h1 h2 h3).mono ?_⟩,[],e,rfl,hp⟩
   rintro e1 w' ⟨c',_,g1,g2,g3,g4,rfl⟩
   refine⟨c',_,g1,g2,g3,?_,rfl⟩;cases e1 with
   | returned v =>
     have g4:Rel c' w' (.tup [.nils,i64 e]) v:=g4;cases g4 with
     | @tup _ _ _ vs hl hr =>
       match vs,hl with
       | [v1, v2], _ =>
         have h1:=hr 0 _ _ rfl rfl;have h2:=hr 1 _ _ rfl rfl;cases h1;have:=RelL.cons (Rel.rnil (c:=c') (w:=w') 1) (RelL.cons h2 RelL.nil);exact(Rel.tup this.1 this.2:Rel c' w' (.tup [.rsl 1 [],i64 e]) _)
   | _=>exact g4.elim
 | cons x l=>exact⟨_,h,x::l,e,rfl,hp⟩
theorem ybb (c:Cd)(p:Int)(hs:zbh c.b.l≤100000):DPR 72 [c.av,i64 p] (fun ae=>∃l e,ae = .ret (.tup [zaq l,i64 e])∧EntP c p l e):=yfv (yba c p hs)
theorem EntP.len {c:Cd}{p:Int}{l:List Int}{e:Int}(h:EntP c p l e)(hs:zbh c.b.l≤100000):l.length≤100000:=by
 rcases h with⟨_,_,rfl⟩|⟨_,_,_,rfl⟩|⟨_,_,_,h,_⟩
 · simp
 · simp
 · omega
theorem ya0 (c:Cd)(p:Int)(hs:zbh c.b.l≤100000)(hp:0≤p∧p<c.b.l.length):DPR 33 [c.av,i64 p] (fun ae=>∃g:Gr,ae = .ret g.av∧g.ins=(c.b.l[p.toNat]'(by omega)).ins∧g.regs=(c.b.l[p.toNat]'(by omega)).regs∧∃e,EntP c p g.entries.l e):=by
 refine zaf eRg zae Tryz.func33 rfl (by decide) rfl rfl ?_
 have hl:=c.b.h
 conv=>whnf
 repeat' ((first|refine Rq.mk (b:=chk3 _ _ _ _ _ _) (by kernel_rfl) ?_|refine Rq.mk (by(first|rfl|((try simp only[rz]);omega))) ?_|refine Ok3.mk _ (za2 (by omega)) ?_|(refine zaa rfl (ybb c p hs) ?_;rintro _ ⟨l,e,rfl,he⟩)|refine And.intro (a:=zaw _=true) (by kernel_rfl) (LzK.e ?_))<;>conv=>whnf)
 all_goals exact⟨⟨(c.b.l[p.toNat]'(by omega)).ins,_,⟨l,by have:=he.len hs;omega⟩⟩,rfl,rfl,rfl,e,he⟩
end Go.Ago
end
