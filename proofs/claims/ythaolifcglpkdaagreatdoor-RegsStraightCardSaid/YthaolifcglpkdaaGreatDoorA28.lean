/-
  Part 28: lemmas, each with its own conditions.
-/
import Derived.Test.YthaolifcglpkdaaGreatDoorA27
set_option maxRecDepth 100000
set_option maxHeartbeats 0
set_option linter.all false
namespace Go.Ago
open Go.Proofs
attribute [local irreducible] ltI leI eqI eqS shrI wr inB mmI comp DC DP DW DV
theorem isTy {k p q:Int}{v:Bool}{s:List UInt8}(h:s.length<281474976710656):∃t:Ty,AE.ret (.agg [.int .i64 k,.int .i64 p,.int .i64 q,.bool v,.str s])=AE.ret t.av:=⟨⟨k,p,q,v,s,h⟩,rfl⟩
theorem yob {k p q e:Int}{v:Bool}{s:List UInt8}(h:s.length<281474976710656):∃(t:Ty) (e':Int),AE.ret (.tup [.agg [.int .i64 k,.int .i64 p,.int .i64 q,.bool v,.str s],.int .i64 e])=AE.ret (.tup [t.av,i64 e']):=⟨⟨k,p,q,v,s,h⟩,e,rfl⟩
theorem zrh (op:Int)(a b:Ty):DPR 249 [i64 op,a.av,b.av] (fun ae=>∃t:Ty,ae = .ret t.av):=by
 refine zaf eRg zae Tryz.func249 rfl (by decide) rfl rfl ?_
 have hp1:=a.hp;have hp2:=b.hp
 conv=>whnf
 repeat' ((first|refine Br.split (fun h=>?_) (fun h=>?_)<;>(try simp only[bz] at h)|(refine zaa rfl (ygk _) ?_;rintro _ ⟨n1,rfl,hn1⟩)|refine And.intro (a:=zaw _=true) (by kernel_rfl) (LzK.e ?_))<;>conv=>whnf)
 all_goals exact isTy (by decide )
theorem yc4 (op:Int)(a b:Ty):DPR 195 [i64 op,a.av,b.av] (fun ae=>∃(t:Ty) (e:Int),ae = .ret (.tup [t.av,i64 e])):=by
 refine zaf eRg zae Tryz.func195 rfl (by decide) rfl rfl ?_
 have hp1:=a.hp;have hp2:=b.hp
 conv=>whnf
 repeat' ((first|refine Rq.mk (b:=chk3 _ _ _ _ _ _) (by kernel_rfl) ?_|refine Br.split (fun h=>?_) (fun h=>?_)<;>(try simp only[bz] at h)|refine zag (fun h=>?_) (fun h=>?_)<;>(try simp only[bz] at h)|(refine zaa rfl (zxc _) ?_;rintro _ ⟨o1,o2,rfl⟩)|(refine zar rfl (zlj a) ?_;rintro _ ⟨n1,rfl,hn1⟩<;>refine⟨_,rfl,?_⟩)|(refine zar rfl (zlj b) ?_;rintro _ ⟨n2,rfl,hn2⟩<;>refine⟨_,rfl,?_⟩)|(refine DV.flat rfl (ygc a ⟨[b],by(show 1<_;decide)⟩) ?_;rintro _ ⟨n3,rfl,hn3⟩<;>refine⟨_,rfl,rfl,?_⟩)|(refine DV.flat rfl (ygc a ⟨[a],by(show 1<_;decide)⟩) ?_;rintro _ ⟨n3,rfl,hn3⟩<;>refine⟨_,rfl,rfl,?_⟩)|(refine DV.flat rfl (yjj ⟨[_,_,_],by(show 3<_;decide)⟩) ?_;rintro _ ⟨n4,rfl,hn4⟩<;>refine⟨_,rfl,rfl,?_⟩)|(refine zaa rfl (zrh _ a b) ?_;rintro _ ⟨t,rfl⟩)|(refine zaa rfl (zrh _ a a) ?_;rintro _ ⟨t,rfl⟩)|refine And.intro (a:=zaw _=true) (by kernel_rfl) (LzK.e ?_))<;>conv=>whnf)
 all_goals first|exact⟨t,_,rfl⟩|exact yob (by decide )
theorem yn4 (l:BL Ty)(s:List UInt8):DPR 250 [zjn l.l,.str s] (fun ae=>(ae = .ret (.bool true)∧l.l.length=s.length)∨ae = .ret (.bool false)):=by
 refine(yn5 l s).mono ?_
 rintro _ ⟨b,rfl,hb⟩
 cases b with
 | true=>exact .inl ⟨rfl,hb rfl⟩
 | false=>exact .inr rfl
theorem zy7 (op:Int)(l:BL Ty):DPR 196 [i64 op,zjn l.l] (fun ae=>∃(t:Ty) (e:Int),ae = .ret (.tup [t.av,i64 e])):=by
 refine zaf eRg zae Tryz.func196 rfl (by decide) rfl rfl ?_
 have hl:=l.h
 conv=>whnf
 repeat' ((first|refine Rq.mk (b:=chk3 _ _ _ _ _ _) (by kernel_rfl) ?_|refine Rq.mk (by(first|rfl|((try simp only[rz]);omega))) ?_|refine Br.split (fun h=>?_) (fun h=>?_)<;>(try simp only[bz] at h)<;>try (exfalso;omega)|refine Ok3.mk _ (za2 (by omega)) ?_|(refine zaa rfl (yn4 l _) ?_;rintro _ (⟨rfl,hb1⟩|rfl)<;>(try simp only[List.length_cons,List.length_nil,Nat.zero_add,Nat.reduceAdd] at hb1))|refine And.intro (a:=zaw _=true) (by kernel_rfl) (LzK.e ?_))<;>conv=>whnf)
 all_goals first|exact yob (by first|decide|exact(l.l[(0:Int).toNat]'(by omega)).hp)
theorem zrs (op:Int)(h:0≤op∧op≤31):∃a b:Int,zje zix (op.toNat * ti245.size) ti245.size=some [.int .i8 a,.int .i8 b]∧wr .i64 a=a∧wr .i64 b=b ∧
 ((op=2∨op=3∨op=30∨op=31)→b=1)∧(4≤op∧op≤24→1≤a∧a≤3)∧(op=18→a=2)∧(op=30∨op=31→a=1):=by
 obtain⟨k,rfl⟩:=Int.eq_ofNat_of_zero_le h.1;have hk:k<32:=by omega
 match k,hk with
 | 0,_=>exact⟨0,0,rfl,wr64 (by decide) (by decide),wr64 (by decide) (by decide),by omega,by omega,by omega,by omega⟩
 | 1,_=>exact⟨0,0,rfl,wr64 (by decide) (by decide),wr64 (by decide) (by decide),by omega,by omega,by omega,by omega⟩
 | 2,_=>exact⟨0,1,rfl,wr64 (by decide) (by decide),wr64 (by decide) (by decide),by omega,by omega,by omega,by omega⟩
 | 3,_=>exact⟨0,1,rfl,wr64 (by decide) (by decide),wr64 (by decide) (by decide),by omega,by omega,by omega,by omega⟩
 | 4,_=>exact⟨1,0,rfl,wr64 (by decide) (by decide),wr64 (by decide) (by decide),by omega,by omega,by omega,by omega⟩
 | 5,_=>exact⟨1,0,rfl,wr64 (by decide) (by decide),wr64 (by decide) (by decide),by omega,by omega,by omega,by omega⟩
 | 6,_=>exact⟨2,0,rfl,wr64 (by decide) (by decide),wr64 (by decide) (by decide),by omega,by omega,by omega,by omega⟩
 | 7,_=>exact⟨2,0,rfl,wr64 (by decide) (by decide),wr64 (by decide) (by decide),by omega,by omega,by omega,by omega⟩
 | 8,_=>exact⟨2,0,rfl,wr64 (by decide) (by decide),wr64 (by decide) (by decide),by omega,by omega,by omega,by omega⟩
 | 9,_=>exact⟨2,0,rfl,wr64 (by decide) (by decide),wr64 (by decide) (by decide),by omega,by omega,by omega,by omega⟩
 | 10,_=>exact⟨2,0,rfl,wr64 (by decide) (by decide),wr64 (by decide) (by decide),by omega,by omega,by omega,by omega⟩
 | 11,_=>exact⟨1,0,rfl,wr64 (by decide) (by decide),wr64 (by decide) (by decide),by omega,by omega,by omega,by omega⟩
 | 12,_=>exact⟨2,0,rfl,wr64 (by decide) (by decide),wr64 (by decide) (by decide),by omega,by omega,by omega,by omega⟩
 | 13,_=>exact⟨2,0,rfl,wr64 (by decide) (by decide),wr64 (by decide) (by decide),by omega,by omega,by omega,by omega⟩
 | 14,_=>exact⟨2,0,rfl,wr64 (by decide) (by decide),wr64 (by decide) (by decide),by omega,by omega,by omega,by omega⟩
 | 15,_=>exact⟨2,0,rfl,wr64 (by decide) (by decide),wr64 (by decide) (by decide),by omega,by omega,by omega,by omega⟩
 | 16,_=>exact⟨2,0,rfl,wr64 (by decide) (by decide),wr64 (by decide) (by decide),by omega,by omega,by omega,by omega⟩
 | 17,_=>exact⟨1,0,rfl,wr64 (by decide) (by decide),wr64 (by decide) (by decide),by omega,by omega,by omega,by omega⟩
 | 18,_=>exact⟨2,0,rfl,wr64 (by decide) (by decide),wr64 (by decide) (by decide),by omega,by omega,by omega,by omega⟩
 | 19,_=>exact⟨3,0,rfl,wr64 (by decide) (by decide),wr64 (by decide) (by decide),by omega,by omega,by omega,by omega⟩
 | 20,_=>exact⟨2,0,rfl,wr64 (by decide) (by decide),wr64 (by decide) (by decide),by omega,by omega,by omega,by omega⟩
 | 21,_=>exact⟨1,0,rfl,wr64 (by decide) (by decide),wr64 (by decide) (by decide),by omega,by omega,by omega,by omega⟩
 | 22,_=>exact⟨2,0,rfl,wr64 (by decide) (by decide),wr64 (by decide) (by decide),by omega,by omega,by omega,by omega⟩
 | 23,_=>exact⟨3,0,rfl,wr64 (by decide) (by decide),wr64 (by decide) (by decide),by omega,by omega,by omega,by omega⟩
 | 24,_=>exact⟨2,0,rfl,wr64 (by decide) (by decide),wr64 (by decide) (by decide),by omega,by omega,by omega,by omega⟩
 | 25,_=>exact⟨-1,0,rfl,wr64 (by decide) (by decide),wr64 (by decide) (by decide),by omega,by omega,by omega,by omega⟩
 | 26,_=>exact⟨0,0,rfl,wr64 (by decide) (by decide),wr64 (by decide) (by decide),by omega,by omega,by omega,by omega⟩
 | 27,_=>exact⟨0,0,rfl,wr64 (by decide) (by decide),wr64 (by decide) (by decide),by omega,by omega,by omega,by omega⟩
 | 28,_=>exact⟨0,0,rfl,wr64 (by decide) (by decide),wr64 (by decide) (by decide),by omega,by omega,by omega,by omega⟩
 | 29,_=>exact⟨0,0,rfl,wr64 (by decide) (by decide),wr64 (by decide) (by decide),by omega,by omega,by omega,by omega⟩
 | 30,_=>exact⟨1,1,rfl,wr64 (by decide) (by decide),wr64 (by decide) (by decide),by omega,by omega,by omega,by omega⟩
 | 31,_=>exact⟨1,1,rfl,wr64 (by decide) (by decide),wr64 (by decide) (by decide),by omega,by omega,by omega,by omega⟩
theorem yp7 {k p q:Int}{v b:Bool}{s:List UInt8}(h:s.length<281474976710656):∃(t:Ty) (b':Bool),AE.ret (.tup [.agg [.int .i64 k,.int .i64 p,.int .i64 q,.bool v,.str s],.bool b])=AE.ret (.tup [t.av,.bool b']):=⟨⟨k,p,q,v,s,h⟩,b,rfl⟩
theorem zrx (op n:Int)(l:BL Ty):DPR 145 [i64 op,i64 n,zjn l.l] (fun ae=>∃(t:Ty) (b:Bool),ae = .ret (.tup [t.av,.bool b])):=by
 refine zaf eRg zae Tryz.func145 rfl (by decide) rfl rfl ?_
 have hl:=l.h;have hw1:wr .i64 ((l.l.length:Int) - 1)=(l.l.length:Int) - 1:=wr64 (by omega) (by omega)
 have hw2:wr .i64 (((l.l.map Ty.cells).length:Int) - 1)=(l.l.length:Int) - 1:=by rw[List.length_map];exact hw1
 conv=>whnf
 repeat' ((first|refine Rq.mk (b:=chk3 _ _ _ _ _ _) (by kernel_rfl) ?_|refine Rq.mk (by(first|rfl|((try simp only[rz]);omega))) ?_|refine Br.split (fun h=>?_) (fun h=>?_)<;>(try simp only[bz] at h)|refine zag (fun h=>?_) (fun h=>?_)<;>(try simp only[bz] at h)|refine Ok3.mk _ (za2 (by omega)) ?_|(refine zaa rfl (zg5 _ _ _) ?_;rintro _ (⟨rfl,hb1⟩|⟨rfl,hb1⟩))|(refine zaa rfl (yfe _) ?_;rintro _ ⟨b2,rfl,hb2⟩)|(refine zaa rfl (zjf _) ?_;rintro _ ⟨b3,rfl,hb3⟩)|(refine zaa rfl (zok) ?_;rintro _ rfl)|(refine zar rfl (yc4 _ (l.l[(0:Int).toNat]'(by omega)) (l.l[(wr .i64 (((l.l.map Ty.cells).length:Int) - 1)).toNat]'(by omega))) ?_;rintro _ ⟨t,e,rfl⟩<;>refine⟨_,rfl,?_⟩)|(refine zaa rfl (zy7 _ l) ?_;rintro _ ⟨t,e,rfl⟩)|refine And.intro (a:=zaw _=true) (by kernel_rfl) (LzK.e ?_)|(obtain⟨a,b,he,ha,hb,hf1,hf2,hf3,hf4⟩:=zrs op (by omega);refine Ok3.mk _ he ?_;clear he)|refine Ok3.mk _ rfl ?_)<;>conv=>whnf)
 all_goals first|exact⟨t,_,rfl⟩|exact yp7 (s:=[]) (by decide)
end Go.Ago
namespace Go.Ago
open Go.Proofs
def fieldsL:List (List UInt8):=[[],[78],[68,84,86],[68,65],[68,78,77,80],[65],[68,65,78],[68,65,66,78,77,80],[68,65,84],[65,66,84],[68,65,66,78,84,85,87],[68,65,84,85,83],[68,78,76,89,84,82],[68,65,66,78,85,87],[78],[65,78],[80,78],[68,78,76],[65],[78,80,77],[78,80],[78,80],[68,78,65,77],[65,66,77],[78],[78],[68,78],[80,78,70,76,89],[68,80,78,70,84,77],[68,80,65,85,84,77],[78,80,65,85,66,87],[65,66,78,77],[68,65,66,78],[68,65,66,78],[68],[68],[68],[],[68,65]]
def zmn:List AV:=fieldsL.map .str
def hasB (op:Int)(c:UInt8):Bool:=decide (0≤op) && decide (op<39) && conB (fieldsL.getD op.toNat []) c
theorem yi6 {op:Int}{c:UInt8}(h0:0≤op)(h1:op<39):hasB op c=conB (fieldsL.getD op.toNat []) c:=by
 unfold hasB;rw[decide_eq_true h0,decide_eq_true h1];rfl
theorem yat {op:Int}{c:UInt8}(h1:39≤op):hasB op c=false:=by
 unfold hasB;rw[decide_eq_false (by omega:¬op<39),Bool.and_false];rfl
theorem yas {op:Int}{c:UInt8}(h1:op<0):hasB op c=false:=by
 unfold hasB;rw[decide_eq_false (by omega:¬0≤op)];rfl
theorem yb1 {cs:List AV}{n:Nat}(h:n<cs.length):zje cs (n * 1) 1=some [cs[n]]:=by
 unfold zje;rw[Nat.mul_one,Nat.ble_eq_true_of_le (by omega)]
 have:(cs.drop n).take 1=[cs[n]]:=by
  rw[List.drop_eq_getElem_cons h];rfl
 rw[this]
theorem zrt (op:Int)(h0:0≤op)(h1:op<39):zje zmn (op.toNat * ti9.size) ti9.size=some [.str (fieldsL.getD op.toNat [])]:=by
 have hl:op.toNat<fieldsL.length:=by show op.toNat<39;omega
 have:=yb1 (cs:=zmn) (n:=op.toNat) (by simpa[zmn] using hl)
 rw[show ti9.size=1 from rfl,this]
 simp[zmn,List.getD,hl]
structure Kc where
 c:Cd
 proc:Int
 hproc:0≤proc∧proc<c.b.l.length
 hlen:c.b.l.length=c.p.procs.l.length
 hp:zd1 c.p.procs.l
abbrev Kc.cells (k:Kc):List AV:=[ziu k.c.p.procs.l,i64 k.c.p.static,zi3 k.c.p.image.l,ztg k.c.p.files.l,.rsl 1 (k.c.p.conds.l.map fun s=>[.str s.l]),zaq k.c.p.ctl.l,yfj k.c.b.l,i64 k.proc]
abbrev Kc.av (k:Kc):AV := .agg k.cells
def zc8 (k:Kc):Int:=(k.c.b.l[k.proc.toNat]'(by have:=k.hproc;omega)).regs
def InR (k:Kc)(r:Int):Prop:=0≤r∧r≤zc8 k - 1
end Go.Ago
namespace Go.Ago
open Go.Proofs
attribute [local irreducible] ltI leI eqI eqS shrI wr inB mmI comp DC DP DW DV
theorem yev:DPR 137 [] (fun ae=>ae = .ret (.agg zmn)):=by
 refine zaf eRg zae Tryz.func137 rfl (by decide) rfl rfl ?_
 conv=>whnf
 all_goals rfl
theorem yi5 (op:Int)(c:UInt8):DPR 98 [i64 op,.str [c]] (fun ae=>ae = .ret (.bool (hasB op c))):=by
 refine zaf eRg zae Tryz.func98 rfl (by decide) rfl rfl ?_
 conv=>whnf
 repeat' ((first|refine Rq.mk (by(first|rfl|((try simp only[rz]);omega))) ?_|refine Br.split (fun h=>?_) (fun h=>?_)<;>(try simp only[bz] at h)|refine zag (fun h=>?_) (fun h=>?_)<;>(try simp only[bz] at h)|(refine zaa rfl (yev) ?_;rintro _ rfl)|(refine zaa rfl (zd0 _ c) ?_;rintro _ rfl)|refine Ok3.mk _ (zrt op (by omega) (by omega)) ?_)<;>conv=>whnf)
 all_goals first|(show _=_;rw[yi6 (by omega) (by omega)];simp only[*])|(show _=_;rw[yat (by omega)])|(show _=_;rw[yas (by omega)])
theorem in_e (x lo hi:Int):DPR 100 [i64 x,i64 lo,i64 hi] (retD (lo≤x∧x≤hi)):=DP.dec (in_d x lo hi)
theorem zhg (k:Kc)(hr:0≤zc8 k∧zc8 k≤4000)(r:Int):DPR 99 [k.av,i64 r] (retB fun b=>b=true↔InR k r):=by
 refine zaf eRg zae Tryz.func99 rfl (by decide) rfl rfl ?_
 have hl:=k.c.p.procs.h;have hl2:=k.c.b.h;have hl3:=k.c.p.files.h;have hl4:=k.c.p.ctl.h;have hl5:=k.c.p.conds.h;have hpr:=k.hproc;have hle:=k.hlen;unfold zc8 at hr
 conv=>whnf
 repeat' ((first|refine Rq.mk (by(first|rfl|((try simp only[rz]);omega))) ?_|refine zag (fun h=>?_) (fun h=>?_)<;>(try simp only[bz] at h)|refine Ok3.mk _ (za2 (by omega)) ?_|(refine zaa rfl (in_d _ _ _) ?_;rintro _ ⟨b1,rfl,hb1⟩))<;>conv=>whnf)
 all_goals (rw[wr64 (by omega) (by omega)] at hb1;exact⟨_,rfl,by simp_all[InR,zc8]⟩)
theorem zjt (k:Kc)(hr:0≤zc8 k∧zc8 k≤4000)(r:Int):DPR 99 [k.av,i64 r] (retD (InR k r)):=DP.dec (zhg k hr r)
theorem ypb (k:Kc)(hr:0≤zc8 k∧zc8 k≤4000)(r m:Int):DPR 146 [k.av,i64 r,i64 m] (retB fun b=>b=true→r = -1∨InR k r):=by
 refine zaf eRg zae Tryz.func146 rfl (by decide) rfl rfl ?_
 conv=>whnf
 repeat' ((first|refine Br.split (fun h=>?_) (fun h=>?_)<;>(try simp only[bz] at h)|refine zag (fun h=>?_) (fun h=>?_)<;>(try simp only[bz] at h)|(refine zaa rfl (zjt k hr _) ?_;rintro _ (⟨rfl,hb1⟩|⟨rfl,hb1⟩))|(refine zaa rfl (in_d _ _ _) ?_;rintro _ ⟨b2,rfl,hb2⟩))<;>conv=>whnf)
 all_goals exact⟨_,rfl,by first|(intro _;exact .inl (by omega))|(intro _;exact .inr hb1)|(intro h;cases h)⟩
theorem yih (k:Kc)(p n:Int)(hp:0≤p∧p<k.c.b.l.length):DPR 151 [k.av,i64 p,i64 n] (retB fun b=>b=true↔0≤n∧n≤((k.c.b.l[p.toNat]'(by omega)).ins.l.length:Int)):=by
 refine zaf eRg zae Tryz.func151 rfl (by decide) rfl rfl ?_
 have hl:=k.c.p.procs.h;have hl2:=k.c.b.h;have hl3:=k.c.p.files.h;have hl4:=k.c.p.ctl.h;have hl5:=k.c.p.conds.h;have hpr:=k.hproc;have hle:=k.hlen
 conv=>whnf
 repeat' ((first|refine Rq.mk (by(first|rfl|((try simp only[rz]);omega))) ?_|refine zag (fun h=>?_) (fun h=>?_)<;>(try simp only[bz] at h)|refine Ok3.mk _ (za2 (by omega)) ?_|(refine zaa rfl (in_d _ _ _) ?_;rintro _ ⟨b1,rfl,hb1⟩))<;>conv=>whnf)
 all_goals exact⟨_,rfl,by simp only[List.length_map] at hb1;simp_all⟩
theorem zzx (k:Kc)(n:Int):DPR 144 [k.av,i64 n] (fun ae=>∃(p:Int) (b:Bool),ae = .ret (.tup [i64 p,.bool b])∧0≤p∧p<k.c.b.l.length):=by
 refine zaf eRg zae Tryz.func144 rfl (by decide) rfl rfl ?_
 have hl:=k.c.p.procs.h;have hl2:=k.c.b.h;have hl3:=k.c.p.files.h;have hl4:=k.c.p.ctl.h;have hl5:=k.c.p.conds.h;have hpr:=k.hproc;have hle:=k.hlen
 conv=>whnf
 refine zai eRg zae [2,4,5] [] 0 (fun i:{i:Int×Int // 0≤i.1∧i.1<k.c.b.l.length}=>[(6,i64 i.1.1),(1,i64 i.1.2)]) (fun _=>[]) [] (fun i=>i.1.1.toNat) (⟨(k.proc,n),hpr⟩) ?_
 conv=>whnf
 refine⟨?_,fun i=>?_⟩
 · conv => whnf
   (repeat' first|exact True.intro|rfl|apply And.intro )
 conv=>whnf
 repeat' ((first|refine Rq.mk (by(first|rfl|((try simp only[rz]);omega))) ?_|refine Br.split (fun h=>?_) (fun h=>?_)<;>(try simp only[bz] at h)<;>try (exfalso;omega)|refine Ok3.mk _ (za2 (by omega)) ?_)<;>conv=>whnf)
 all_goals first|exact⟨_,_,rfl,i.2.1,i.2.2⟩|(have hq:=k.hp i.1.1.toNat (by have:=i.2;omega) (by have:=i.2;omega);have hq2:=hq.2.1 (by omega);(refine⟨⟨((k.c.p.procs.l[i.1.1.toNat]'(by have:=i.2;omega)).parent,wr .i64 (i.1.2 - 1)),by dsimp only;omega⟩,(by(conv=>whnf);(repeat' first|exact True.intro|rfl|apply And.intro )),rfl,(by(try simp only[List.length_map] at *)<;>omega)⟩))
end Go.Ago
namespace Go.Ago
open Go.Proofs
attribute [local irreducible] ltI leI eqI eqS shrI wr inB mmI comp DC DP DW DV DY
theorem yi0 (b u n o:Int)(p s:BL (List AV))(t:Ty):DPR 328 [.agg [i64 b,i64 u,i64 n,i64 o,.rsl 11 p.l,.rsl 14 s.l,i64 t.kind,i64 t.p,i64 t.q,.bool t.vary,.str t.pic]] (fun ae=>ae = .ret (.fn (.func 344) [] [.rptr [i64 b,i64 u,i64 n,i64 o,.rsl 11 p.l,.rsl 14 s.l,i64 t.kind,i64 t.p,i64 t.q,.bool t.vary,.str t.pic]])):=by
 refine zaf eRg zae Tryz.func328 rfl (by decide) rfl rfl ?_
 conv=>whnf
 all_goals first|rfl
theorem yij (r l:BL (List AV)):DPR 299 [.rsl 11 r.l,.rsl 11 l.l] (fun ae=>ae = .ret (.fn (.func 327) [] [.rptr [.rsl 11 r.l],.rptr [.rsl 11 l.l]])):=by
 refine zaf eRg zae Tryz.func299 rfl (by decide) rfl rfl ?_
 conv=>whnf
 all_goals first|rfl
theorem zxz (op:Int)(t:Ty)(v:Vl)(m:Int)(l r:BL (List AV)):DPR 260 [.agg [i64 op,i64 t.kind,i64 t.p,i64 t.q,.bool t.vary,.str t.pic,i64 v.n,.str v.s,i64 m,.rsl 11 l.l,.rsl 11 r.l]] (fun ae=>ae = .ret (.fn (.func 327) [] [.rptr [.rsl 11 r.l],.rptr [.rsl 11 l.l]])):=by
 refine zaf eRg zae Tryz.func260 rfl (by decide) rfl rfl ?_
 conv=>whnf
 repeat' first
  | (refine zaa rfl (yij r l) ?_;rintro _ rfl<;>conv=>whnf)
 all_goals first|rfl
theorem zs2 (i:Ins):DPR 119 [i.av] (fun ae=>ae = .ret (.fn (.func 173) [] [.rptr i.cells])):=by
 refine zaf eRg zae Tryz.func119 rfl (by decide) rfl rfl ?_
 conv=>whnf
 all_goals rfl
theorem zp7 {l:List Int}{j:Nat}(h:j<l.length):l.take (j+1)=l.take j++[l[j]]:=by simp
def zbn (i:Ins):List Int:=(if hasB i.op 65=true∧i.a≠-1 then [i.a] else [])++(if hasB i.op 66=true∧i.b≠-1 then [i.b] else [])++(if hasB i.op 76=true then i.l.l else [])
theorem yar:∀op:Int,hasB op 76=true→hasB op 65=false∧hasB op 66=false:=by
 intro op h
 by_cases h0:op<0
 · rw[yas h0] at h;cases h
 by_cases h1:39≤op
 · rw[yat h1] at h;cases h
 obtain⟨k,rfl⟩:=Int.eq_ofNat_of_zero_le (by omega:0≤op)
 have hk:k<39:=by omega
 have:∀k:Fin 39,hasB (k.1:Int) 76=true→hasB (k.1:Int) 65=false∧hasB (k.1:Int) 66=false:=by decide
 exact this ⟨k,hk⟩ h
theorem yle (i:Ins)(hi:i.l.l.length≤40):DPR 83 [i.av] (fun ae=>ae = .ret (bif (zbn i).isEmpty then .nils else zaq (zbn i))):=by
 have hL:=yar i.op;refine zaf eRg zae Tryz.func83 rfl (by decide) rfl rfl ?_
 cases hA:hasB i.op 65<;>cases hB:hasB i.op 66<;>cases hl:hasB i.op 76
 all_goals first|(exfalso;have:=hL hl;simp_all;done)|skip
 all_goals
  conv=>whnf
  repeat' ((first|refine ybj hA ?_|refine ybk hA ?_|refine ybj hB ?_|refine ybk hB ?_|refine ybj hl ?_|refine ybk hl ?_|refine Br.f (b:=Nat.beq _ _) rfl ?_|refine Rq.mk (by(rfl )) ?_|refine Br.split (fun h=>?_) (fun h=>?_)<;>(try simp only[bz] at h)|(refine zaa rfl (zs2 i) ?_;rintro _ rfl)|(refine zaa rfl (yi5 _ _) ?_;rintro _ rfl)|refine zj6 eRg zae ?_|refine DW.range [3] ?_|refine zay eRg zae Tryz.func173 rfl (by decide) rfl rfl ?_)<;>conv=>whnf)
 all_goals first|(rw[show zbn i=[] by simp[zbn, *]];rfl)|(rw[show zbn i=[i.a] by simp[zbn, *]];rfl)|(rw[show zbn i=[i.b] by simp[zbn, *]];rfl)|(rw[show zbn i=[i.a,i.b] by simp[zbn, *]];rfl)|skip
 have hu:zbn i=i.l.l:=by simp[zbn,hA,hB,hl]
 refine zai eRg zae [0,39,40] [2] 2000 (fun q:{q:Nat×List Int // q.2=i.l.l.take q.1∧q.1≤i.l.l.length}=>[(41,i64 q.1.1)]) (fun q=>(2,.arr 1 [[accV 1000 1 (q.1.2.map fun a=>[i64 a])]])::accH 1000 1 (q.1.2.map fun a=>[i64 a])) [(1000,.cell 2 0)] (fun q=>i.l.l.length+1 - q.1.1) (⟨(0,[]),rfl,Nat.zero_le _⟩) ?_
 conv=>whnf
 refine⟨?_,fun q=>?_⟩
 · conv => whnf
   (repeat' first|exact True.intro|apply And.intro|rfl )
 obtain⟨⟨j,acc⟩,hq,hj⟩:=q;dsimp only at hq hj;rcases acc with _|⟨y,acc⟩
 · skip
   conv=>whnf
   repeat' ((first|refine Br.f (b:=Nat.beq _ _) rfl ?_|refine Rq.mk (by(first|rfl|((try simp only[rz]);omega))) ?_|refine Br.split (fun h=>?_) (fun h=>?_)<;>(try simp only[bz] at h)|refine zj6 eRg zae ?_|refine Ok3.mk _ (za2 (n:=j) (by omega)) ?_)<;>conv=>whnf)
   · refine ⟨⟨(j + 1, [i.l.l[j]'(by omega)]), (by rw [zp7 (by omega), ← hq]; rfl), (by dsimp only; omega)⟩, ?_, rfl, ?_⟩
     · conv => whnf
       (repeat' first|exact True.intro|exact congrArg (fun x=>AObj.arr 1 [[x]]) (zat (by rfl) (by rfl) (by simp) (by rfl))|apply And.intro|exact zaj (f:=fun a:Int=>[i64 a]) (fun _=>by rfl)|(refine cw ?_ ?_ ?_<;>(try dsimp only)<;>omega)|rfl )
     · dsimp only;omega
   · have h8 : i.l.l.take j = i.l.l := List.take_of_length_le (by omega)
     rw[show zbn i=[] by rw[hu,← h8,← hq]];rfl
 · skip
   conv=>whnf
   repeat' ((first|refine Br.f (b:=Nat.beq _ _) rfl ?_|refine Rq.mk (zcg 8 64 (by simp) rfl rfl (by have h9:=congrArg List.length hq;simp only[List.length_cons,List.length_map,List.length_take] at *;omega) (by decide)) ?_|refine Rq.mk (by(first|rfl|((try simp only[rz]);omega))) ?_|refine Br.split (fun h=>?_) (fun h=>?_)<;>(try simp only[bz] at h)|refine zj6 eRg zae ?_|refine Ok3.mk _ (za2 (n:=j) (by omega)) ?_)<;>conv=>whnf)
   · refine ⟨⟨(j + 1, y :: (acc ++ [i.l.l[j]'(by omega)])), (by rw [zp7 (by omega), ← hq]; rfl), (by dsimp only; omega)⟩, ?_, rfl, ?_⟩
     · conv => whnf
       (repeat' first|exact True.intro|exact congrArg (fun x=>AObj.arr 1 [[x]]) (zat (by rfl) (by rfl) (by simp) (by rfl))|apply And.intro|exact za4 (by rfl) (za7 (f:=fun a:Int=>[i64 a]) (fun _=>by rfl) (by rfl) (by simp))|exact zaj (f:=fun a:Int=>[i64 a]) (fun _=>by rfl)|(refine cw ?_ ?_ ?_<;>(try dsimp only)<;>omega)|rfl )
     · dsimp only;omega
   · have h8 : i.l.l.take j = i.l.l := List.take_of_length_le (by omega)
     generalize hg:snap _ 20 _=rr
     obtain rfl:=Eq.trans hg.symm (zin (f:=fun a:Int=>[i64 a]) (fun _=>by rfl) (by rfl))
     conv=>whnf
     rw[show zbn i=y::acc by rw[hu,← h8,← hq]];rfl
theorem yfz (i:Ins)(hi:i.l.l.length≤40):DPR 83 [i.av] (fun ae=>ae = .ret (zaq (zbn i))):=by
 refine(znb (f:=fun n:Int=>[i64 n]) (sz:=1) (p:=fun ts=>ts=zbn i) ((yle i hi).mono ?_)).mono ?_
 · rintro _ h;exact⟨zbn i,h,rfl⟩
 · rintro _ ⟨ts,rfl,rfl⟩;rfl
end Go.Ago
namespace Go.Ago
open Go.Proofs
def yhh:List AV→Option AV
 | [.agg cs] => match insP cs with
   | some i => match Nat.ble i.l.l.length 40 with
     | true=>some (zaq (zbn i))
     | false=>none
   | none=>none
 | _=>none
theorem yhg {args:List AV}{v:AV}(h:yhh args=some v):DPR 83 args (· = .ret v):=by
 unfold yhh at h;split at h
 · rename_i cs
   cases hi:insP cs with
   | none=>rw[hi] at h;cases h
   | some i =>
     rw[hi] at h;dsimp only at h;cases hl:Nat.ble i.l.l.length 40 with
     | false=>rw[hl] at h;cases h
     | true =>
       rw[hl] at h;cases h;exact zg4 (args2:=[i.av]) ⟨.inl (.inr ⟨_,_,rfl,rfl,yoc hi⟩),trivial⟩ (yfz i (Nat.le_of_ble_eq_true hl))
 · cases h
def knT (T:List KRow)(g:Nat):Option (List AV→Option AV):=
 match Nat.beq g 138 with
 | true=>some ye6
 | false => match Nat.beq g 83 with
   | true=>some yhh
   | false => match tabH T g with
     | true=>some (tabK T g)
     | false=>none
theorem yn7 {T:List KRow}(hT:∀r∈T,DPR r.1 r.2.1 (· = .ret r.2.2)):KnOK (knT T):=by
 intro g U args v h hv;unfold knT at h;split at h
 · rename_i e;cases h;rw[Nat.eq_of_beq_eq_true e];exact ybi hv
 · split at h
   · rename_i e;cases h;rw[Nat.eq_of_beq_eq_true e];exact yhg hv
   · split at h
     · cases h;exact zyn hT hv
     · cases h
theorem zi2 {T:List KRow}(hT:∀r∈T,DPR r.1 r.2.1 (· = .ret r.2.2)){n:Nat}{g:FuncId}{args:List AV}{v:AV}(h:(evR (knT T) n).P g args (fun ae=>ae = .ret v)=(AE.ret v=AE.ret v)):DPR g args (· = .ret v):=yoq (yn7 hT) h
def zi6:AV := .agg [.rsl 29 [[i64 1,i64 (-1),i64 (-1),i64 (-1),i64 0,i64 0,i64 0,.bool false,.str [],i64 0,i64 0,i64 0,.bool false,.str [],i64 0,i64 0,i64 0,.bool false,.str [],i64 10,i64 0,i64 0,i64 0,.str [],.nils,.nils,.nils,.bool false,.bool false],[i64 2,i64 0,i64 (-1),i64 (-1),i64 2,i64 15,i64 0,.bool false,.str [],i64 0,i64 0,i64 0,.bool false,.str [],i64 0,i64 0,i64 0,.bool false,.str [],i64 0,i64 0,i64 0,i64 7,.str [],.nils,.nils,.nils,.bool false,.bool false],[i64 4,i64 1,i64 (-1),i64 (-1),i64 0,i64 0,i64 0,.bool false,.str [],i64 0,i64 0,i64 0,.bool false,.str [],i64 0,i64 0,i64 0,.bool false,.str [],i64 1,i64 0,i64 0,i64 0,.str [],.nils,.nils,.nils,.bool false,.bool false],[i64 9,i64 (-1),i64 1,i64 0,i64 2,i64 15,i64 0,.bool false,.str [],i64 0,i64 0,i64 0,.bool false,.str [],i64 0,i64 0,i64 0,.bool false,.str [],i64 0,i64 0,i64 0,i64 0,.str [],.nils,.nils,.nils,.bool false,.bool false],[i64 1,i64 (-1),i64 (-1),i64 (-1),i64 0,i64 0,i64 0,.bool false,.str [],i64 0,i64 0,i64 0,.bool false,.str [],i64 0,i64 0,i64 0,.bool false,.str [],i64 20,i64 0,i64 0,i64 0,.str [],.nils,.nils,.nils,.bool false,.bool false],[i64 8,i64 2,i64 1,i64 (-1),i64 2,i64 15,i64 0,.bool false,.str [],i64 0,i64 0,i64 0,.bool false,.str [],i64 0,i64 0,i64 0,.bool false,.str [],i64 0,i64 0,i64 0,i64 0,.str [],.nils,.nils,.nils,.bool false,.bool false],[i64 27,i64 (-1),i64 (-1),i64 (-1),i64 0,i64 0,i64 0,.bool false,.str [],i64 0,i64 0,i64 0,.bool false,.str [],i64 0,i64 0,i64 0,.bool false,.str [],i64 0,i64 0,i64 0,i64 0,.str [],.nils,.rsl 1 [[i64 2]],.rsl 5 [[i64 2,i64 15,i64 0,.bool false,.str []]],.bool false,.bool false]],i64 3,.nils]
def zi0:AV := .rsl 1 [[.rsl 1 [[.int .u64 0]]],[.rsl 1 [[.int .u64 0]]],[.rsl 1 [[.int .u64 1]]],[.rsl 1 [[.int .u64 3]]],[.rsl 1 [[.int .u64 2]]],[.rsl 1 [[.int .u64 2]]],[.rsl 1 [[.int .u64 4]]],[.rsl 1 [[.int .u64 0]]]]
theorem zcv:DPR 37 [zi6] (· = .ret zi0):=zi2 (T:=[]) (n:=40) (fun _ h=>by cases h) (by kernel_rfl)
def yf4:AV := .tup [zyt,.agg [.rsl 1 [[.rsl 1 [[i64 0],[i64 1],[i64 2],[i64 (-1)],[i64 (-1)],[i64 3],[i64 4],[i64 (-1)],[i64 5],[i64 6]]]]],i64 0]
def alloA:AV := .agg [.rsl 1 [[.rsl 1 [[i64 0],[i64 1],[i64 2],[i64 3],[i64 4],[i64 5],[i64 6]]]]]
theorem yhc:DPR 22 [sampleV,i64 4,i64 0,.rsl 1 [[i64 1]]] (· = .ret (yf4)):=by
 refine zi2 (T:=[(14,[sampleV],i64 0),(14,[zyt],i64 0)]) (n:=40) (fun r hr=>?_) (by kernel_rfl)
 simp only[List.mem_cons,List.not_mem_nil,or_false] at hr;rcases hr with rfl|rfl
 · exact zbx
 · exact ztu
theorem yld:DPR 11 [sampleV,i64 4] (· = .ret (.tup [alloC,alloA,i64 0])):=by
 refine zi2 (T:=[(14,[sampleV],i64 0),(37,[zi6],zi0)]) (n:=40) (fun r hr=>?_) (by kernel_rfl)
 simp only[List.mem_cons,List.not_mem_nil,or_false] at hr;rcases hr with rfl|rfl
 · exact zbx
 · exact zcv
def yow:List KRow:=(14,[sampleV],i64 0)::(14,[alloC],i64 0)::yi3
theorem zrv:∀r∈yow,DPR r.1 r.2.1 (· = .ret r.2.2):=by
 intro r hr;rcases List.mem_cons.1 hr with rfl|hr
 · exact zbx
 · rcases List.mem_cons.1 hr with rfl | hr
   · exact zoi
   · exact yeo r hr
theorem yhd:DPR 60 [.agg (sampleV.cells++alloC.cells++alloA.cells),i64 0] (· = .ret (.bool true)):=zi2 zrv (n:=40) (by kernel_rfl)
theorem ylb:DPR 59 [.agg (sampleV.cells++alloC.cells++alloA.cells)] (· = .ret (.bool true)):=zi2 zrv (n:=40) (by kernel_rfl)
def yg2:List KRow:=[(14,[sampleV],i64 0),(14,[alloC],i64 0),(60,[.agg (sampleV.cells++alloC.cells++alloA.cells),i64 0],.bool true),(59,[.agg (sampleV.cells++alloC.cells++alloA.cells)],.bool true)]
theorem yb5:∀r∈yg2,DPR r.1 r.2.1 (· = .ret r.2.2):=by
 intro r hr;simp only[yg2,List.mem_cons,List.not_mem_nil,or_false] at hr;rcases hr with rfl|rfl|rfl|rfl
 · exact zbx
 · exact zoi
 · exact yhd
 · exact ylb
theorem yhf:DPR 15 [sampleV,i64 4,alloC,alloA] (· = .ret (i64 0)):=zi2 yb5 (n:=40) (by kernel_rfl)
def yn3:AV := .tup [.rsl 1 [[.nils],[.nils],[.rsl 1 [[i64 0]]],[.rsl 1 [[i64 0],[i64 1]]],[.rsl 1 [[i64 1]]],[.rsl 1 [[i64 1]]],[.rsl 1 [[i64 2]]],[.nils]],i64 0]
def ygz:AV := .tup [.rsl 2 [[i64 0,i64 1]],i64 0]
def colA:AV := .tup [.agg [.rsl 7 [[.str [77,65,73,78],i64 (-1),i64 0,i64 16,.nils,.nils,.nils]],i64 0,.nils,.rsl 2 [[.str [83,89,83,80,82,73,78,84],i64 2]],.nils,.nils,.rsl 2 [[i64 2,.rsl 29 [[i64 1,i64 (-1),i64 (-1),i64 (-1),i64 0,i64 0,i64 0,.bool false,.str [],i64 0,i64 0,i64 0,.bool false,.str [],i64 0,i64 0,i64 0,.bool false,.str [],i64 10,i64 0,i64 0,i64 0,.str [],.nils,.nils,.nils,.bool false,.bool false],[i64 2,i64 0,i64 (-1),i64 (-1),i64 2,i64 15,i64 0,.bool false,.str [],i64 0,i64 0,i64 0,.bool false,.str [],i64 0,i64 0,i64 0,.bool false,.str [],i64 0,i64 0,i64 0,i64 7,.str [],.nils,.nils,.nils,.bool false,.bool false],[i64 4,i64 1,i64 (-1),i64 (-1),i64 0,i64 0,i64 0,.bool false,.str [],i64 0,i64 0,i64 0,.bool false,.str [],i64 0,i64 0,i64 0,.bool false,.str [],i64 1,i64 0,i64 0,i64 0,.str [],.nils,.nils,.nils,.bool false,.bool false],[i64 9,i64 (-1),i64 1,i64 0,i64 2,i64 15,i64 0,.bool false,.str [],i64 0,i64 0,i64 0,.bool false,.str [],i64 0,i64 0,i64 0,.bool false,.str [],i64 0,i64 0,i64 0,i64 0,.str [],.nils,.nils,.nils,.bool false,.bool false],[i64 1,i64 (-1),i64 (-1),i64 (-1),i64 0,i64 0,i64 0,.bool false,.str [],i64 0,i64 0,i64 0,.bool false,.str [],i64 0,i64 0,i64 0,.bool false,.str [],i64 20,i64 0,i64 0,i64 0,.str [],.nils,.nils,.nils,.bool false,.bool false],[i64 8,i64 0,i64 1,i64 (-1),i64 2,i64 15,i64 0,.bool false,.str [],i64 0,i64 0,i64 0,.bool false,.str [],i64 0,i64 0,i64 0,.bool false,.str [],i64 0,i64 0,i64 0,i64 0,.str [],.nils,.nils,.nils,.bool false,.bool false],[i64 27,i64 (-1),i64 (-1),i64 (-1),i64 0,i64 0,i64 0,.bool false,.str [],i64 0,i64 0,i64 0,.bool false,.str [],i64 0,i64 0,i64 0,.bool false,.str [],i64 0,i64 0,i64 0,i64 0,.str [],.nils,.rsl 1 [[i64 0]],.rsl 5 [[i64 2,i64 15,i64 0,.bool false,.str []]],.bool false,.bool false]]]]],i64 0]
def colB:AV := .tup [.agg [.nils,i64 0,.nils,.nils,.nils,.nils,.nils],i64 1]
theorem yk9:DPR 10 [sampleV,i64 0] (· = .ret (yn3)):=by
 refine zi2 (T:=[(14,[sampleV],i64 0),(37,[zi6],zi0)]) (n:=40) (fun r hr=>?_) (by kernel_rfl)
 simp only[List.mem_cons,List.not_mem_nil,or_false] at hr;rcases hr with rfl|rfl
 · exact zbx
 · exact zcv
theorem yk8:DPR 9 [sampleV,i64 0] (· = .ret (.tup [i64 2,i64 0])):=by
 refine zi2 (T:=[(14,[sampleV],i64 0),(37,[zi6],zi0)]) (n:=40) (fun r hr=>?_) (by kernel_rfl)
 simp only[List.mem_cons,List.not_mem_nil,or_false] at hr;rcases hr with rfl|rfl
 · exact zbx
 · exact zcv
theorem yhe:DPR 21 [sampleV,i64 0] (· = .ret (ygz)):=by
 refine zi2 (T:=[(14,[sampleV],i64 0),(37,[zi6],zi0)]) (n:=40) (fun r hr=>?_) (by kernel_rfl)
 simp only[List.mem_cons,List.not_mem_nil,or_false] at hr;rcases hr with rfl|rfl
 · exact zbx
 · exact zcv
theorem ypo:DPR 8 [sampleV,i64 0] (· = .ret (.tup [.bool true,i64 0])):=by
 refine zi2 (T:=[(14,[sampleV],i64 0),(37,[zi6],zi0)]) (n:=40) (fun r hr=>?_) (by kernel_rfl)
 simp only[List.mem_cons,List.not_mem_nil,or_false] at hr;rcases hr with rfl|rfl
 · exact zbx
 · exact zcv
theorem yla:DPR 26 [sampleV,i64 4] (· = .ret (i64 210)):=by
 refine zi2 (T:=[(14,[sampleV],i64 0),(37,[zi6],zi0)]) (n:=40) (fun r hr=>?_) (by kernel_rfl)
 simp only[List.mem_cons,List.not_mem_nil,or_false] at hr;rcases hr with rfl|rfl
 · exact zbx
 · exact zcv
theorem ypp:DPR 13 [sampleV,i64 0,.rsl 1 [[i64 0],[i64 1],[i64 0]]] (· = .ret (colA)):=by
 refine zi2 (T:=[(14,[sampleV],i64 0),(37,[zi6],zi0)]) (n:=40) (fun r hr=>?_) (by kernel_rfl)
 simp only[List.mem_cons,List.not_mem_nil,or_false] at hr;rcases hr with rfl|rfl
 · exact zbx
 · exact zcv
theorem ylc:DPR 13 [sampleV,i64 0,.rsl 1 [[i64 1],[i64 1],[i64 0]]] (· = .ret (colB)):=by
 refine zi2 (T:=[(14,[sampleV],i64 0),(37,[zi6],zi0)]) (n:=40) (fun r hr=>?_) (by kernel_rfl)
 simp only[List.mem_cons,List.not_mem_nil,or_false] at hr;rcases hr with rfl|rfl
 · exact zbx
 · exact zcv
def ym8:List KRow:=[(20,[],sampleV),
 (10,[sampleV,i64 0],yn3),
 (9,[sampleV,i64 0],.tup [.int .i64 2,.int .i64 0]),
 (21,[sampleV,i64 0],ygz),
 (8,[sampleV,i64 0],.tup [.bool true,.int .i64 0]),
 (26,[sampleV,i64 4],.int .i64 210),
 (13,[sampleV,i64 0,.rsl 1 [[i64 0],[i64 1],[i64 0]]],colA),
 (13,[sampleV,i64 0,.rsl 1 [[i64 1],[i64 1],[i64 0]]],colB),
 (22,[sampleV,i64 4,i64 0,.rsl 1 [[i64 1]]],yf4),
 (11,[sampleV,i64 4],.tup [alloC,alloA,i64 0]),
 (15,[sampleV,i64 4,alloC,alloA],i64 0)]
theorem yds:∀r∈ym8,DPR r.1 r.2.1 (· = .ret r.2.2):=by
 intro r hr;simp only[ym8,List.mem_cons,List.not_mem_nil,or_false] at hr;rcases hr with rfl|rfl|rfl|rfl|rfl|rfl|rfl|rfl|rfl|rfl|rfl
 · exact zwx
 · exact yk9
 · exact yk8
 · exact yhe
 · exact ypo
 · exact yla
 · exact ypp
 · exact ylc
 · exact yhc
 · exact yld
 · exact yhf
theorem yh4:DPR 6 [] (fun ae=>ae = .ret (.bool true)):=zi2 yds (n:=40) (by kernel_rfl)
end Go.Ago
