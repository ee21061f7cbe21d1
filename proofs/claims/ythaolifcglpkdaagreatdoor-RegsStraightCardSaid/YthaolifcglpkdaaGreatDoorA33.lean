/-
  Part 33: lemmas, each with its own conditions.
-/
import Derived.Test.YthaolifcglpkdaaGreatDoorA32
set_option maxRecDepth 100000
set_option maxHeartbeats 0
set_option linter.all false
namespace Go.Ago
open Go.Proofs
attribute [local irreducible] ltI leI eqI eqS shrI wr inB mmI comp DC DP DW DV
attribute [local irreducible] ckP ct InR PLc zev zeu
def zcf (k:Kc)(i:Ins):Prop:=(∀r∈i.l.l,InR k r)∧(i.op=2→InR k i.d)∧(i.op=3→InR k i.d∧InR k i.a)∧(i.op=38→InR k i.d∧InR k i.a)∧(i.op=4→InR k i.d)∧(i.op=5→InR k i.a)∧(i.op=6→InR k i.d∧InR k i.a)∧(i.op=7→InR k i.d∧InR k i.a∧InR k i.b)∧(i.op=8→InR k i.d∧InR k i.a)∧(i.op=9→InR k i.a∧InR k i.b)∧(i.op=10→InR k i.d∧InR k i.a∧(i.b = -1∨InR k i.b))∧(i.op=11→InR k i.d∧InR k i.a)∧(i.op=12→InR k i.d)∧(i.op=13→InR k i.d∧InR k i.a∧InR k i.b)∧(14≤i.op→i.op<22→zev k i)∧(22≤i.op→i.op≠38→zeu k i)
def LI (k:Kc)(l:List Int)(n:Nat):Prop:=∀(j:Nat) (h:j<l.length),j<n→InR k l[j]
theorem LI.nil {k l}:LI k l 0:=fun _ _ h=>by omega
theorem LI.step {k l n}(h:LI k l n)(hn:n<l.length)(hi:InR k l[n]):LI k l (n+1):=fun j hj hl=>by
 rcases Nat.lt_or_ge j n with h1|h1
 · exact h j hj h1
 · have : j = n := by omega
   subst this;exact hi
theorem LI.all {k:Kc}{l:List Int}{n:Nat}(h:LI k l n)(hn:l.length≤n):∀r∈l,InR k r:=fun r hr=>by
 obtain⟨j,hj,rfl⟩:=List.getElem_of_mem hr;exact h j hj (by omega)
theorem yh7 (k:Kc)(hr:0≤zc8 k∧zc8 k≤4000)(i:Ins):DPR 56 [k.av,i.av] (retB fun x=>x=true→zcf k i):=by
 refine zaf eRg zae Tryz.func56 rfl (by decide) rfl rfl ?_
 have hl:=k.c.p.procs.h;have hl2:=k.c.b.h;have hl3:=k.c.p.files.h;have hl4:=k.c.p.ctl.h;have hl5:=k.c.p.conds.h;have hpr:=k.hproc;have hle:=k.hlen;have hil:=i.l.h;have hir:=i.y.h
 conv=>whnf
 repeat' ((first|(refine zar rfl (zhg k hr i.d) ?_;rintro _ ⟨b1,rfl,hb1⟩<;>refine⟨_,rfl,?_⟩)|(refine zar rfl (zhg k hr i.a) ?_;rintro _ ⟨b2,rfl,hb2⟩<;>refine⟨_,rfl,?_⟩)|(refine zar rfl (zhg k hr i.b) ?_;rintro _ ⟨b3,rfl,hb3⟩<;>refine⟨_,rfl,?_⟩)|refine And.intro (a:=zaw _=true) (by kernel_rfl) (LzK.l ?_))<;>conv=>whnf)
 refine zai eRg zae [2,3,4,5,6,7,25,26] [] 0 (fun n:{n:Nat // LI k i.l.l n}=>[(27,i64 n.1)]) (fun _=>[]) [] (fun n=>i.l.l.length+1 - n.1) (⟨0,LI.nil⟩) ?_
 conv=>whnf
 refine⟨?_,fun n=>?_⟩
 · conv => whnf
   (repeat' first|exact True.intro|rfl|apply And.intro )
 conv=>whnf
 repeat' ((first|refine Rq.mk (by(first|rfl|((try simp only[rz]);omega))) ?_|refine Br.split (fun h=>?_) (fun h=>?_)<;>(try simp only[bz] at h)<;>try (exfalso;omega)|refine zag (fun h=>?_) (fun h=>?_)<;>(try simp only[bz] at h)|refine Ok3.mk _ (zam (by omega)) ?_|(refine zaa rfl (zjt k hr _) ?_;rintro _ (⟨rfl,hx⟩|⟨rfl,hx⟩))|(refine zaa rfl (in_d _ _ _) ?_;rintro _ ⟨b4,rfl,hb4⟩)|(refine zaa rfl (zmg _) ?_;rintro _ ⟨b5,rfl,hb5⟩)|(refine zaa rfl (zg2 _ i.v) ?_;rintro _ ⟨n5,rfl,hn5⟩)|(refine zaa rfl (yo8 k i) ?_;rintro _ ⟨b6,rfl,hb6⟩)|(refine DC.flat rfl (zj0 _ _ ⟨[_],by(show 1<_;decide)⟩) ?_;rintro _ ⟨b7,rfl,hb7⟩<;>refine⟨rfl,?_⟩)|(refine DC.flat rfl (zj0 _ _ ⟨[_,_],by(show 2<_;decide)⟩) ?_;rintro _ ⟨b7,rfl,hb7⟩<;>refine⟨rfl,?_⟩)|(refine zaa rfl (zj0 _ _ i.y) ?_;rintro _ ⟨b7,rfl,hb7⟩)|(refine zaa rfl (zs4 _) ?_;rintro _ ⟨b8,rfl,hb8⟩)|(refine DC.flat rfl (zwm _ _ ⟨[_,_],by(show 2<_;decide)⟩) ?_;rintro _ ⟨t9,e9,rfl⟩<;>refine⟨rfl,?_⟩)|(refine zaa rfl (zyr k hr i _ _ _ (fun h'=>by first|exact hb1.1 h'|exact hb1.1 (by assumption)|exact absurd h' (by decide)) (fun h'=>by first|exact hb2.1 h'|exact hb2.1 (by assumption)|exact absurd h' (by decide)) (fun h'=>by first|exact hb3.1 h'|exact hb3.1 (by assumption)|exact absurd h' (by decide))) ?_;rintro _ ⟨b10,rfl,hb10⟩)|(refine zaa rfl (ybh k hr i _ (fun h'=>by first|exact hb2.1 h'|exact hb2.1 (by assumption)|exact absurd h' (by decide))) ?_;rintro _ ⟨b11,rfl,hb11⟩))<;>conv=>whnf)
 all_goals first|(refine⟨⟨n.1+1,LI.step n.2 (by omega) hx⟩,(by(conv=>whnf);(repeat' first|exact True.intro|rfl|apply And.intro|(refine cw ?_ ?_ ?_<;>(try dsimp only)<;>omega) )),rfl,(by(try simp only[List.length_map] at *)<;>omega)⟩)|exact⟨_,rfl,by first|(intro h;cases h;done)|(intro _;have hal:=LI.all n.2 (by omega);unfold zcf;refine⟨hal,?_⟩;(repeat' apply And.intro)<;>intros<;>first|(exfalso;omega)|grind)⟩
end Go.Ago
namespace Go.Ago
open Go.Proofs
attribute [local irreducible] ltI leI eqI eqS shrI wr inB mmI comp DC DP DW DV
attribute [local irreducible] ckP ct InR PLc zev zeu zdo zcf
structure OutOK (c:Cd):Prop where
 ck:ckP c.p=0
 len:c.b.l.length=c.p.procs.l.length
 regs:∀(p:Nat) (h:p<c.b.l.length),0≤c.b.l[p].regs∧c.b.l[p].regs≤4000
def RI (l:List Bd)(n:Nat):Prop:=∀(j:Nat) (h:j<l.length),j<n→0≤l[j].regs∧l[j].regs≤4000
theorem RI.nil {l}:RI l 0:=fun _ _ h=>by omega
theorem RI.step {l n}(h:RI l n)(hn:n<l.length)(hi:0≤l[n].regs∧l[n].regs≤4000):RI l (n+1):=fun j hj hl=>by
 rcases Nat.lt_or_ge j n with h1|h1
 · exact h j hj h1
 · have : j = n := by omega
   subst this;exact hi
theorem yd4 (p:Prc):DPR 97 [p.av] (retB fun _=>True):=by
 refine zaf eRg zae Tryz.func97 rfl (by decide) rfl rfl ?_
 have hl:=p.rets.h
 conv=>whnf
 repeat' first
  | (refine Br.split (fun h=>?_) (fun h=>?_)<;>(try simp only[bz] at h)<;>(conv=>whnf))
 all_goals exact⟨_,rfl,trivial⟩
theorem zzl (l:BL Prc):DPR 136 [ziu l.l,.fn (.func 97) [] []] (retI fun _=>True):=by
 refine zaf eRg zae Tryz.func136 rfl (by decide) rfl rfl ?_
 have hs:=l.h
 conv=>whnf
 refine zai eRg zae [0,1,4,7] [] 0 (fun i:Nat=>[(8,i64 i)]) (fun _=>[]) [] (fun i=>l.l.length+1 - i) (0) ?_
 conv=>whnf
 refine⟨?_,fun i=>?_⟩
 · conv => whnf
   (repeat' first|exact True.intro|rfl|apply And.intro )
 conv=>whnf
 repeat' ((first|refine Rq.mk (by(first|rfl|((try simp only[rz]);omega))) ?_|refine Br.split (fun h=>?_) (fun h=>?_)<;>(try simp only[bz] at h)|refine zag (fun h=>?_) (fun h=>?_)<;>(try simp only[bz] at h)|refine Ok3.mk _ (zam (by omega)) ?_|(refine zaa rfl (yd4 _) ?_;rintro _ ⟨b1,rfl,hb1⟩))<;>conv=>whnf)
 all_goals first|exact⟨_,rfl,trivial⟩|(refine⟨i+1,(by(conv=>whnf);(repeat' first|exact True.intro|rfl|apply And.intro|(refine cw ?_ ?_ ?_<;>(try dsimp only)<;>omega) )),rfl,(by(try simp only[List.length_map] at *)<;>omega)⟩)
theorem zzm (l:BL Prc):DPR 96 [ziu l.l,.fn (.func 97) [] []] (retB fun _=>True):=by
 refine zaf eRg zae Tryz.func96 rfl (by decide) rfl rfl ?_
 conv=>whnf
 repeat' ((first|refine Br.split (fun h=>?_) (fun h=>?_)<;>(try simp only[bz] at h)|(refine zaa rfl (zzl l) ?_;rintro _ ⟨n1,rfl,hn1⟩))<;>conv=>whnf)
 all_goals exact⟨_,rfl,trivial⟩
theorem yik (c:Cd):DPR 54 [c.av] (retB fun x=>x=true→OutOK c):=by
 refine zaf eRg zae Tryz.func54 rfl (by decide) rfl rfl ?_
 have hl:=c.p.procs.h;have hl2:=c.b.h
 conv=>whnf
 repeat' ((first|refine Br.split (fun h=>?_) (fun h=>?_)<;>(try simp only[bz] at h)|refine zag (fun h=>?_) (fun h=>?_)<;>(try simp only[bz] at h)|(refine zaa rfl (ztv c.p) ?_;rintro _ rfl)|(refine zaa rfl (zzm c.p.procs) ?_;rintro _ ⟨b1,rfl,hb1⟩))<;>conv=>whnf)
 all_goals first|exact⟨_,rfl,fun h=>absurd h (by decide)⟩|skip
 refine zai eRg zae [2,27,28] [] 0 (fun n:{s:Nat×Int // RI c.b.l s.1}=>[(29,i64 n.1.1),(3,i64 n.1.2)]) (fun _=>[]) [] (fun n=>c.b.l.length+1 - n.1.1) (⟨(0,0),RI.nil⟩) ?_
 conv=>whnf
 refine⟨?_,fun n=>?_⟩
 · conv => whnf
   (repeat' first|exact True.intro|rfl|apply And.intro )
 conv=>whnf
 repeat' ((first|refine Rq.mk (by(first|rfl|((try simp only[rz]);omega))) ?_|refine Br.split (fun h=>?_) (fun h=>?_)<;>(try simp only[bz] at h)|refine Ok3.mk _ (zam (by omega)) ?_)<;>conv=>whnf)
 all_goals first|exact⟨_,rfl,fun h=>absurd h (by decide)⟩|exact⟨_,rfl,fun _=>⟨by assumption,by omega,fun p h=>n.2 p h (by omega)⟩⟩|(refine⟨⟨(n.1.1+1,_),RI.step n.2 (by omega) ⟨by omega,by omega⟩⟩,(by(conv=>whnf);(repeat' first|exact True.intro|rfl|apply And.intro|(refine cw ?_ ?_ ?_<;>(try dsimp only)<;>omega) )),rfl,(by(try simp only[List.length_map] at *)<;>omega)⟩)
theorem OutOK.kc {c:Cd}(h:OutOK c)(p:Nat)(hp:p<c.b.l.length):∃k:Kc,k.c=c∧k.proc=(p:Int):=⟨⟨c,p,⟨by omega,by omega⟩,h.len,(zwa c.p h.ck).1⟩,rfl,rfl⟩
def kcOf (c:Cd)(h:OutOK c)(p:Nat)(hp:p<c.b.l.length):Kc:=⟨c,p,⟨by omega,by omega⟩,h.len,(zwa c.p h.ck).1⟩
def yfr (c:Cd)(h:OutOK c)(p:Nat)(hp:p<c.b.l.length)(i:Ins):Prop:=zdo i∧zcf (kcOf c h p hp) i
structure CI (c:Cd)(h:OutOK c)(p:Nat):Prop where
 lo:∀(q:Nat) (hq:q<c.b.l.length),q<p→∀i∈c.b.l[q].ins.l,yfr c h q hq i
def BI (c:Cd)(h:OutOK c)(p:Nat)(hp:p<c.b.l.length)(n:Nat):Prop:=∀(j:Nat) (hj:j<c.b.l[p].ins.l.length),j<n→yfr c h p hp c.b.l[p].ins.l[j]
def zjk (c:Cd):Prop:=∃h:OutOK c,∀(q:Nat) (hq:q<c.b.l.length),∀i∈c.b.l[q].ins.l,yfr c h q hq i
theorem BI.nil {c h p hp}:BI c h p hp 0:=fun _ _ h=>by omega
theorem BI.step {c h p hp n}(hb:BI c h p hp n)(hn:n<c.b.l[p].ins.l.length)(hi:yfr c h p hp c.b.l[p].ins.l[n]):BI c h p hp (n+1):=fun j hj hl=>by
 rcases Nat.lt_or_ge j n with h1|h1
 · exact hb j hj h1
 · have : j = n := by omega
   subst this;exact hi
theorem CI.nil {c h}:CI c h 0:=⟨fun _ _ h=>by omega⟩
theorem CI.step {c h p}(hc:CI c h p)(hp:p<c.b.l.length){n:Nat}(hb:BI c h p hp n)(hn:c.b.l[p].ins.l.length≤n):CI c h (p+1):=⟨fun q hq hl i hi=>by
 rcases Nat.lt_or_ge q p with h1|h1
 · exact hc.lo q hq h1 i hi
 · have : q = p := by omega
   subst this;obtain⟨j,hj,rfl⟩:=List.getElem_of_mem hi;exact hb j hj (by omega)⟩
theorem CI.end {c h p}(hc:CI c h p)(hp:c.b.l.length≤p):zjk c:=⟨h,fun q hq i hi=>hc.lo q hq (by omega) i hi⟩
theorem yiy {c:Cd}(h:OutOK c)(p:Nat)(hp:p<c.b.l.length):0≤zc8 (kcOf c h p hp)∧zc8 (kcOf c h p hp)≤4000:=h.regs p hp
theorem zmx (c:Cd):DPR 14 [c.av] (retI fun e=>e=0→zjk c):=by
 refine zaf eRg zae Tryz.func14 rfl (by decide) rfl rfl ?_
 have hl:=c.p.procs.h;have hl2:=c.b.h
 conv=>whnf
 repeat' ((first|refine zag (fun h=>?_) (fun h=>?_)<;>(try simp only[bz] at h)|(refine zaa rfl (yik c) ?_;rintro _ ⟨b0,rfl,hb0⟩))<;>conv=>whnf)
 all_goals first|exact⟨_,rfl,fun h=>absurd h (by decide)⟩|skip
 have ho:OutOK c:=hb0 (by assumption)
 refine zai eRg zae [1,2,11,12] [] 0 (fun m:{n:Nat // CI c ho n}=>[(13,i64 m.1)]) (fun _=>[]) [] (fun m=>c.b.l.length+1 - m.1) (⟨0,CI.nil⟩) ?_
 conv=>whnf
 refine⟨?_,fun m=>?_⟩
 · conv => whnf
   (repeat' first|exact True.intro|rfl|apply And.intro )
 conv=>whnf
 repeat' ((first|refine Rq.mk (by(first|rfl|((try simp only[rz]);omega))) ?_|refine Br.split (fun h=>?_) (fun h=>?_)<;>(try simp only[bz] at h)|refine Ok3.mk _ (zam (by omega)) ?_)<;>conv=>whnf)
 have hmm:m.1<c.b.l.length:=by omega
 have hl3:=(c.b.l[m.1]).ins.h;refine zai eRg zae [1,2,3,4,11,12,13,14,15,16,17,18,19,20] [] 0 (fun n:{n:Nat // BI c ho m.1 hmm n}=>[(21,i64 n.1)]) (fun _=>[]) [] (fun n=>(c.b.l[m.1]'(hmm)).ins.l.length+1 - n.1) (⟨0,BI.nil⟩) ?_
 conv=>whnf
 refine⟨?_,fun n=>?_⟩
 · conv => whnf
   (repeat' first|exact True.intro|rfl|apply And.intro )
 conv=>whnf
 repeat' ((first|refine Rq.mk (by(first|rfl|((try simp only[rz]);omega))) ?_|refine Br.split (fun h=>?_) (fun h=>?_)<;>(try simp only[bz] at h)|refine zag (fun h=>?_) (fun h=>?_)<;>(try simp only[bz] at h)|refine Ok3.mk _ (zam (by omega)) ?_|(refine zaa rfl (yo9 (c.b.l[m.1].ins.l[n.1]'(by omega))) ?_;rintro _ ⟨b1,rfl,hb1⟩)|(refine zaa rfl (yh7 (kcOf c ho m.1 hmm) (yiy ho m.1 hmm) (c.b.l[m.1].ins.l[n.1]'(by omega))) ?_;rintro _ ⟨b2,rfl,hb2⟩))<;>conv=>whnf)
 all_goals first|exact⟨_,rfl,fun h=>absurd h (by decide)⟩|exact⟨_,rfl,fun _=>CI.end m.2 (by omega)⟩|(refine⟨⟨n.1+1,BI.step n.2 (by omega) ⟨hb1 (by assumption),hb2 (by assumption)⟩⟩,(by(conv=>whnf);(repeat' first|exact True.intro|rfl|apply And.intro|(refine cw ?_ ?_ ?_<;>(try dsimp only)<;>omega) )),rfl,(by(try simp only[List.length_map] at *)<;>omega)⟩)|(refine⟨⟨m.1+1,CI.step m.2 hmm n.2 (by omega)⟩,(by(conv=>whnf);(repeat' first|exact True.intro|rfl|apply And.intro|(refine cw ?_ ?_ ?_<;>(try dsimp only)<;>omega) )),rfl,(by(try simp only[List.length_map] at *)<;>omega)⟩)
noncomputable def ckC (c:Cd):Int:=Classical.choose (ze7 (zmx c))
theorem yg0 (c:Cd):ckC c=0→zjk c:=(Classical.choose_spec (ze7 (zmx c))).1
theorem zfq (c:Cd):DPR 14 [c.av] (fun ae=>ae = .ret (i64 (ckC c))):=(Classical.choose_spec (ze7 (zmx c))).2
abbrev zdn (i:Ins):Prop:=i.op≠14∧i.op≠16∧i.op≠18∧i.op≠37
abbrev zoo (i:Ins):Prop:=i.op=2∨i.op=3∨i.op=6∨i.op=26∨i.op=32∨i.op=34∨i.op=35∨i.op=36∨(i.op=4∧i.n≠5)
def zbg (i:Ins):Int:=if hasB i.op 68=true then i.d else -1
def zbc (i:Ins):List Int:=if i.op=14∨i.op=15 then [i.n] else if i.op=28∨i.op=29 then [i.m] else []
theorem yjk (i:Ins):DPR 74 [i.av] (retB fun b=>b=true↔zdn i):=by
 refine zaf eRg zae Tryz.func74 rfl (by decide) rfl rfl ?_
 conv=>whnf
 repeat' first
  | (refine Br.split (fun h=>?_) (fun h=>?_)<;>(try simp only[bz] at h)<;>(conv=>whnf))
 all_goals exact⟨_,rfl,by simp only[zdn,true_iff,false_iff,Bool.false_eq_true,reduceCtorEq];omega⟩
theorem ztk (i:Ins):DPR 74 [i.av] (retD (zdn i)):=DP.dec (yjk i)
theorem yic (i:Ins):DPR 120 [i.av] (retB fun b=>b=true↔zoo i):=by
 refine zaf eRg zae Tryz.func120 rfl (by decide) rfl rfl ?_
 conv=>whnf
 repeat' first
  | (refine Br.split (fun h=>?_) (fun h=>?_)<;>(try simp only[bz] at h)<;>(conv=>whnf))
 all_goals exact⟨_,rfl,by simp only[zoo,true_iff,false_iff,Bool.false_eq_true,reduceCtorEq];omega⟩
theorem yid (i:Ins):DPR 120 [i.av] (retD (zoo i)):=DP.dec (yic i)
theorem znt (i:Ins):DPR 76 [i.av] (fun ae=>ae = .ret (i64 (zbg i))):=by
 refine zaf eRg zae Tryz.func76 rfl (by decide) rfl rfl ?_
 conv=>whnf
 repeat' ((first|refine zag (fun h=>?_) (fun h=>?_)<;>(try simp only[bz] at h)|(refine zaa rfl (yi5 _ _) ?_;rintro _ rfl))<;>conv=>whnf)
 all_goals (simp only[zbg, *];rfl)
theorem zym (i:Ins):DPR 73 [i.av] (fun ae=>∃l:List Int,ae = .ret (bif l.isEmpty then .nils else .rsl 1 (l.map fun n=>[i64 n]))∧l=zbc i):=by
 refine zaf eRg zae Tryz.func73 rfl (by decide) rfl rfl ?_
 conv=>whnf
 repeat' first
  | (refine Br.split (fun h=>?_) (fun h=>?_)<;>(try simp only[bz] at h)<;>(conv=>whnf))
 all_goals first|exact⟨[i.n],rfl,by simp[zbc, *]⟩|exact⟨[i.m],rfl,by simp[zbc, *]⟩|exact⟨[],rfl,by simp[zbc, *]⟩
theorem zgj (i:Ins):DPR 73 [i.av] (fun ae=>ae = .ret (zaq (zbc i))):=by
 refine(znb (f:=fun n=>[i64 n]) (sz:=1) (p:=fun l=>l=zbc i) (zym i)).mono ?_
 rintro _ ⟨_,rfl,rfl⟩;rfl
structure Gr where
 ins:BL Ins
 regs:Int
 entries:BL Int
abbrev Gr.cells (g:Gr):List AV:=[zgs g.ins.l,i64 g.regs,zaq g.entries.l]
abbrev Gr.av (g:Gr):AV := .agg g.cells
def StrP (l:List Ins)(n:Nat):Prop:=∀(p:Nat) (h:p<l.length),p<n→zbc l[p]=[]∧(zdn l[p]∨(l.length:Int) - 1≤p)
def StraightG (g:Gr):Prop:=g.entries.l=[]∧StrP g.ins.l g.ins.l.length
theorem StrP.nil {l}:StrP l 0:=fun _ _ h=>by omega
theorem StrP.step {l n}(h:StrP l n)(hn:n<l.length)(h1:zbc l[n]=[])(h2:zdn l[n]∨(l.length:Int) - 1≤n):StrP l (n+1):=fun j hj hl=>by
 rcases Nat.lt_or_ge j n with hj'|hj'
 · exact h j hj hj'
 · have : j = n := by omega
   subst this;exact⟨h1,h2⟩
theorem zm8 {g:Gr}{n:Nat}(hn:n<g.ins.l.length)(h:zbc g.ins.l[n]≠[]):¬StraightG g:=fun hs=>h (hs.2 n hn hn).1
theorem zm9 {g:Gr}{n:Nat}(hn:n<g.ins.l.length)(h:¬zdn g.ins.l[n])(h2:(n:Int)<g.ins.l.length - 1):¬StraightG g:=fun hs=>by
 rcases(hs.2 n hn hn).2 with h3|h3
 · exact h h3
 · omega
theorem zna {g:Gr}(h:0<(g.entries.l.length:Int)):¬StraightG g:=fun hs=>by rw[hs.1] at h;exact absurd h (by decide)
theorem yae {l:List Int}(h:¬0<(l.length:Int)):l=[]:=List.eq_nil_of_length_eq_zero (by omega)
theorem yn6 {l:List Int}(h:0<(l.length:Int)):l≠[]:=fun e=>by rw[e] at h;exact absurd h (by decide)
theorem yen (c:Cd)(n:Int):DPR 32 [c.av,i64 n] (retB fun b=>b=true↔0≤n∧n<c.b.l.length):=by
 refine zaf eRg zae Tryz.func32 rfl (by decide) rfl rfl ?_
 have hl:=c.b.h
 conv=>whnf
 repeat' first
  | (refine Br.split (fun h=>?_) (fun h=>?_)<;>(try simp only[bz] at h)<;>(conv=>whnf))
 all_goals exact⟨_,rfl,by simp only[true_iff,false_iff,Bool.false_eq_true];omega⟩
theorem zws (g:Gr):DPR 34 [g.av] (retB fun b=>b=true↔StraightG g):=by
 refine zaf eRg zae Tryz.func34 rfl (by decide) rfl rfl ?_
 have hl:=g.ins.h;have hl2:=g.entries.h
 conv=>whnf
 repeat' first
  | (refine Br.split (fun h=>?_) (fun h=>?_)<;>(try simp only[bz] at h)<;>(conv=>whnf))
 all_goals first|exact⟨_,rfl,by simp only[false_iff,Bool.false_eq_true];exact zna (by omega)⟩|skip
 refine zai eRg zae [1,2,10,11] [] 0 (fun n:{n:Nat // StrP g.ins.l n}=>[(12,i64 n.1)]) (fun _=>[]) [] (fun n=>g.ins.l.length+1 - n.1) (⟨0,StrP.nil⟩) ?_
 conv=>whnf
 refine⟨?_,fun n=>?_⟩
 · conv => whnf
   (repeat' first|exact True.intro|rfl|apply And.intro )
 conv=>whnf
 repeat' ((first|refine Rq.mk (by(first|rfl|((try simp only[rz]);omega))) ?_|refine Br.split (fun h=>?_) (fun h=>?_)<;>(try simp only[bz] at h)|refine Ok3.mk _ (zam (by omega)) ?_|(refine zaa rfl (zgj (g.ins.l[n.1]'(by omega))) ?_;rintro _ rfl)|(refine zaa rfl (ztk (g.ins.l[n.1]'(by omega))) ?_;rintro _ (⟨rfl,hf⟩|⟨rfl,hf⟩)))<;>conv=>whnf)
 all_goals (try rw[wr64 (by omega) (by omega)] at h)
 all_goals first|exact⟨_,rfl,by simp only[false_iff,Bool.false_eq_true];first|exact zm8 (n:=n.1) (by omega) (yn6 (by omega))|exact zm9 (n:=n.1) (by omega) hf (by omega)⟩|exact⟨_,rfl,by simp only[true_iff];exact⟨yae (by omega),fun p h _=>n.2 p h (by omega)⟩⟩|(refine⟨⟨n.1+1,StrP.step n.2 (by omega) (yae (by omega)) (by first|exact Or.inl hf|exact Or.inr (by omega))⟩,(by(conv=>whnf);(repeat' first|exact True.intro|rfl|apply And.intro|(refine cw ?_ ?_ ?_<;>(try dsimp only)<;>omega) )),rfl,(by(try simp only[List.length_map] at *)<;>omega)⟩)
end Go.Ago
section
namespace Go.Ago
open Go.Proofs
attribute [local irreducible] ltI leI eqI eqS shrI wr inB mmI comp DC DP DW DV
abbrev W64:=BitVec 64
abbrev zh6 (b:W64):List AV:=[.int .u64 (b.toNat:Int)]
abbrev zek (ws:List W64):AV := .rsl 1 (ws.map zh6)
def bitW (ws:List W64)(r:Nat):Bool:=(ws.getD (r / 64) 0).getLsbD (r % 64)
theorem yde (b:W64):IntKind.wrap .u64 (b.toNat:Int)=b.toNat:=by
 have:=b.isLt;simp only[IntKind.wrap,IntKind.bits,IntKind.signed,Bool.false_and,Bool.false_eq_true,if_false];omega
theorem or_w (a b:W64):zcs .or .u64 (a.toNat:Int) (b.toNat:Int)=((a ||| b).toNat:Int):=by
 simp only[zcs,IntKind.bits,BitVec.ofInt_natCast,BitVec.ofNat_toNat,BitVec.setWidth_eq];exact yde _
theorem yqq (a b:W64):zcs .and .u64 (a.toNat:Int) (b.toNat:Int)=((a &&& b).toNat:Int):=by
 simp only[zcs,IntKind.bits,BitVec.ofInt_natCast,BitVec.ofNat_toNat,BitVec.setWidth_eq];exact yde _
theorem ype (a b:W64):zcs .andNot .u64 (a.toNat:Int) (b.toNat:Int)=((a &&& ~~~b).toNat:Int):=by
 simp only[zcs,IntKind.bits,BitVec.ofInt_natCast,BitVec.ofNat_toNat,BitVec.setWidth_eq];exact yde _
theorem ypv (a:W64)(k:Nat)(hk:k<64):shrI (a.toNat:Int) (k:Int) .u64=((a >>> k).toNat:Int):=by
 have h1:min ((k:Int)).toNat 64=k:=by omega
 simp only[shrI,IntKind.bits,h1,BitVec.toNat_ushiftRight,Nat.shiftRight_eq_div_pow];have h2:(2:Int) ^ k=((2 ^ k:Nat):Int):=by simp
 rw[h2,Int.fdiv_eq_ediv_of_nonneg _ (Int.natCast_nonneg _)];exact(Int.natCast_ediv _ _).symm
theorem ym4 (k:Nat)(hk:k<64):wr .u64 (1 * 2 ^ min ((k:Int)).toNat 64)=((BitVec.twoPow 64 k).toNat:Int):=by
 have h1:min ((k:Int)).toNat 64=k:=by omega
 have h2:(2:Nat) ^ k<2 ^ 64:=Nat.pow_lt_pow_right (by decide) hk
 have h3:(2:Int) ^ k=((2 ^ k:Nat):Int):=by simp
 rw[h1,BitVec.toNat_twoPow,Nat.mod_eq_of_lt h2,Int.one_mul,h3];have:=yde (BitVec.twoPow 64 k);rw[BitVec.toNat_twoPow,Nat.mod_eq_of_lt h2] at this;unfold wr;exact this
theorem q64 {r:Int}(h:0≤r)(h':r<4611686018427387904):wr .i64 (r.tdiv 64)=((r.toNat / 64:Nat):Int):=by
 obtain⟨n,rfl⟩:=Int.eq_ofNat_of_zero_le h;rw[wr64 (by rw[Int.tdiv_eq_ediv_of_nonneg h];omega) (by rw[Int.tdiv_eq_ediv_of_nonneg h];omega),Int.tdiv_eq_ediv_of_nonneg h];simp
theorem m64 {r:Int}(h:0≤r):r.tmod 64=((r.toNat % 64:Nat):Int):=by
 obtain⟨n,rfl⟩:=Int.eq_ofNat_of_zero_le h;rw[Int.tmod_eq_emod_of_nonneg h];simp
theorem ykp (w:W64)(k:Nat)(hk:k<64):(zcs .and .u64 (shrI (w.toNat:Int) (k:Int) .u64) 1=1)↔w.getLsbD k=true:=by
 rw[ypv w k hk,show(1:Int)=((1#64:W64).toNat:Int) from rfl,yqq]
 have e:(w >>> k &&& 1#64:W64)=if w.getLsbD k then 1#64 else 0#64:=by
  have hw:w.getLsbD k=w[k]:=BitVec.getLsbD_eq_getElem hk
  ext i hi
  by_cases h0:i=0
  · subst h0;cases h:w[k]<;>simp_all
  · cases h:w[k]<;>simp_all[BitVec.getElem_one]
 rw[e];cases w.getLsbD k<;>simp
theorem yff {ws:List W64}{r n m:Int}(hn:n=((r.toNat / 64:Nat):Int))(hm:m=((r.toNat % 64:Nat):Int))(hlt:n.toNat<ws.length) :
 (zcs .and .u64 (shrI (ws[n.toNat].toNat:Int) m .u64) 1=1)↔bitW ws r.toNat=true:=by
 subst hm;rw[ykp _ _ (by omega),bitW]
 have:n.toNat=r.toNat / 64:=by omega
 simp only[this] at hlt ⊢;simp[List.getD,hlt]
theorem zry {ws:List W64}{r n m:Int}(hn:n=((r.toNat / 64:Nat):Int))(hm:m=((r.toNat % 64:Nat):Int))(hlt:n.toNat<ws.length) :
 (zcs .and .u64 (Int.fdiv (ws[n.toNat].toNat:Int) (2 ^ min m.toNat IntKind.u64.bits)) 1=1)↔bitW ws r.toNat=true:=by
 have:=yff hn hm hlt;unfold shrI at this;exact this
theorem bitT {ws:List W64}{r:Nat}{p:Prop}(h:p)(e:p↔bitW ws r=true):AE.ret (.bool true)=AE.ret (.bool (bitW ws r)):=by rw[e.1 h]
theorem bitF {ws:List W64}{r:Nat}{p:Prop}(h:¬p)(e:p↔bitW ws r=true):AE.ret (.bool false)=AE.ret (.bool (bitW ws r)):=by
 cases hb:bitW ws r with
 | false=>rfl
 | true=>exact absurd (e.2 hb) h
attribute [local irreducible] zcs
theorem yau (ws:BL W64)(r:Int)(h:0≤r∧r<64 * ws.l.length):DPR 85 [zek ws.l,i64 r] (fun ae=>ae = .ret (.bool (bitW ws.l r.toNat))):=by
 refine zaf eRg zae Tryz.func85 rfl (by decide) rfl rfl ?_
 have hl:=ws.h;have hq:=q64 (r:=r) (by omega) (by omega);have hm:=m64 (r:=r) (by omega)
 conv=>whnf
 repeat' ((first|refine Rq.mk (by(first|rfl|((try simp only[rz]);omega))) ?_|refine Br.split (fun h=>?_) (fun h=>?_)<;>(try simp only[bz] at h)|refine Ok3.mk _ (za2 (by omega)) ?_)<;>conv=>whnf)
 all_goals first|exact bitT h (zry hq hm (by omega))|exact bitF h (zry hq hm (by omega))
end Go.Ago
end
namespace Go.Ago
def putW (ws:List W64)(r:Nat):List W64:=ws.set (r / 64) (ws.getD (r / 64) 0 ||| BitVec.twoPow 64 (r % 64))
def zgz (ws:List W64)(r:Nat):List W64:=ws.set (r / 64) (ws.getD (r / 64) 0 &&& ~~~ BitVec.twoPow 64 (r % 64))
theorem yie {ws:List W64}{r n m:Int}(hn:n=((r.toNat / 64:Nat):Int))(hm:m=((r.toNat % 64:Nat):Int))(hlt:n.toNat<ws.length) :
 (ws.map zh6).set (0+n.toNat) [AV.int .u64 (zcs .or .u64 (ws[n.toNat].toNat:Int) (wr .u64 (1 * 2 ^ min m.toNat IntKind.u64.bits)))]=(putW ws r.toNat).map zh6:=by
 subst hm;rw[show IntKind.u64.bits=64 from rfl,ym4 _ (by omega),or_w]
 have hk:n.toNat=r.toNat / 64:=by omega
 simp only[hk] at hlt ⊢;simp only[putW,List.map_set,Nat.zero_add,List.getD,List.getElem?_eq_getElem hlt,Option.getD_some]
theorem ye2 {ws:List W64}{r n m:Int}(hn:n=((r.toNat / 64:Nat):Int))(hm:m=((r.toNat % 64:Nat):Int))(hlt:n.toNat<ws.length) :
 (ws.map zh6).set (0+n.toNat) [AV.int .u64 (zcs .andNot .u64 (ws[n.toNat].toNat:Int) (wr .u64 (1 * 2 ^ min m.toNat IntKind.u64.bits)))]=(zgz ws r.toNat).map zh6:=by
 subst hm;rw[show IntKind.u64.bits=64 from rfl,ym4 _ (by omega),ype]
 have hk:n.toNat=r.toNat / 64:=by omega
 simp only[hk] at hlt ⊢;simp only[zgz,List.map_set,Nat.zero_add,List.getD,List.getElem?_eq_getElem hlt,Option.getD_some]
theorem zf8 {ws:List W64}{r s:Nat}(hr:r<64 * ws.length):bitW (putW ws r) s=(decide (s=r) || bitW ws s):=by
 have hl:r / 64<ws.length:=by omega
 unfold bitW putW
 by_cases h:s / 64=r / 64
 · rw [h]
   simp only[List.getD,List.getElem?_set_self hl,Option.getD_some,List.getElem?_eq_getElem hl,BitVec.getLsbD_or,BitVec.getLsbD_twoPow];have:(decide (r % 64<64) && decide (r % 64=s % 64))=decide (s=r):=by
    by_cases h2:s=r
    · subst h2;simp;omega
    · have : ¬ (r % 64 = s % 64) := by omega
      simp[h2,this]
   cases hb:ws[r / 64].getLsbD (s % 64)<;>simp_all
 · have hne : s ≠ r := fun e => h (by rw [e])
   simp only[List.getD,List.getElem?_set_ne (Ne.symm h)];simp[hne]
theorem ycp {ws:List W64}{r s:Nat}(hr:r<64 * ws.length):bitW (zgz ws r) s=(!decide (s=r) && bitW ws s):=by
 have hl:r / 64<ws.length:=by omega
 unfold bitW zgz
 by_cases h:s / 64=r / 64
 · rw [h]
   simp only[List.getD,List.getElem?_set_self hl,Option.getD_some,List.getElem?_eq_getElem hl,BitVec.getLsbD_and,BitVec.getLsbD_not,BitVec.getLsbD_twoPow];have h3:(decide (r % 64<64) && decide (r % 64=s % 64))=decide (s=r):=by
    by_cases h2:s=r
    · subst h2;simp;omega
    · have : ¬ (r % 64 = s % 64) := by omega
      simp[h2,this]
   have h4:decide (s % 64<64)=true:=by simp;omega
   rw[h3,h4];cases hb:ws[r / 64].getLsbD (s % 64)<;>simp
 · have hne : s ≠ r := fun e => h (by rw [e])
   simp only[List.getD,List.getElem?_set_ne (Ne.symm h)];simp[hne]
def orW (a b:List W64):List W64:=List.zipWith (· ||| ·) a b
theorem zpv {a b:List W64}{s:Nat}(h:a.length=b.length):bitW (orW a b) s=(bitW a s || bitW b s):=by
 unfold bitW orW
 by_cases hs:s / 64<a.length
 · have hs' : s / 64 < b.length := by omega
   simp[List.getD,List.getElem?_zipWith,List.getElem?_eq_getElem hs,List.getElem?_eq_getElem hs']
 · have hs' : ¬ s / 64 < b.length := by omega
   simp[List.getD,List.getElem?_zipWith,List.getElem?_eq_none (Nat.le_of_not_lt hs),List.getElem?_eq_none (Nat.le_of_not_lt hs')]
end Go.Ago
namespace Go.Ago
open Go.Proofs
def zas (g:Gr)(at_:Nat):List Int:=
 if h:at_<g.ins.l.length then (if zoo g.ins.l[at_] then zbc g.ins.l[at_] else zbc g.ins.l[at_]++g.entries.l) else g.entries.l
abbrev nwg (g:Gr):Nat:=(g.regs.toNat+63) / 64
abbrev zcc (n:Nat):List W64:=List.replicate n 0
structure GrOK (g:Gr):Prop where
 regs:0≤g.regs∧g.regs≤64
 few:g.ins.l.length≤1000∧g.entries.l.length≤1000
 uses:∀i∈g.ins.l,∀r∈zbn i,0≤r∧r<g.regs
 sets:∀i∈g.ins.l,zbg i<g.regs
 lst:∀i∈g.ins.l,i.l.l.length≤40
 tgt:∀i∈g.ins.l,∀t∈zbc i,0≤t∧t≤(g.ins.l.length:Int)
 ent:∀t∈g.entries.l,0≤t∧t≤(g.ins.l.length:Int)
structure ShS (g:Gr)(S:List (List W64)):Prop where
 len:S.length=g.ins.l.length+1
 row:∀ws∈S,ws.length=nwg g
abbrev rowS (S:List (List W64))(k:Nat):List W64:=S.getD k []
def nowF (g:Gr)(S:List (List W64))(at_:Nat):List W64:=
 if h:at_<g.ins.l.length then (if zdn g.ins.l[at_] then (if 0≤zbg g.ins.l[at_] then zgz (orW (zcc (nwg g)) (rowS S (at_+1))) (zbg g.ins.l[at_]).toNat else orW (zcc (nwg g)) (rowS S (at_+1))) else zcc (nwg g)) else zcc (nwg g)
def putL (z:List W64)(l:List Int):List W64:=l.foldl (fun ws r=>putW ws r.toNat) z
def orL (S:List (List W64))(z:List W64)(l:List Int):List W64:=l.foldl (fun ws t=>orW ws (rowS S t.toNat)) z
def nowA (g:Gr)(S:List (List W64))(at_:Nat):List W64:=if h:at_<g.ins.l.length then putL (nowF g S at_) (zbn g.ins.l[at_]) else nowF g S at_
def nowB (g:Gr)(S:List (List W64))(at_:Nat):List W64:=orL S (nowA g S at_) (zas g at_)
def zdp (g:Gr)(S:List (List W64))(at_:Nat):List (List W64):=S.set at_ (orW (rowS S at_) (nowB g S at_))
theorem zhh {ws:List W64}{r:Nat}:(putW ws r).length=ws.length:=by simp[putW]
theorem ybe {ws:List W64}{r:Nat}:(zgz ws r).length=ws.length:=by simp[zgz]
theorem zh8 {a b:List W64}(h:a.length=b.length):(orW a b).length=a.length:=by simp[orW,h]
theorem zbd {g:Gr}{S:List (List W64)}(h:ShS g S){k:Nat}(hk:k≤g.ins.l.length):(rowS S k).length=nwg g:=by
 have hlt:k<S.length:=by rw[h.len];omega
 rw[rowS,List.getD,List.getElem?_eq_getElem hlt,Option.getD_some];exact h.row _ (List.getElem_mem hlt)
theorem zhs {n r:Nat}:bitW (zcc n) r=false:=by
 unfold bitW zcc
 by_cases h:r / 64<n
 · simp[List.getD,h]
 · rw[List.getD,List.getElem?_eq_none (by rw[List.length_replicate];omega:(List.replicate n (0:W64)).length≤r / 64)];simp
theorem zdk {n:Nat}:(zcc n).length=n:=List.length_replicate
theorem yfg {ws:List W64}{r:Nat}(h:64 * ws.length≤r):bitW ws r=false:=by
 unfold bitW;simp[List.getD,List.getElem?_eq_none (by omega:ws.length≤r / 64)]
theorem zef {g:Gr}(h:GrOK g):g.regs≤64 * (nwg g:Int):=by have:=h.regs;simp only[nwg];omega
theorem zkc {g:Gr}(h:GrOK g):nwg g≤1:=by have:=h.regs;simp only[nwg];omega
theorem yco {l:List Int}:∀{z:List W64} {n:Nat},z.length=n→(∀r∈l,0≤r∧r<64 * (n:Int))→∀s,bitW (putL z l) s=true↔((s:Int)∈l∨bitW z s=true):=by
 induction l with
 | nil=>intro z n _ _ s;simp[putL]
 | cons r l ih =>
   intro z n hz hr s;have h1:=hr r List.mem_cons_self;have:=ih (z:=putW z r.toNat) (n:=n) (by rw[zhh,hz]) (fun x hx=>hr x (List.mem_cons_of_mem _ hx)) s
   rw[show putL z (r::l)=putL (putW z r.toNat) l from rfl,this,zf8 (by rw[hz];omega)]
   simp only[List.mem_cons,Bool.or_eq_true,decide_eq_true_eq];have e:(s:Int)=r↔s=r.toNat:=by omega
   rw[e]
   constructor
   · rintro (h | h | h)
     · exact .inl (.inr h)
     · exact .inl (.inl h)
     · exact .inr h
   · rintro ((h | h) | h)
     · exact .inr (.inl h)
     · exact .inl h
     · exact .inr (.inr h)
theorem zk7 {l:List Int}:∀{z:List W64},(putL z l).length=z.length:=by
 induction l with
 | nil=>intro z;rfl
 | cons r l ih=>intro z;rw[show putL z (r::l)=putL (putW z r.toNat) l from rfl,ih,zhh]
theorem yfh {S:List (List W64)}{l:List Int}:∀{z:List W64} {n:Nat},z.length=n→(∀t∈l,(rowS S t.toNat).length=n)→∀s,bitW (orL S z l) s=true↔(bitW z s=true∨∃t∈l,bitW (rowS S t.toNat) s=true):=by
 induction l with
 | nil=>intro z n _ _ s;simp[orL]
 | cons r l ih =>
   intro z n hz hr s;have h1:=hr r List.mem_cons_self;have:=ih (z:=orW z (rowS S r.toNat)) (n:=n) (by rw[zh8 (by rw[hz,h1]),hz]) (fun x hx=>hr x (List.mem_cons_of_mem _ hx)) s
   rw[show orL S z (r::l)=orL S (orW z (rowS S r.toNat)) l from rfl,this,zpv (by rw[hz,h1])]
   simp only[List.mem_cons,Bool.or_eq_true,exists_eq_or_imp,or_assoc]
theorem zzy {S:List (List W64)}{l:List Int}:∀{z:List W64} {n:Nat},z.length=n→(∀t∈l,(rowS S t.toNat).length=n)→(orL S z l).length=n:=by
 induction l with
 | nil=>intro z n h _;exact h
 | cons r l ih =>
   intro z n hz hr;exact ih (by rw[zh8 (by rw[hz,hr r List.mem_cons_self]),hz]) (fun x hx=>hr x (List.mem_cons_of_mem _ hx))
theorem zln {g:Gr}(h:GrOK g){k:Nat}:∀t∈zas g k,0≤t∧t≤(g.ins.l.length:Int):=by
 intro t ht;unfold zas at ht;split at ht
 · rename_i hk
   split at ht
   · exact h.tgt _ (List.getElem_mem hk) t ht
   · rcases List.mem_append.1 ht with ht | ht
     · exact h.tgt _ (List.getElem_mem hk) t ht
     · exact h.ent t ht
 · exact h.ent t ht
theorem zm4 {g:Gr}(h:GrOK g){S:List (List W64)}(hs:ShS g S){k:Nat}:∀t∈zas g k,(rowS S t.toNat).length=nwg g:=fun t ht=>zbd hs (by have:=zln h t ht;omega)
theorem zlr {i:Ins}:(zbc i).length≤1:=by
 unfold zbc;split
 · simp
 · split<;>simp
theorem ycx {g:Gr}(h:GrOK g){k:Nat}:(zas g k).length≤1001:=by
 have:=h.few;unfold zas;split
 · have := @zlr (g.ins.l[k])
   split<;>simp<;>omega
 · omega
def NowP (g:Gr)(M:Nat→Nat→Prop)(k r:Nat):Prop:=
 (∃h:k<g.ins.l.length,(zdn g.ins.l[k]∧M (k+1) r∧(r:Int)≠zbg g.ins.l[k])∨(r:Int)∈zbn g.ins.l[k])∨∃t∈zas g k,M t.toNat r
def FixG (g:Gr)(M:Nat→Nat→Prop):Prop:=∀k r,k≤g.ins.l.length→NowP g M k r→M k r
abbrev bitS (S:List (List W64))(k r:Nat):Prop:=bitW (rowS S k) r=true
theorem zhk {g:Gr}{S:List (List W64)}(hs:ShS g S){k:Nat}:(nowF g S k).length=nwg g:=by
 unfold nowF;split
 · rename_i hk
   have h1:=zbd hs (k:=k+1) (by omega)
   split
   · split
     · rw[ybe,zh8 (by rw[zdk,h1]),zdk]
     · rw[zh8 (by rw[zdk,h1]),zdk]
   · simp
 · simp
theorem zpa {g:Gr}{S:List (List W64)}(hs:ShS g S){k:Nat}:(nowA g S k).length=nwg g:=by
 unfold nowA;split
 · rw[zk7,zhk hs]
 · exact zhk hs
theorem zle {g:Gr}(h:GrOK g){S:List (List W64)}(hs:ShS g S){k:Nat}:(nowB g S k).length=nwg g:=zzy (zpa hs) (zm4 h hs)
theorem zve {g:Gr}(hg:GrOK g){S:List (List W64)}(hs:ShS g S){k r:Nat}:bitW (nowF g S k) r=true↔∃h:k<g.ins.l.length,zdn g.ins.l[k]∧bitS S (k+1) r∧(r:Int)≠zbg g.ins.l[k]:=by
 unfold nowF;split
 · rename_i hk
   have h1:=zbd hs (k:=k+1) (by omega)
   have hz:bitW (orW (zcc (nwg g)) (rowS S (k+1))) r=bitW (rowS S (k+1)) r:=by rw[zpv (by rw[zdk,h1]),zhs,Bool.false_or]
   have hsl:=hg.sets _ (List.getElem_mem hk);split
   · rename_i hf
     split
     · rename_i h0
       rw[ycp (by rw[zh8 (by rw[zdk,h1]),zdk];have:=zef hg;omega),hz]
       simp only[Bool.and_eq_true,Bool.not_eq_true',decide_eq_false_iff_not]
       constructor
       · rintro⟨a,b⟩;exact⟨hk,hf,b,by omega⟩
       · rintro⟨_,_,a,b⟩;exact⟨by omega,a⟩
     · rw [hz]
       constructor
       · intro a;exact⟨hk,hf,a,by omega⟩
       · rintro⟨_,_,a,_⟩;exact a
   · rename_i hf
     rw[zhs];simp only[Bool.false_eq_true,false_iff]
     rintro⟨_,a,_⟩;exact hf a
 · rename_i hk
   rw[zhs];simp only[Bool.false_eq_true,false_iff]
   rintro⟨a,_⟩;exact hk a
theorem zvf {g:Gr}(hg:GrOK g){S:List (List W64)}(hs:ShS g S){k r:Nat}:bitW (nowB g S k) r=true↔NowP g (bitS S) k r:=by
 unfold nowB;rw[yfh (zpa hs) (zm4 hg hs)];unfold NowP;refine or_congr ?_ Iff.rfl;unfold nowA;split
 · rename_i hk
   rw[yco (zhk hs) (fun r hr=>by have:=hg.uses _ (List.getElem_mem hk) r hr;have:=zef hg;omega),zve hg hs]
   constructor
   · rintro (a | ⟨_, a⟩)
     · exact⟨hk,.inr a⟩
     · exact⟨hk,.inl a⟩
   · rintro ⟨_, a | a⟩
     · exact .inr ⟨hk,a⟩
     · exact .inl a
 · rename_i hk
   rw[zve hg hs]
   constructor
   · rintro⟨a,_⟩;exact absurd a hk
   · rintro⟨a,_⟩;exact absurd a hk
theorem NowP.mono {g:Gr}{M N:Nat→Nat→Prop}(h:∀k r,M k r→N k r){k r:Nat}(hn:NowP g M k r):NowP g N k r:=by
 rcases hn with⟨hk,⟨a,b,c⟩|a⟩|⟨t,a,b⟩
 · exact .inl ⟨hk,.inl ⟨a,h _ _ b,c⟩⟩
 · exact .inl ⟨hk,.inr a⟩
 · exact .inr ⟨t,a,h _ _ b⟩
def LowS (g:Gr)(S:List (List W64)):Prop:=∀M,FixG g M→∀k r,bitS S k r→M k r
theorem ShS.zero {g:Gr}:ShS g (List.replicate (g.ins.l.length+1) (zcc (nwg g))):=⟨by simp,by intro ws h;rw[List.eq_of_mem_replicate h];simp⟩
theorem LowS.zero {g:Gr}{n m:Nat}:LowS g (List.replicate n (zcc m)):=by
 intro M _ k r h;have h:bitW (rowS (List.replicate n (zcc m)) k) r=true:=h
 by_cases hk:k<n
 · rw[show rowS (List.replicate n (zcc m)) k=zcc m by simp[rowS,List.getD,hk],zhs] at h;cases h
 · rw [show rowS (List.replicate n (zcc m)) k = [] by simp [rowS, List.getD, List.getElem?_eq_none (by simp; omega : (List.replicate n (zcc m)).length ≤ k)]] at h
   rw[yfg (by simp)] at h;cases h
theorem ShS.step {g:Gr}(hg:GrOK g){S:List (List W64)}(hs:ShS g S){k:Nat}(hk:k≤g.ins.l.length):ShS g (zdp g S k):=by
 refine⟨by rw[zdp,List.length_set,hs.len],fun ws h=>?_⟩
 rcases List.mem_or_eq_of_mem_set h with h|rfl
 · exact hs.row _ h
 · rw[zh8 (by rw[zbd hs hk,zle hg hs]),zbd hs hk]
theorem zut {g:Gr}{S:List (List W64)}(hs:ShS g S){k j:Nat}(hk:k≤g.ins.l.length):rowS (zdp g S k) j=if j=k then orW (rowS S k) (nowB g S k) else rowS S j:=by
 have hlt:k<S.length:=by rw[hs.len];omega
 by_cases h:j=k
 · subst h;simp[rowS,zdp,List.getD,hlt]
 · simp[rowS,zdp,List.getD,List.getElem?_set_ne (Ne.symm h),h]
theorem LowS.step {g:Gr}(hg:GrOK g){S:List (List W64)}(hs:ShS g S)(hl:LowS g S){k:Nat}(hk:k≤g.ins.l.length):LowS g (zdp g S k):=by
 intro M hM j r h;have h:bitW (rowS (zdp g S k) j) r=true:=h;rw[zut hs hk] at h
 by_cases hj:j=k
 · subst hj
   rw[if_pos rfl,zpv (by rw[zbd hs hk,zle hg hs]),Bool.or_eq_true] at h
   rcases h with h|h
   · exact hl M hM j r h
   · exact hM j r hk (NowP.mono (hl M hM) ((zvf hg hs).1 h))
 · rw [if_neg hj] at h
   exact hl M hM j r h
def Sat (g:Gr)(S:List (List W64))(k:Nat):Prop:=orW (rowS S k) (nowB g S k)=rowS S k
structure LiveOK (g:Gr)(S:List (List W64)):Prop extends ShS g S where
 fix:FixG g (bitS S)
 low:LowS g S
theorem LiveOK.mk' {g:Gr}(hg:GrOK g){S:List (List W64)}(hs:ShS g S)(hl:LowS g S)(h:∀k,k≤g.ins.l.length→Sat g S k):LiveOK g S:=
 ⟨hs,fun k r hk hn=>by
  have h1:=(zvf hg hs).2 hn;have h2:=h k hk;show bitW (rowS S k) r=true;rw[← h2,zpv (by rw[zbd hs hk,zle hg hs]),h1,Bool.or_true],hl⟩
def muW (ws:List W64):Nat:=(ws.map fun w=>2 ^ 64 - w.toNat).sum
def muS (S:List (List W64)):Nat:=(S.map muW).sum
theorem ygj:∀{a b:List W64},a.length=b.length→muW (orW a b)≤muW a∧(orW a b≠a→muW (orW a b)<muW a)
 | [],[],_=>⟨Nat.le_refl _,fun h=>absurd rfl h⟩
 | x :: a, y :: b, h => by
   have hi:=@ygj a b (by simpa using h)
   have hx:=x.isLt;have h1:x.toNat≤(x ||| y).toNat:=by rw[BitVec.toNat_or];exact Nat.left_le_or
   have h2:=(x ||| y).isLt
   have e1:muW (orW (x::a) (y::b))=(2 ^ 64 - (x ||| y).toNat)+muW (orW a b):=by simp[muW,orW]
   have e2:muW (x::a)=(2 ^ 64 - x.toNat)+muW a:=by simp[muW]
   rw[e1,e2];refine⟨by omega,fun hne=>?_⟩
   by_cases hxy:x ||| y=x
   · have : orW a b ≠ a := fun e => hne (by show (x ||| y) :: orW a b = x :: a; rw [hxy, e])
     have:=hi.2 this;rw[hxy];omega
   · have : (x ||| y).toNat ≠ x.toNat := fun e => hxy (BitVec.eq_of_toNat_eq e)
     omega
theorem zyo:∀{l:List Nat} {k v:Nat} (h:k<l.length),(l.set k v).sum+l[k]=l.sum+v
 | x::l,0,v,_=>by simp;omega
 | x :: l, k + 1, v, h => by
   have:=@zyo l k v (by simpa using h)
   simp only[List.set_cons_succ,List.sum_cons,List.getElem_cons_succ];omega
theorem zvh {g:Gr}(hg:GrOK g){S:List (List W64)}(hs:ShS g S){k:Nat}(hk:k≤g.ins.l.length):muS (zdp g S k)≤muS S∧(¬Sat g S k→muS (zdp g S k)<muS S):=by
 have hlt:k<S.length:=by rw[hs.len];omega
 have hlt':k<(S.map muW).length:=by simpa using hlt
 have h1:=@ygj (rowS S k) (nowB g S k) (by rw[zbd hs hk,zle hg hs])
 have h2:=zyo (v:=muW (orW (rowS S k) (nowB g S k))) hlt';have h3:muS (zdp g S k)=((S.map muW).set k (muW (orW (rowS S k) (nowB g S k)))).sum:=by simp[muS,zdp,List.map_set]
 have h4:(S.map muW)[k]=muW (rowS S k):=by simp[rowS,List.getD,hlt]
 rw[h4] at h2;rw[h3];unfold muS;exact⟨by omega,fun hn=>by have:=h1.2 hn;omega⟩
theorem zt9 {g:Gr}{S:List (List W64)}(hs:ShS g S){k:Nat}(hk:k≤g.ins.l.length)(h:Sat g S k):zdp g S k=S:=by
 have hlt:k<S.length:=by rw[hs.len];omega
 unfold zdp;rw[h];simp[rowS,List.getD,hlt]
theorem FixG.congr {g g':Gr}(hl:g'.ins.l.length=g.ins.l.length)(hn:∀M k r,NowP g' M k r↔NowP g M k r){M:Nat→Nat→Prop}:FixG g' M↔FixG g M:=
 ⟨fun h k r hk hN=>h k r (by omega) ((hn M k r).2 hN),fun h k r hk hN=>h k r (by omega) ((hn M k r).1 hN)⟩
theorem LiveOK.uniq {g g':Gr}(hl:g'.ins.l.length=g.ins.l.length)(hn:∀M k r,NowP g' M k r↔NowP g M k r){S S':List (List W64)}(h:LiveOK g S)(h':LiveOK g' S')(k r:Nat):bitW (rowS S k) r=bitW (rowS S' k) r:=by
 have h1:bitS S k r→bitS S' k r:=h.low _ ((FixG.congr hl hn).1 h'.fix) k r;have h2:bitS S' k r→bitS S k r:=h'.low _ ((FixG.congr hl hn).2 h.fix) k r;cases e:bitW (rowS S k) r with
 | true=>exact(h1 e).symm
 | false =>
   cases e':bitW (rowS S' k) r with
   | false=>rfl
   | true=>rw[show bitW (rowS S k) r=true from h2 e'] at e;cases e
theorem LiveOK.last {g:Gr}{S:List (List W64)}(h:LiveOK g S)(he:g.entries.l=[])(r:Nat):bitW (rowS S g.ins.l.length) r=false:=by
 cases e:bitW (rowS S g.ins.l.length) r with
 | false=>rfl
 | true =>
   have := h.low (fun k _ => k ≠ g.ins.l.length) (fun k r hk hn hk'=>by
    subst hk';rcases hn with⟨hlt,_⟩|⟨t,ht,_⟩
    · omega
    · unfold zas at ht
      rw[dif_neg (by omega),he] at ht
      cases ht) _ _ e
   exact absurd rfl this
end Go.Ago
section
namespace Go.Ago
open Go.Proofs
attribute [local irreducible] ltI leI eqI eqS shrI wr inB mmI comp DC DP DW DV
def za3 (ws:List W64)(n:Nat):List Int:=((List.range n).filter (bitW ws)).map (fun k:Nat=>(k:Int))
theorem listW_0 {ws}:za3 ws 0=[]:=rfl
theorem yaa {ws n}(h:bitW ws n=true):za3 ws (n+1)=za3 ws n++[(n:Int)]:=by simp[za3,List.range_succ,h]
theorem yab {ws n}(h:bitW ws n=false):za3 ws (n+1)=za3 ws n:=by simp[za3,List.range_succ,h]
theorem zep {ws n}:(za3 ws n).length≤n:=by
 have:=List.length_filter_le (bitW ws) (List.range n)
 simpa[za3] using this
theorem zav {α:Type}{f:α→List AV}{ρ:Nat→Nat}{sz:Nat}(hf:∀x,(f x).map (AV.r1 ρ)=f x){y:α}{acc:List α}:AObj.arr sz (f y::acc.map f)=AObj.ren ρ (.arr sz (f y::acc.map f)):=by
 simp only[AObj.ren,List.map_cons,List.map_map,Function.comp_def,hf]
abbrev ic (n:Int):List AV:=[i64 n]
attribute [local irreducible] zcs bitW za3
theorem yeg (ws:BL W64)(n:Int)(h:0≤n∧n≤64 * ws.l.length∧n≤1000000):DPR 39 [zek ws.l,i64 n] (fun ae=>∃l:List Int,ae = .ret (bif l.isEmpty then .nils else .rsl 1 (l.map ic))∧l=za3 ws.l n.toNat):=by
 refine zaf eRg zae Tryz.func39 rfl (by decide) rfl rfl ?_
 have hl:=ws.h
 conv=>whnf
 refine zai eRg zae [0,4,7] [] 2000 (fun i:{i:Nat×List Int // i.2=za3 ws.l i.1∧(i.1:Int)≤n}=>[(8,i64 i.1.1),(5,accV 1000 1 (i.1.2.map ic))]) (fun i=>accH 1000 1 (i.1.2.map ic)) [(1000,.slot 5)] (fun i=>n.toNat+1 - i.1.1) (⟨(0,[]),listW_0.symm,by show(0:Int)≤n;omega⟩) ?_
 conv=>whnf
 refine⟨?_,fun i=>?_⟩
 · conv => whnf
   (repeat' first|exact True.intro|rfl|apply And.intro )
 rcases i with⟨⟨i,_|⟨y,acc⟩⟩,hi,hin⟩
 · dsimp only at hi hin
   have i_len:([]:List Int).length≤i:=by rw[hi];exact zep
   conv=>whnf
   repeat' ((first|refine Br.f (b:=Nat.beq _ _) rfl ?_|refine Rq.mk (by(rfl )) ?_|refine Br.split (fun h=>?_) (fun h=>?_)<;>(try simp only[bz] at h)|refine zag (fun h=>?_) (fun h=>?_)<;>(try simp only[bz] at h)|(refine zaa rfl (yau ws (i:Int) ⟨by omega,by omega⟩) ?_;rintro _ rfl))<;>conv=>whnf)
   all_goals first
    | exact⟨[],rfl,by rw[hi];congr 1;omega⟩
    | (refine⟨⟨(i+1,[(i:Int)]),(by rw[yaa (by exact h ),← hi];rfl),(by omega)⟩,(by(conv=>whnf);(repeat' first|exact True.intro|exact zat (by rfl) (by rfl) (by simp) (by rfl)|exact zaj (f:=ic) (fun _=>by rfl)|rfl|apply And.intro|(refine cw ?_ ?_ ?_<;>(try dsimp only)<;>omega) )),rfl,(by(try simp only[List.length_map] at *)<;>omega)⟩)
    | (refine⟨⟨(i+1,[]),(by rw[yab (by exact h ),← hi]),(by omega)⟩,(by(conv=>whnf);(repeat' first|exact True.intro|rfl|apply And.intro|(refine cw ?_ ?_ ?_<;>(try dsimp only)<;>omega) )),rfl,(by(try simp only[List.length_map] at *)<;>omega)⟩)
    | skip
 · dsimp only at hi hin
   have i_len:(y::acc).length≤i:=by rw[hi];exact zep
   conv=>whnf
   repeat' ((first|refine Br.f (b:=Nat.beq _ _) rfl ?_|refine Rq.mk (zcg 8 1000000 (by simp) rfl rfl (by have:=i_len;simp only[List.length_cons,List.length_map] at this ⊢;omega) (by decide)) ?_|refine Rq.mk (by(rfl )) ?_|refine Br.split (fun h=>?_) (fun h=>?_)<;>(try simp only[bz] at h)|refine zag (fun h=>?_) (fun h=>?_)<;>(try simp only[bz] at h)|(refine zaa rfl (yau ws (i:Int) ⟨by omega,by omega⟩) ?_;rintro _ rfl))<;>conv=>whnf)
   all_goals first
    | (refine⟨⟨(i+1,y::(acc++[(i:Int)])),(by rw[yaa (by exact h ),← hi];rfl),(by omega)⟩,(by(conv=>whnf);(repeat' first|exact True.intro|exact zat (by rfl) (by rfl) (by simp) (by rfl)|exact za4 (by rfl) (za7 (f:=ic) (fun _=>by rfl) (by rfl) (by simp))|exact zaj (f:=ic) (fun _=>by rfl)|rfl|apply And.intro|(refine cw ?_ ?_ ?_<;>(try dsimp only)<;>omega) )),rfl,(by(try simp only[List.length_map] at *)<;>omega)⟩)
    | (refine⟨⟨(i+1,y::acc),(by rw[yab (by exact h ),← hi]),(by omega)⟩,(by(conv=>whnf);(repeat' first|exact True.intro|exact zat (by rfl) (by rfl) (by simp) (by rfl)|exact zav (f:=ic) (fun _=>by rfl)|exact zaj (f:=ic) (fun _=>by rfl)|rfl|apply And.intro|(refine cw ?_ ?_ ?_<;>(try dsimp only)<;>omega) )),rfl,(by(try simp only[List.length_map] at *)<;>omega)⟩)
    | (erw [zin (f := ic) (fun _ => by rfl) (by rfl)]; conv => whnf
       exact⟨y::acc,rfl,by rw[hi];congr 1;omega⟩)
    | skip
theorem yeh (ws:BL W64)(n:Int)(h:0≤n∧n≤64 * ws.l.length∧n≤1000000):DPR 39 [zek ws.l,i64 n] (fun ae=>ae = .ret (zaq (za3 ws.l n.toNat))):=by
 refine(znb (f:=ic) (sz:=1) (p:=fun l=>l=za3 ws.l n.toNat) (yeg ws n h)).mono ?_
 rintro _ ⟨_,rfl,rfl⟩;rfl
end Go.Ago
end
