/-
  Part 31: lemmas, each with its own conditions.
-/
import Derived.Test.YthaolifcglpkdaaGreatDoorA30
set_option maxRecDepth 100000
set_option maxHeartbeats 0
set_option linter.all false
namespace Go.Ago
open Go.Proofs
attribute [local irreducible] ltI leI eqI eqS shrI wr inB mmI comp DC DP DW DV DY
theorem ynn {d:Nat}{l:List (List AV)}{n:Int}(hl:∀x∈l,StD d x)(h:n.toNat<l.length):∃(kind no:Int) (r e:BL (List AV)) (n1 p1 cc:Int) (f:BL Fm) (skip:Int) (size range:Bool),
 l[n.toNat]? = some [i64 kind,i64 no,.rsl 11 r.l,.rsl 11 e.l,i64 n1,i64 p1,i64 cc,zrd f.l,i64 skip,.bool size,.bool range]∧StD d [i64 kind,i64 no,.rsl 11 r.l,.rsl 11 e.l,i64 n1,i64 p1,i64 cc,zrd f.l,i64 skip,.bool size,.bool range]:=by
 have hm:=hl _ (List.getElem_mem h);obtain⟨kind,no,r,e,n1,p1,cc,f,skip,size,range,hcs,hr,he⟩:=id hm;exact⟨kind,no,r,e,n1,p1,cc,f,skip,size,range,by rw[List.getElem?_eq_getElem h,hcs],hcs ▸ hm⟩
theorem yfb (p:Prg):DPR 128 [.rptr p.cells] (retU (zd1 p.procs.l∧1≤p.procs.l.length∧p.procs.l.length≤64)):=by
 refine zaf eRg zae Tryz.func128 rfl (by decide) rfl rfl ?_
 have hl:=p.procs.h
 conv=>whnf
 repeat' ((first|refine Br.split (fun h=>?_) (fun h=>?_)<;>(try simp only[bz] at h)|refine zag (fun h=>?_) (fun h=>?_)<;>(try simp only[bz] at h)|(refine zaa rfl (ze3 _) ?_;rintro _ rfl)|(refine zaa rfl (ze4 _) ?_;rintro _ rfl)|(refine zaa rfl (zcz _ _ _) ?_;rintro _ ⟨b1,rfl,hb1⟩)|(refine zaa rfl (zp9 p) ?_;rintro _ ⟨n8,rfl,-⟩)|(refine zaa rfl (yji p) ?_;rintro _ (⟨rfl,hF⟩|⟨e9,rfl,he9⟩))|(refine zaa rfl (yif p) ?_;rintro _ (⟨rfl,hP⟩|⟨e9,rfl,he9⟩)))<;>conv=>whnf)
 all_goals first|exact .inr ⟨_,rfl,by decide⟩|exact .inr ⟨_,rfl,by assumption⟩|skip
 all_goals
  refine zai eRg zae [0,21,22] [] 0 (fun i:Nat=>[(23,i64 i)]) (fun _=>[]) [] (fun i=>p.procs.l.length+1 - i) (0) ?_
  conv=>whnf
  refine⟨?_,fun i=>?_⟩
  · conv => whnf
    (repeat' first|exact True.intro|rfl|apply And.intro )
  conv=>whnf
  repeat' ((first|refine Rq.mk (by(first|rfl|((try simp only[rz]);omega))) ?_|refine Br.split (fun h=>?_) (fun h=>?_)<;>(try simp only[bz] at h)|refine Ok3.mk _ (zam (by omega)) ?_|(refine zaa rfl (yqn p hP hF.2 _ ⟨by omega,by omega⟩) ?_;rintro _ ⟨c,rfl,hc⟩))<;>conv=>whnf)
  all_goals first|exact .inl ⟨rfl,hP,hF⟩|skip
  have hbl:=(p.procs.l[i]'(by omega)).body.h
  refine zai eRg zae [0,1,2,3,21,22,23,24,25,26,27,28,29,30,31,32,33] [] 0 (fun j:Nat=>[(34,i64 j)]) (fun _=>[]) [] (fun j=>(p.procs.l[i]'(by omega)).body.l.length+1 - j) (0) ?_
  conv=>whnf
  refine⟨?_,fun j=>?_⟩
  · conv => whnf
    (repeat' first|exact True.intro|rfl|apply And.intro )
  conv=>whnf
  repeat' ((first|refine Rq.mk (by(first|rfl|((try simp only[rz]);omega))) ?_|refine Br.split (fun h=>?_) (fun h=>?_)<;>(try simp only[bz] at h)|(refine zaa rfl (ym1 c _ hE) ?_;rintro _ (⟨rfl,-⟩|⟨e9,rfl,he9⟩))|(obtain⟨kind,no,r,e,n1,p1,cc,f,skip,size,range,hq,hE⟩:=ynn (p.procs.l[i]'(by omega)).hb (n:=(j:Int)) (by omega);refine Ok3.mk _ hq ?_;clear hq))<;>conv=>whnf)
  all_goals first|exact .inr ⟨_,rfl,by assumption⟩|(refine⟨j+1,?_,rfl,?_⟩<;>first|((conv=>whnf);(repeat' first|exact True.intro|rfl|apply And.intro|(refine cw ?_ ?_ ?_<;>(try dsimp only)<;>omega) );done)|((try simp only[List.length_map] at *)<;>omega))|(refine⟨i+1,?_,rfl,?_⟩<;>first|((conv=>whnf);(repeat' first|exact True.intro|rfl|apply And.intro|(refine cw ?_ ?_ ?_<;>(try dsimp only)<;>omega) );done)|((try simp only[List.length_map] at *)<;>omega))
theorem yj1 (p:Prg):DPR 95 [p.av] (retI fun e=>e=0→zd1 p.procs.l∧1≤p.procs.l.length∧p.procs.l.length≤64):=by
 refine zaf eRg zae Tryz.func95 rfl (by decide) rfl rfl ?_
 conv=>whnf
 repeat' first
  | (refine DC.flat rfl (yfc (yfb p)) ?_;rintro _ ⟨e,rfl,he⟩<;>refine⟨rfl,?_⟩<;>conv=>whnf)
 all_goals exact⟨_,rfl,he⟩
end Go.Ago
namespace Go.Ago
open Go.Proofs
theorem ztt (p:Prg):DPR 95 [p.av] (retI fun e=>e=0→zd1 p.procs.l∧1≤p.procs.l.length∧p.procs.l.length≤64):=yj1 p
noncomputable def ckP (p:Prg):Int:=Classical.choose (ze7 (ztt p))
theorem zwa (p:Prg):ckP p=0→zd1 p.procs.l∧1≤p.procs.l.length∧p.procs.l.length≤64:=(Classical.choose_spec (ze7 (ztt p))).1
theorem ztv (p:Prg):DPR 95 [p.av] (fun ae=>ae = .ret (i64 (ckP p))):=(Classical.choose_spec (ze7 (ztt p))).2
end Go.Ago
namespace Go.Ago
open Go.Proofs
attribute [local irreducible] ltI leI eqI eqS shrI wr inB mmI comp DC DP DW DV
attribute [local irreducible] ckP ct
theorem Up_d (p:Prg)(a b:Int):DPR 198 [p.av,i64 a,i64 b] (fun ae=>∃(n:Int) (x:Bool) (e:Int),ae = .ret (.tup [i64 n,.bool x,i64 e])∧(x=true→0≤b∧b<p.procs.l.length)):=by
 refine zaf eRg zae Tryz.func198 rfl (by decide) rfl rfl ?_
 have hl:=p.procs.h;have hl3:=p.files.h;have hl4:=p.ctl.h;have hl5:=p.conds.h
 conv=>whnf
 repeat' ((first|refine Br.split (fun h=>?_) (fun h=>?_)<;>(try simp only[bz] at h)|(refine zaa rfl (ztv _) ?_;rintro _ rfl)|(refine zaa rfl (zj7 _ _ (by simp only[List.length_map];omega)) ?_;rintro _ (⟨rfl,hb1⟩|⟨rfl,hb1⟩)<;>simp only[List.length_map] at hb1)|(refine zaa rfl (up_d p (zwa p (by assumption)).1 _ _ (by omega)) ?_;rintro _ ⟨n1,rfl,hn1⟩))<;>conv=>whnf)
 all_goals first|exact⟨_,_,_,rfl,fun _=>hb1⟩|exact⟨_,_,_,rfl,fun h=>by cases h⟩
theorem ypi (p:Prg)(a b:Int):DPR 199 [p.av,i64 a,i64 b] (fun ae=>∃(x:Bool) (e:Int),ae = .ret (.tup [.bool x,i64 e])∧(x=true→1≤b∧b<p.procs.l.length)):=by
 refine zaf eRg zae Tryz.func199 rfl (by decide) rfl rfl ?_
 have hl:=p.procs.h;have hl3:=p.files.h;have hl4:=p.ctl.h;have hl5:=p.conds.h
 conv=>whnf
 repeat' ((first|refine Br.split (fun h=>?_) (fun h=>?_)<;>(try simp only[bz] at h)|(refine zaa rfl (ztv _) ?_;rintro _ rfl)|(refine zaa rfl (zj7 _ _ (by simp only[List.length_map];omega)) ?_;rintro _ (⟨rfl,hb1⟩|⟨rfl,hb1⟩)<;>simp only[List.length_map] at hb1)|(refine zaa rfl (yga p (zwa p (by assumption)).1 _ _ (by omega)) ?_;rintro _ (⟨rfl,hb3⟩|rfl)))<;>conv=>whnf)
 all_goals first|exact⟨_,_,rfl,fun _=>hb3⟩|exact⟨_,_,rfl,fun h=>by cases h⟩
theorem yfo (k:Kc)(b:Int):DPR 153 [k.av,i64 b] (fun ae=>∃(n:Int) (x:Bool),ae = .ret (.tup [i64 n,.bool x])∧(x=true→0≤b∧b<k.c.p.procs.l.length)):=by
 refine zaf eRg zae Tryz.func153 rfl (by decide) rfl rfl ?_
 conv=>whnf
 repeat' ((first|refine Br.split (fun h=>?_) (fun h=>?_)<;>(try simp only[bz] at h)|refine zag (fun h=>?_) (fun h=>?_)<;>(try simp only[bz] at h)|(refine zaa rfl (Up_d k.c.p _ _) ?_;rintro _ ⟨n1,x1,e1,rfl,hb1⟩))<;>conv=>whnf)
 all_goals exact⟨_,_,rfl,by first|(intro h;cases h;done)|(intro _;exact hb1 (by assumption)) ⟩
theorem zy6 (k:Kc)(b:Int):DPR 154 [k.av,i64 b] (fun ae=>(ae = .ret (.bool true)∧1≤b∧b<k.c.p.procs.l.length)∨ae = .ret (.bool false)):=by
 refine zaf eRg zae Tryz.func154 rfl (by decide) rfl rfl ?_
 conv=>whnf
 repeat' ((first|refine Br.split (fun h=>?_) (fun h=>?_)<;>(try simp only[bz] at h)|refine zag (fun h=>?_) (fun h=>?_)<;>(try simp only[bz] at h)|(refine zaa rfl (ypi k.c.p _ _) ?_;rintro _ ⟨x1,e1,rfl,hb1⟩))<;>conv=>whnf)
 all_goals first|exact .inr rfl|exact .inl ⟨rfl,hb1 (by assumption)⟩
theorem zzu (k:Kc)(hr:0≤zc8 k∧zc8 k≤4000)(r:Int)(x:Bool):DPR 155 [k.av,i64 r,.bool x] (retB fun b=>b=true→r = -1∨InR k r):=by
 refine zaf eRg zae Tryz.func155 rfl (by decide) rfl rfl ?_
 conv=>whnf
 repeat' ((first|refine Br.split (fun h=>?_) (fun h=>?_)<;>(try simp only[bz] at h)|refine zag (fun h=>?_) (fun h=>?_)<;>(try simp only[bz] at h)|(refine zaa rfl (zjt k hr _) ?_;rintro _ (⟨rfl,hb1⟩|⟨rfl,hb1⟩)))<;>conv=>whnf)
 all_goals exact⟨_,rfl,by first|(intro h;cases h;done)|(intro _;exact .inr hb1)|(intro _;exact .inl (by omega))⟩
theorem ydt (l:BL Int)(v:Int):DPR 47 [zaq l.l,i64 v] (retI fun n=>True):=by
 refine zaf eRg zae Tryz.func47 rfl (by decide) rfl rfl ?_
 have hs:=l.h
 conv=>whnf
 refine zai eRg zae [0,1,4,7] [] 0 (fun i:Nat=>[(8,i64 i)]) (fun _=>[]) [] (fun i=>l.l.length+1 - i) (0) ?_
 conv=>whnf
 refine⟨?_,fun i=>?_⟩
 · conv => whnf
   (repeat' first|exact True.intro|rfl|apply And.intro )
 conv=>whnf
 repeat' ((first|refine Rq.mk (by(first|rfl|((try simp only[rz]);omega))) ?_|refine Br.split (fun h=>?_) (fun h=>?_)<;>(try simp only[bz] at h)|refine Ok3.mk _ (zam (by omega)) ?_)<;>conv=>whnf)
 all_goals first|exact⟨_,rfl,trivial⟩|(refine⟨i+1,(by(conv=>whnf);(repeat' first|exact True.intro|rfl|apply And.intro|(refine cw ?_ ?_ ?_<;>(try dsimp only)<;>omega) )),rfl,(by(try simp only[List.length_map] at *)<;>omega)⟩)
theorem zs0 (l:BL Int)(v:Int):DPR 12 [zaq l.l,i64 v] (retB fun _=>True):=by
 refine zaf eRg zae Tryz.func12 rfl (by decide) rfl rfl ?_
 conv=>whnf
 repeat' ((first|refine Br.split (fun h=>?_) (fun h=>?_)<;>(try simp only[bz] at h)|(refine zaa rfl (ydt l _) ?_;rintro _ ⟨n1,rfl,hn1⟩))<;>conv=>whnf)
 all_goals exact⟨_,rfl,trivial⟩
theorem zi5 (p:Prg)(n:Int)(l:BL Int):DPR 148 [p.av,i64 n,zaq l.l] (retB fun _=>True):=by
 refine zaf eRg zae Tryz.func148 rfl (by decide) rfl rfl ?_
 have hl:=p.procs.h;have hl3:=p.files.h;have hl4:=p.ctl.h;have hl5:=p.conds.h;have hw:wr .i64 (((p.files.l.map Fl.cells).length:Int) - 1)=(p.files.l.length:Int) - 1:=by rw[List.length_map];exact wr64 (by omega) (by omega)
 conv=>whnf
 repeat' ((first|refine Rq.mk (by(first|rfl|((try simp only[rz]);omega))) ?_|refine zag (fun h=>?_) (fun h=>?_)<;>(try simp only[bz] at h)|refine Ok3.mk _ (za2 (by omega)) ?_|(refine zaa rfl (in_e _ _ _) ?_;rintro _ (⟨rfl,hb1⟩|⟨rfl,hb1⟩))|(refine zaa rfl (zs0 l _) ?_;rintro _ ⟨b2,rfl,hb2⟩))<;>conv=>whnf)
 all_goals exact⟨_,rfl,trivial⟩
theorem ztb (p:Prg)(c n:Int):DPR 156 [p.av,i64 c,i64 n] (retB fun _=>True):=by
 refine zaf eRg zae Tryz.func156 rfl (by decide) rfl rfl ?_
 have hl:=p.procs.h;have hl3:=p.files.h;have hl4:=p.ctl.h;have hl5:=p.conds.h
 conv=>whnf
 repeat' ((first|refine Br.split (fun h=>?_) (fun h=>?_)<;>(try simp only[bz] at h)|refine zag (fun h=>?_) (fun h=>?_)<;>(try simp only[bz] at h)|(refine zaa rfl (in_d _ _ _) ?_;rintro _ ⟨b1,rfl,hb1⟩)|(refine DC.flat rfl (zi5 p _ ⟨[1,3],by(show 2<_;decide)⟩) ?_;rintro _ ⟨b2,rfl,hb2⟩<;>refine⟨rfl,?_⟩)|(refine DC.flat rfl (zi5 p _ ⟨[3],by(show 1<_;decide)⟩) ?_;rintro _ ⟨b2,rfl,hb2⟩<;>refine⟨rfl,?_⟩))<;>conv=>whnf)
 all_goals exact⟨_,rfl,trivial⟩
theorem zwm (op n:Int)(l:BL Ty):DPR 106 [i64 op,i64 n,zjn l.l] (fun ae=>∃(t:Ty) (e:Int),ae = .ret (.tup [t.av,i64 e])):=by
 refine zaf eRg zae Tryz.func106 rfl (by decide) rfl rfl ?_
 conv=>whnf
 repeat' ((first|refine zag (fun h=>?_) (fun h=>?_)<;>(try simp only[bz] at h)|(refine zaa rfl (zrx _ _ l) ?_;rintro _ ⟨t,b,rfl⟩))<;>conv=>whnf)
 all_goals first|exact⟨t,_,rfl⟩|exact⟨⟨0,0,0,false,[],by decide⟩,_,rfl⟩
theorem zj0 (t:Ty)(op:Int)(l:BL Ty):DPR 104 [t.av,i64 op,zjn l.l] (retB fun _=>True):=by
 refine zaf eRg zae Tryz.func104 rfl (by decide) rfl rfl ?_
 conv=>whnf
 repeat' ((first|refine Br.split (fun h=>?_) (fun h=>?_)<;>(try simp only[bz] at h)|refine zag (fun h=>?_) (fun h=>?_)<;>(try simp only[bz] at h)|(refine zaa rfl (zwm _ _ l) ?_;rintro _ ⟨t1,e,rfl⟩))<;>conv=>whnf)
 all_goals exact⟨_,rfl,trivial⟩
theorem yo8 (k:Kc)(i:Ins):DPR 103 [k.av,i.av] (retB fun _=>True):=by
 refine zaf eRg zae Tryz.func103 rfl (by decide) rfl rfl ?_
 have hl:=k.c.p.procs.h;have hl2:=k.c.b.h;have hl3:=k.c.p.files.h;have hl4:=k.c.p.ctl.h;have hl5:=k.c.p.conds.h;have hpr:=k.hproc;have hle:=k.hlen
 conv=>whnf
 repeat' ((first|refine Rq.mk (by(first|rfl|((try simp only[rz]);omega))) ?_|refine Br.split (fun h=>?_) (fun h=>?_)<;>(try simp only[bz] at h)<;>try (exfalso;omega)|refine zag (fun h=>?_) (fun h=>?_)<;>(try simp only[bz] at h)|refine Ok3.mk _ (za2 (by omega)) ?_|(refine zaa rfl (zzx k _) ?_;rintro _ ⟨p1,b1,rfl,hp1,hp2⟩)|(refine zaa rfl (in_d _ _ _) ?_;rintro _ ⟨b2,rfl,hb2⟩)|(refine zar rfl (in_d _ _ _) ?_;rintro _ ⟨b2,rfl,hb2⟩<;>refine⟨_,rfl,?_⟩)|refine And.intro (a:=zaw _=true) (by kernel_rfl) (LzK.e ?_))<;>conv=>whnf)
 all_goals exact⟨_,rfl,trivial⟩
theorem zta (l:BL Fm):DPR 147 [zrd l.l] (fun ae=>∃a b:Bool,ae = .ret (.tup [.bool a,.bool b])):=by
 refine zaf eRg zae Tryz.func147 rfl (by decide) rfl rfl ?_
 have hs:=l.h
 conv=>whnf
 refine zai eRg zae [0,2,7,8] [] 0 (fun i:Nat×Bool=>[(9,i64 i.1),(3,.bool i.2)]) (fun _=>[]) [] (fun i=>l.l.length+1 - i.1) (⟨0,false⟩) ?_
 conv=>whnf
 refine⟨?_,fun i=>?_⟩
 · conv => whnf
   (repeat' first|exact True.intro|rfl|apply And.intro )
 conv=>whnf
 repeat' ((first|refine Rq.mk (by(first|rfl|((try simp only[rz]);omega))) ?_|refine Br.split (fun h=>?_) (fun h=>?_)<;>(try simp only[bz] at h)<;>try (exfalso;omega)|refine zag (fun h=>?_) (fun h=>?_)<;>(try simp only[bz] at h)|refine Ok3.mk _ (zam (by omega)) ?_|(refine zaa rfl (in_d _ _ _) ?_;rintro _ ⟨b1,rfl,hb1⟩)|(refine zaa rfl (zcy ⟨5,0,0,false,_,l.l[i.1].pic.h⟩) ?_;rintro _ rfl))<;>conv=>whnf)
 all_goals first|exact⟨_,_,rfl⟩|(refine⟨(i.1+1,_),(by(conv=>whnf);(repeat' first|exact True.intro|rfl|apply And.intro|(refine cw ?_ ?_ ?_<;>(try dsimp only)<;>omega) )),rfl,(by(try simp only[List.length_map] at *)<;>omega)⟩)
theorem yhq (t:Ty):DPR 150 [t.av] (retB fun _=>True):=by
 refine zaf eRg zae Tryz.func150 rfl (by decide) rfl rfl ?_
 conv=>whnf
 repeat' ((first|refine zag (fun h=>?_) (fun h=>?_)<;>(try simp only[bz] at h)|(refine zaa rfl (zs4 _) ?_;rintro _ ⟨b1,rfl,hb1⟩))<;>conv=>whnf)
 all_goals exact⟨_,rfl,trivial⟩
theorem zyk (l:BL Ty):DPR 197 [zjn l.l,.fn (.func 150) [] []] (retI fun _=>True):=by
 refine zaf eRg zae Tryz.func197 rfl (by decide) rfl rfl ?_
 have hs:=l.h
 conv=>whnf
 refine zai eRg zae [0,1,4,7] [] 0 (fun i:Nat=>[(8,i64 i)]) (fun _=>[]) [] (fun i=>l.l.length+1 - i) (0) ?_
 conv=>whnf
 refine⟨?_,fun i=>?_⟩
 · conv => whnf
   (repeat' first|exact True.intro|rfl|apply And.intro )
 conv=>whnf
 repeat' ((first|refine Rq.mk (by(first|rfl|((try simp only[rz]);omega))) ?_|refine Br.split (fun h=>?_) (fun h=>?_)<;>(try simp only[bz] at h)|refine zag (fun h=>?_) (fun h=>?_)<;>(try simp only[bz] at h)|refine Ok3.mk _ (zam (by omega)) ?_|(refine zaa rfl (yhq _) ?_;rintro _ ⟨b1,rfl,hb1⟩))<;>conv=>whnf)
 all_goals first|exact⟨_,rfl,trivial⟩|(refine⟨i+1,(by(conv=>whnf);(repeat' first|exact True.intro|rfl|apply And.intro|(refine cw ?_ ?_ ?_<;>(try dsimp only)<;>omega) )),rfl,(by(try simp only[List.length_map] at *)<;>omega)⟩)
theorem zyl (l:BL Ty):DPR 149 [zjn l.l,.fn (.func 150) [] []] (retB fun _=>True):=by
 refine zaf eRg zae Tryz.func149 rfl (by decide) rfl rfl ?_
 conv=>whnf
 repeat' ((first|refine Br.split (fun h=>?_) (fun h=>?_)<;>(try simp only[bz] at h)|(refine zaa rfl (zyk l) ?_;rintro _ ⟨n1,rfl,hn1⟩))<;>conv=>whnf)
 all_goals exact⟨_,rfl,trivial⟩
end Go.Ago
namespace Go.Ago
open Go.Proofs
attribute [local irreducible] ltI leI eqI eqS shrI wr inB mmI comp DC DP DW DV
attribute [local irreducible] ckP ct InR
def PLc (k:Kc)(p n:Int):Prop:=∃h:p.toNat<k.c.b.l.length,0≤n∧n≤((k.c.b.l[p.toNat]'h).ins.l.length:Int)
theorem zq8 (k:Kc)(p n:Int)(hp:0≤p∧p<k.c.b.l.length):DPR 151 [k.av,i64 p,i64 n] (retD (PLc k p n)):=by
 refine DP.dec ((yih k p n hp).mono ?_)
 rintro _ ⟨b,rfl,hb⟩
 exact⟨b,rfl,hb.trans ⟨fun h=>⟨by omega,h⟩,fun ⟨_,h⟩=>h⟩⟩
def zev (k:Kc)(i:Ins):Prop:=(i.op=14→PLc k k.proc i.n)∧(i.op=15→InR k i.a∧PLc k k.proc i.n)∧(i.op=16→(0≤i.p∧i.p<k.c.p.procs.l.length)∧PLc k i.p i.n)∧(i.op=17→i.d = -1∨InR k i.d)∧(i.op=18→i.a = -1∨InR k i.a)
def zeu (k:Kc)(i:Ins):Prop:=(i.op=22→InR k i.d∧(i.a = -1∨InR k i.a))∧(i.op=23→InR k i.a∧(i.b = -1∨InR k i.b))∧(i.op=26→InR k i.d)∧(i.op=28→InR k i.d∧PLc k k.proc i.m) ∧
 (i.op=29→InR k i.d∧(i.a = -1∨InR k i.a)∧PLc k k.proc i.m)∧(i.op=30→InR k i.a∧(i.b = -1∨InR k i.b))∧(i.op=31→InR k i.a∧InR k i.b)∧(i.op=32→InR k i.d∧InR k i.a∧InR k i.b)∧(i.op=33→InR k i.d∧InR k i.a∧InR k i.b) ∧
 (i.op=34→InR k i.d)∧(i.op=35→InR k i.d)∧(i.op=36→InR k i.d)
theorem ybh (k:Kc)(hr:0≤zc8 k∧zc8 k≤4000)(i:Ins)(a:Bool)(ha:a=true→InR k i.a):DPR 108 [k.av,i.av,.bool a] (retB fun x=>x=true→zev k i):=by
 refine zaf eRg zae Tryz.func108 rfl (by decide) rfl rfl ?_
 have hl:=k.c.p.procs.h;have hl2:=k.c.b.h;have hl3:=k.c.p.files.h;have hl4:=k.c.p.ctl.h;have hl5:=k.c.p.conds.h;have hpr:=k.hproc;have hle:=k.hlen;have hown:=k.hp k.proc.toNat (by omega) (by omega)
 conv=>whnf
 repeat' ((first|refine Rq.mk (b:=chk3 _ _ _ _ _ _) (by kernel_rfl) ?_|refine Rq.mk (by(first|rfl|((try simp only[rz]);omega ))) ?_|refine Br.split (fun h=>?_) (fun h=>?_)<;>(try simp only[bz] at h)|refine zag (fun h=>?_) (fun h=>?_)<;>(try simp only[bz] at h)|refine Ok3.mk _ (za2 (by omega )) ?_|(refine zaa rfl (zq8 k _ _ (by first|omega|(have:=hb2 (by assumption);omega))) ?_;rintro _ (⟨rfl,hb1⟩|⟨rfl,hb1⟩))|(refine zaa rfl (yfo k _) ?_;rintro _ ⟨n2,x2,rfl,hb2⟩)|(refine zaa rfl (zy6 k _) ?_;rintro _ (⟨rfl,hb3⟩|rfl))|(refine zar rfl (zy6 k _) ?_;rintro _ (⟨rfl,hb3⟩|rfl)<;>refine⟨_,rfl,?_⟩)|(refine zar rfl (zzu k hr _ _) ?_;rintro _ ⟨b4,rfl,hb4⟩<;>refine⟨_,rfl,?_⟩)|(refine zaa rfl (ztb k.c.p _ _) ?_;rintro _ ⟨b5,rfl,hb5⟩)|refine And.intro (a:=zaw _=true) (by kernel_rfl) (LzK.e ?_))<;>conv=>whnf)
 all_goals exact⟨_,rfl,by first|(intro h;cases h;done)|(intro _;unfold zev;(repeat' apply And.intro)<;>intro _<;>first|(exfalso;omega)|grind)⟩
end Go.Ago
namespace Go.Ago
open Go.Proofs
attribute [local irreducible] ltI leI eqI eqS shrI wr inB mmI comp DC DP DW DV
attribute [local irreducible] ckP ct InR PLc
theorem zyr (k:Kc)(hr:0≤zc8 k∧zc8 k≤4000)(i:Ins)(d a b:Bool)(hd:d=true→InR k i.d)(ha:a=true→InR k i.a)(hb:b=true→InR k i.b):DPR 107 [k.av,i.av,.bool d,.bool a,.bool b] (retB fun x=>x=true→zeu k i):=by
 refine zaf eRg zae Tryz.func107 rfl (by decide) rfl rfl ?_
 have hl:=k.c.p.procs.h;have hl2:=k.c.b.h;have hl3:=k.c.p.files.h;have hl4:=k.c.p.ctl.h;have hl5:=k.c.p.conds.h;have hpr:=k.hproc;have hle:=k.hlen
 conv=>whnf
 repeat' ((first|refine Rq.mk (by(rfl )) ?_|refine Br.split (fun h=>?_) (fun h=>?_)<;>(try simp only[bz] at h)|refine zag (fun h=>?_) (fun h=>?_)<;>(try simp only[bz] at h)|(refine zaa rfl (ypb k hr _ _) ?_;rintro _ ⟨b1,rfl,hb1⟩)|(refine zaa rfl (in_d _ _ _) ?_;rintro _ ⟨b2,rfl,hb2⟩)|(refine zaa rfl (zta i.f) ?_;rintro _ ⟨f1,f2,rfl⟩)|(refine DC.flat rfl (zi5 k.c.p _ ⟨[2],by(show 1<_;decide)⟩) ?_;rintro _ ⟨bf,rfl,hbf⟩<;>refine⟨rfl,?_⟩)|(refine DC.flat rfl (zi5 k.c.p _ ⟨[1],by(show 1<_;decide)⟩) ?_;rintro _ ⟨bf,rfl,hbf⟩<;>refine⟨rfl,?_⟩)|(refine DC.flat rfl (zi5 k.c.p _ ⟨[3],by(show 1<_;decide)⟩) ?_;rintro _ ⟨bf,rfl,hbf⟩<;>refine⟨rfl,?_⟩)|(refine zaa rfl (zyl i.y) ?_;rintro _ ⟨b3,rfl,hb3⟩)|(refine zaa rfl (zs4 _) ?_;rintro _ ⟨b4,rfl,hb4⟩)|(refine zaa rfl (yj2 _) ?_;rintro _ ⟨b5,rfl,hb5⟩)|(refine zaa rfl (zq8 k _ _ (by omega)) ?_;rintro _ (⟨rfl,hb6⟩|⟨rfl,hb6⟩)))<;>conv=>whnf)
 all_goals exact⟨_,rfl,by first|(intro h;cases h;done)|(intro _;unfold zeu;(repeat' apply And.intro)<;>intro _<;>first|(exfalso;omega)|grind)⟩
end Go.Ago
