/-
  Part 41: lemmas, each with its own conditions.
-/
import Derived.Test.YthaolifcglpkdaaGreatDoorA40
set_option maxRecDepth 100000
set_option maxHeartbeats 0
set_option linter.all false
namespace Go.Ago
open Go.Proofs
attribute [local irreducible] ltI leI eqI eqS shrI wr inB mmI comp DC DP DW DV
attribute [local irreducible] ckP ct InR PLc zev zeu zdo zcf ckC zb7 entN zbh za3 bitW EntP mapR NoneB plR zas zbn zbg zcs
abbrev bc (b:Bool):List AV:=[.bool b]
abbrev keyI (i:Ins):Int×Int×Int:=(i.op,i.p,i.n)
theorem zeh {ρ:Nat→Nat}{s:Nat}{l:List Bool}{es:List (List AV)}(h:es=l.map bc):AObj.arr s es=AObj.ren ρ (.arr s (l.map bc)):=by
 subst h;simp only[AObj.ren,List.map_map];congr 1
theorem zhx {n s:Nat}{l:List Bool}:AObj.lt n (.arr s (l.map bc)):=by show(List.all _ _)=true;simp[AV.l1,AV.la,AV.l0]
def InK (pl:List Int)(k r:Int):Prop:=0≤pl.getD r.toNat 0∧pl.getD r.toNat 0<k
structure MkS (g:Gr)(k:Int)(n:Nat)(mk:List Bool)(pl:List Int):Prop where
 ml:mk.length=k.toNat
 pl:pl.length=g.regs.toNat
 cnt:cntT mk≤n
theorem ybo:∀{l:List Bool},AllT l l.length→cntT l=l.length
 | [],_=>rfl
 | b :: l, h => by
   have h0:b=true:=h 0 (by simp) (by simp)
   have h1:=@ybo l fun j hj hl=>by have:=h (j+1) (by simp;omega) (by simp;omega);simpa using this
   subst h0;unfold cntT at h1 ⊢;rw[List.count_cons_self,h1,List.length_cons]
theorem ztf {g:Gr}{k:Int}{n:Nat}{mk:List Bool}{pl:List Int}(h:MkS g k n mk pl)(hn:(n:Int)<k){i:Int}(hi:FreeP mk i):0≤i∧i<k:=by
 have h1:=h.ml;rcases hi with⟨rfl,ha⟩|⟨h2,h3,_⟩
 · have:=ybo ha;have:=h.cnt;omega
 · omega
theorem yer {pl:List Int}{i j:Nat}{v:Int}(hi:i<pl.length):(pl.set i v).getD j 0=if j=i then v else pl.getD j 0:=by
 by_cases h:j=i
 · subst h;simp[List.getD,hi]
 · simp[List.getD,List.getElem?_set_ne (Ne.symm h),h]
theorem MkS.put {g:Gr}{k:Int}{n:Nat}{mk:List Bool}{pl:List Int}(h:MkS g k n mk pl){r i:Int}:MkS g k (n+1) (mk.set i.toNat true) (pl.set r.toNat i):=
 ⟨by rw[List.length_set,h.ml],by rw[List.length_set,h.pl],by have:=@zlm mk i.toNat;have:=h.cnt;omega⟩
theorem InK.put {pl:List Int}{k r i s:Int}(hr:r.toNat<pl.length)(hi:0≤i∧i<k)(hs:s.toNat≠r.toNat→InK pl k s):InK (pl.set r.toNat i) k s:=by
 unfold InK;rw[yer hr];split
 · exact hi
 · rename_i h;exact hs h
def InKs (pl:List Int)(k:Int)(L:List Int)(n:Nat):Prop:=∀r∈L.take n,InK pl k r
theorem InKs.step {pl:List Int}{k i:Int}{L:List Int}{n:Nat}(h:InKs pl k L n)(hn:n<L.length)(hr:L[n].toNat<pl.length)(hi:0≤i∧i<k):InKs (pl.set L[n].toNat i) k L (n+1):=fun s hs=>by
 refine InK.put hr hi fun hne=>?_
 rw[List.take_succ_eq_append_getElem hn] at hs;rcases List.mem_append.1 hs with hs|hs
 · exact h s hs
 · rw[List.mem_singleton.1 hs] at hne;exact absurd rfl hne
theorem zld {l:List Int}{r:Nat}{x:List AV}(h:r<l.length):((l.map ic).set (0+r) x)[0+r]? = some x:=by simp[h]
theorem zvv {pl:List Int}{r:Nat}{i:Int}:(pl.map ic).set (0+r) [i64 i]=(pl.set r i).map ic:=by rw[List.map_set,Nat.zero_add]
theorem zon {mk:List Bool}{r:Nat}{b:Bool}:(mk.map bc).set (0+r) [.bool b]=(mk.set r b).map bc:=by rw[List.map_set,Nat.zero_add]
def cnN (L:List Int)(d:Int)(j:Nat):Nat:=(L.take j).countP fun r=>decide (r≠d)
theorem ye9 {L:List Int}{d:Int}{j:Nat}(h:j<L.length):cnN L d (j+1)=cnN L d j+(if L[j]≠d then 1 else 0):=by
 unfold cnN;rw[List.take_succ_eq_append_getElem h,List.countP_append];simp[List.countP_cons]
theorem ygx {L:List Int}{d:Int}{j:Nat}(h:L.length≤j):cnN L d j=L.countP fun r=>decide (r≠d):=by
 unfold cnN;rw[List.take_of_length_le h]
theorem zv8 (p:Nat→Bool)(d:Nat):∀n,(List.range n).countP (fun x=>p x || decide (x=d))=(List.range n).countP (fun x=>p x && decide (x≠d))+(if d<n then 1 else 0)
 | 0=>by simp
 | n + 1 => by
   rw[List.range_succ,List.countP_append,List.countP_append,zv8 p d n];simp only[List.countP_cons,List.countP_nil,Bool.or_eq_true,Bool.and_eq_true,decide_eq_true_eq]
   by_cases h1:n=d
   · subst h1;simp
   · by_cases h2 : d < n
     · have : d < n + 1 := by omega
       cases hp:p n<;>simp[h1,h2,this]<;>omega
     · have : ¬ d < n + 1 := by omega
       cases hp:p n<;>simp[h1,h2,this]
theorem zqy {g:Gr}(hg:GrOK g){S:List (List W64)}(hS:LiveOK g S){m:Nat}(hm:m<g.ins.l.length)(hd:0≤zbg g.ins.l[m]) :
 ((za3 (rowS S (m+1)) g.regs.toNat).countP fun r=>decide (r≠zbg g.ins.l[m]))+1=(zjy g S m).length:=by
 have hs:=hg.sets _ (List.getElem_mem hm);have hge:=zef hg;have hrow:=zbd hS.toShS (k:=m+1) (by omega)
 rw[zpb hm hd];unfold za3;rw[List.length_map,List.countP_map,List.countP_filter,← List.countP_eq_length_filter];have e1:(List.range g.regs.toNat).countP (bitW (putW (rowS S (m+1)) (zbg g.ins.l[m]).toNat))=(List.range g.regs.toNat).countP (fun x=>bitW (rowS S (m+1)) x || decide (x=(zbg g.ins.l[m]).toNat)):=by
  refine List.countP_congr fun x hx=>?_
  rw[zf8 (by rw[hrow];omega)]
  simp only[Bool.or_eq_true,decide_eq_true_eq];exact⟨fun h=>h.elim (fun h => .inr (by omega)) .inl,fun h=>h.elim .inr (fun h => .inl (by omega))⟩
 rw[e1,zv8,if_pos (by omega)]
 congr 1
 refine List.countP_congr fun x hx=>?_
 simp only[Function.comp_apply,Bool.and_eq_true,decide_eq_true_eq,ne_eq];exact⟨fun h=>⟨h.2,by omega⟩,fun h=>⟨by omega,h.1⟩⟩
structure LnS (g:Gr)(S:List (List W64))(k:Int)(m:Nat)(mk:List Bool)(pl:List Int)(rows:List Ins):Prop where
 ml:mk.length=k.toNat
 pn:pl.length=g.regs.toNat
 inn:∀r:Nat,(r:Int)<g.regs→bitS S m r→InK pl k (r:Int)
 rows:rows.map keyI=(g.ins.l.take m).map keyI
 le:m≤g.ins.l.length
theorem zzt {g:Gr}(hv:GrV g){pl:List Int}(h:pl.length=g.regs.toNat){i:Ins}(hi:i∈g.ins.l):PlOK i pl:=by
 have h1:=hv.ins i hi;have hr:=hv.regs;refine⟨?_,?_,fun r hr2=>?_⟩
 · rcases h1.a with e | e
   · exact .inl (by omega)
   · exact .inr (by omega)
 · rcases h1.b with e | e
   · exact .inl (by omega)
   · exact .inr (by omega)
 · have:=h1.l r hr2;exact .inr (by omega)
theorem zfj {g:Gr}{S:List (List W64)}(hst:StraightG g)(hL:LiveOK g S){m r:Nat}(hm:m<g.ins.l.length)(hb:bitS S (m+1) r)(hne:(r:Int)≠zbg g.ins.l[m]):bitS S m r:=by
 have hlast:=hL.last hst.1 r;have hf:zdn g.ins.l[m]:=by
  rcases(hst.2 m hm hm).2 with h|h
  · exact h
  · have e : m + 1 = g.ins.l.length := by omega
    rw[← e,show bitW (rowS S (m+1)) r=true from hb] at hlast;cases hlast
 exact hL.fix m r (by omega) (.inl ⟨hm,.inl ⟨hf,hb,hne⟩⟩)
theorem LnS.next {g:Gr}{S:List (List W64)}{k:Int}{m:Nat}{mk mk':List Bool}{pl pl':List Int}{rows rows':List Ins}{i:Ins}(h:LnS g S k m mk pl rows)(hm:m<g.ins.l.length)(h1:mk'.length=k.toNat)(h2:pl'.length=g.regs.toNat)
 (h3:∀r:Nat,(r:Int)<g.regs→bitS S (m+1) r→InK pl' k (r:Int))(h4:keyI i=keyI g.ins.l[m])(h5:rows'=rows++[i]):LnS g S k (m+1) mk' pl' rows':=
 ⟨h1,h2,h3,by rw[h5,List.map_append,h.rows,zb2 hm,← h4];rfl,hm⟩
theorem zvu {m:Nat}{rows:List (List AV)}(h:m+1<rows.length)(hb:m≤100000):inB (wr .i64 ((m:Int)+1)) rows.length=true:=by
 rw[wr64 (by omega) (by omega),zhw];omega
theorem zu9 {g:Gr}{S:List (List W64)}(hs:ShS g S){m:Nat}(h:m+1≤g.ins.l.length)(hb:m≤100000):(S.map fun ws=>[zek ws])[(wr .i64 ((m:Int)+1)).toNat]? = some [zek (rowS S (m+1))]:=
 zh9 hs h (by rw[wr64 (by omega) (by omega)];omega) rfl
theorem ygy {mk:List Bool}{n:Nat}(h:mk.length=n):(mk.map bc).take 0++List.replicate n [AV.bool false]++(mk.map bc).drop (0+n)=(List.replicate n false).map bc:=by
 rw[List.drop_eq_nil_of_le (by rw[List.length_map];omega)];simp
theorem zqk {n:Nat}:List.replicate n [AV.bool false]=(List.replicate n false).map bc:=by simp
theorem zuz {n:Nat}:List.replicate n [AV.int .i64 0]=(List.replicate n (0:Int)).map ic:=by simp
def ypl (g:Gr)(k:Int)(v:AV)(b:Bool):Prop:=
 (b=false∧v = .agg [i64 0,.nils]∧(¬StraightG g∨∃S n,LiveOK g S∧zgf g S n∧k<n)) ∨
 (b=true∧∃bd:Bd,v=bd.av∧bd.regs=k∧bd.ins.l.map keyI=g.ins.l.map keyI)
theorem yei (g:Gr)(hv:GrV g)(k:Int)(hk:0≤k∧k≤4000):DPR 42 [g.av,i64 k] (fun ae=>∃x b,ae = .ret (.tup [x,.bool b])∧∃v,Nrm1 x v∧ypl g k v b):=by
 refine zaf eRg zae Tryz.func42 rfl (by decide) rfl rfl ?_
 have hg:=hv.ok;have hil:=g.ins.h;have hfew:=hg.few;have hregs:=hg.regs;have hge:=zef hg;have hnw:=zkc hg
 conv=>whnf
 repeat' ((first|refine Br.split (fun h=>?_) (fun h=>?_)<;>(try simp only[bz] at h)|(refine zaa rfl (zvo g hg) ?_;rintro _ ⟨S,rfl,hS⟩)|(refine zaa rfl (znr g) ?_;rintro _ (⟨rfl,hst⟩|⟨rfl,hst⟩))|(refine zaa rfl (znz g hg S hS.toShS) ?_;rintro _ ⟨n,rfl,hn⟩))<;>conv=>whnf)
 all_goals first
  | exact⟨_,_,rfl,_,.r,.inl ⟨rfl,rfl,.inr ⟨S,n,hS,hn,by omega⟩⟩⟩
  | exact⟨_,_,rfl,_,.r,.inl ⟨rfl,rfl,.inl hst⟩⟩
  | skip
 have hsl:=hS.len
 conv=>whnf
 repeat' ((first|refine Rq.mk (zxf (l':=g.regs) rfl rfl (by omega) (by decide) rfl) ?_|refine Rq.mk (zxf (l':=k) rfl rfl (by omega) (by decide) rfl) ?_|refine Ok3.mk _ (zh9 hS.toShS (k:=0) (Nat.zero_le _) rfl rfl) ?_|refine Rq.mk (by(first|rfl|((try simp only[rz]);omega))) ?_|refine And.intro (a:=zaw _=true) (by kernel_rfl) (LzK.e ?_)|(refine zar rfl (zc3 (rowS S 0) (by rw[zbd hS.toShS (Nat.zero_le _)];exact hnw) g.regs ⟨hregs.1,(by rw[zbd hS.toShS (Nat.zero_le _)];exact hge)⟩) ?_;rintro _ rfl;refine⟨_,rfl,?_⟩))<;>conv=>whnf)
 have hL1:((za3 (rowS S 0) g.regs.toNat).length:Int)≤k:=by
  rcases Nat.eq_zero_or_pos g.ins.l.length with h0|h0
  · have:za3 (rowS S 0) g.regs.toNat=[]:=List.eq_nil_iff_forall_not_mem.2 fun x hx=>by
     obtain⟨r,_,_,hb⟩:=mem_listW.1 hx;have:=hS.last hst.1 r;rw[h0,hb] at this;cases this
    rw[this];simp;omega
  · have h1 := (hn.up 0 h0).1
    have h2:(zkk g S 0)=za3 (rowS S 0) g.regs.toNat:=rfl;rw[h2] at h1;omega
 have hLr:∀(j:Nat) (h:j<(za3 (rowS S 0) g.regs.toNat).length),0≤(za3 (rowS S 0) g.regs.toNat)[j]∧(za3 (rowS S 0) g.regs.toNat)[j]<g.regs:=fun j h=>zc9 (List.getElem_mem h)
 generalize hLd:za3 (rowS S 0) g.regs.toNat=L at hL1 hLr
 refine zai eRg zae [2,4,5,6,7,8,9,10,45,46] [26,22] 200 (fun x:{x:Nat×List Bool×List Int // MkS g k x.1 x.2.1 x.2.2∧InKs x.2.2 k L x.1∧x.1≤L.length}=>[(47,i64 x.1.1)]) (fun x=>[(26,.arr 1 (x.1.2.1.map bc)),(22,.arr 1 (x.1.2.2.map ic))]) [] (fun x=>L.length+1 - x.1.1) (⟨(0,List.replicate k.toNat false,List.replicate g.regs.toNat 0),⟨by simp,by simp,by rw[zj4];exact Nat.le_refl _⟩,(fun r hr=>by cases hr),Nat.zero_le _⟩) ?_
 conv=>whnf
 refine⟨?_,fun x=>?_⟩
 · conv => whnf
   (repeat' first|exact True.intro|rfl|exact zeh zqk|exact zb4 zuz|exact zhx|exact zdi|apply And.intro )
 rcases x with⟨⟨m,mk,pl⟩,hx,hk1,hmb⟩
 dsimp only at hx hk1 hmb;have hmkl:=hx.ml;have hpll:=hx.pl
 conv=>whnf
 repeat' ((first|refine zap (zbl (l:=pl) hr3) ?_|refine zap (zbl (l:=mk) (by omega)) ?_|refine zap (zld hr3) ?_|refine Ok3.mk _ (zam (l:=L) (i:=m) (by omega)) ?_|refine Rq.mk (b:=chk3 _ _ _ _ _ _) (by kernel_rfl) ?_|refine Rq.mk (by(first|rfl|((try simp only[rz]);omega))) ?_|refine Br.split (fun h=>?_) (fun h=>?_)<;>(try simp only[bz] at h)|refine And.intro (a:=zaw _=true) (by kernel_rfl) (LzK.e ?_)|refine zay eRg zae Tryz.func86 rfl (by decide) rfl rfl ?_|(refine zga (rs:=[26]) (zab (zbk (f:=bc) (l:=mk) (n:=19) (fun _=>rfl) rfl rfl hmkl.symm) rfl) (zi4 ⟨mk,by omega⟩) (yh2 (zfu (n:=19) (f:=bc) (l:=mk) rfl (fun _=>rfl)) rfl) ?_;rintro _ ⟨i,rfl,hi⟩;have hi2:=ztf hx (by omega) hi;have hr2:=hLr m (by omega);have hr3:((L[m]'(by omega))).toNat<pl.length:=(by omega);refine⟨_,rfl,rfl,?_⟩))<;>conv=>whnf)
 · (refine⟨⟨(m+1,mk.set i.toNat true,pl.set (L[m]'(by omega)).toNat i),hx.put,hk1.step (by omega) hr3 hi2,(by(dsimp only);omega)⟩,(by(conv=>whnf);(repeat' first|exact True.intro|rfl|exact zeh zon|exact zb4 zvv|exact zhx|exact zdi|apply And.intro|(refine cw ?_ ?_ ?_<;>(try dsimp only)<;>omega) )),rfl,(by(dsimp only);omega)⟩)
 have hin0 : ∀ r : Nat, (r : Int) < g.regs → bitS S 0 r → InK pl k (r : Int) := fun r hr hb => hk1 _ (by
  rw[List.take_of_length_le (by omega),← hLd]
  exact mem_listW.2 ⟨r,rfl,by omega,hb⟩)
 refine zai eRg zae [2,4,5,6,7,8,9,10,56,57] [26,22,18] 4000 (fun x:{x:Nat×List Bool×List Int×List Ins // LnS g S k x.1 x.2.1 x.2.2.1 x.2.2.2}=>[(58,i64 x.1.1)]) (fun x=>[(26,.arr 1 (x.1.2.1.map bc)),(22,.arr 1 (x.1.2.2.1.map ic)),(18,.arr 2 [[i64 k,accV 2000 29 (x.1.2.2.2.map Ins.cells)]])]++accH 2000 29 (x.1.2.2.2.map Ins.cells)) [(2000,.cell 18 1)] (fun x=>g.ins.l.length+1 - x.1.1) (⟨(0,mk,pl,[]),⟨hmkl,hpll,hin0,by simp,Nat.zero_le _⟩⟩) ?_
 conv=>whnf
 refine⟨?_,fun x=>?_⟩
 · conv => whnf
   (repeat' first|exact True.intro|rfl|exact zeh (by rfl)|exact zb4 (by rfl)|exact zhx|exact zdi|apply And.intro )
 rcases x with⟨⟨m,mk,pl,_|⟨z,acc⟩⟩,hx⟩
 all_goals
  have hmkl:=hx.ml;have hpll:=hx.pn;have hmb:=hx.le;have i_len:=congrArg List.length hx.rows;dsimp only at hmkl hpll hmb i_len;simp only[List.length_nil,List.length_cons,List.length_map,List.length_take] at i_len
 · have hx' : LnS g S k m mk pl ([]) := hx
   have hsl2:∀(h:m<g.ins.l.length),m+1<(S.map fun ws=>[zek ws]).length:=fun h=>by rw[List.length_map];omega
   conv=>whnf
   repeat' ((first|refine Ok3.mk _ (zam (l:=g.ins.l) (i:=m) (by omega)) ?_|refine Br.f (b:=Nat.beq _ _) rfl ?_|refine Rq.mk (zvu (m:=m) (hsl2 (by omega)) (by omega)) ?_|refine Ok3.mk _ (zu9 hS.toShS (m:=m) (by omega) (by omega)) ?_|refine Rq.mk (by(first|rfl|((try simp only[rz]);omega))) ?_|refine Br.split (fun h=>?_) (fun h=>?_)<;>(try simp only[bz] at h)|(refine zaa rfl (znt (g.ins.l[m]'(by omega))) ?_;rintro _ rfl)|refine And.intro (a:=zaw _=true) (by kernel_rfl) (LzK.e ?_)|(refine zor (k:=22) (zn0 (g.ins.l[m]'(by omega)) pl hpll (by omega) (hg.lst _ (List.getElem_mem _)) (zzt hv hpll (List.getElem_mem _))) rfl rfl rfl zk9 ?_;rintro _ H' _ ⟨rfl,h0⟩;refine⟨zq6 _,_,h0,zk9,?_⟩)|(refine zar rfl (zc3 (rowS S (m+1)) (by rw[zbd hS.toShS (by omega)];exact hnw) g.regs ⟨hregs.1,(by rw[zbd hS.toShS (by omega)];exact hge)⟩) ?_;rintro _ rfl;refine⟨_,rfl,?_⟩))<;>conv=>whnf)
   · have hlt : m < g.ins.l.length := by omega
     have hd:0≤zbg (g.ins.l[m]'hlt):=h;have hdr:=hg.sets _ (List.getElem_mem hlt);have hn2:=(hn.up m hlt).2;have hcnt:=zqy hg hS hlt hd;have hLr2:∀(j:Nat) (h:j<(za3 (rowS S (m+1)) g.regs.toNat).length),0≤(za3 (rowS S (m+1)) g.regs.toNat)[j]∧(za3 (rowS S (m+1)) g.regs.toNat)[j]<g.regs:=fun j h=>zc9 (List.getElem_mem h)
     have hik2:∀(j:Nat) (h:j<(za3 (rowS S (m+1)) g.regs.toNat).length) (h2:(za3 (rowS S (m+1)) g.regs.toNat)[j].toNat<pl.length),¬(za3 (rowS S (m+1)) g.regs.toNat)[j]=zbg (g.ins.l[m]'hlt)→0≤pl[(za3 (rowS S (m+1)) g.regs.toNat)[j].toNat]∧pl[(za3 (rowS S (m+1)) g.regs.toNat)[j].toNat]<k:=fun j h h2 hne=>by
      obtain⟨r,e,h3,h4⟩:=mem_listW.1 (List.getElem_mem h);have h5:=hx'.inn r (by omega) (zfj hst hS hlt h4 (by rw[← e];exact hne))
      unfold InK at h5;rw[← e,zi7 h2] at h5;exact h5
     have hLl:(za3 (rowS S (m+1)) g.regs.toNat).length≤1000:=by have:=@zep (rowS S (m+1)) g.regs.toNat;omega
     generalize hLd2:(za3 (rowS S (m+1)) g.regs.toNat)=L2 at hLr2 hik2 hcnt hLl
     refine zai eRg zae [2,4,5,6,7,8,9,10,13,14,15,16,56,57,58,59,60,61,62,63,64,65,66,67,68,69,70,71,72,73,74,75,76,77,78,79] [26] 200 (fun y:{y:Nat×List Bool // y.2.length=k.toNat∧cntT y.2≤cnN L2 (zbg (g.ins.l[m]'hlt)) y.1∧y.1≤L2.length}=>[(80,i64 y.1.1)]) (fun y=>[(26,.arr 1 (y.1.2.map bc))]) [] (fun y=>L2.length+1 - y.1.1) (⟨(0,List.replicate k.toNat false),by simp,by rw[zj4];exact Nat.zero_le _,Nat.zero_le _⟩) ?_
     conv=>whnf
     refine⟨?_,fun y=>?_⟩
     · conv => whnf
       (repeat' first|exact True.intro|rfl|exact zeh (ygy hmkl)|exact zb4 (by rfl)|exact zhx|exact zdi|apply And.intro )
     rcases y with⟨⟨j,mk1⟩,hy1,hy2,hy3⟩
     dsimp only at hy1 hy2 hy3
     conv=>whnf
     repeat' ((first|refine Ok3.mk _ (zam (l:=L2) (i:=j) (by omega)) ?_|refine Rq.mk (zmf (hLr2 j (by omega)) (by omega)) ?_|refine zap (zbl (l:=pl) (by have:=hLr2 j (by omega);omega)) ?_|refine Rq.mk (zmf (hik2 j (by omega) (by have:=hLr2 j (by omega);omega) h) (by omega)) ?_|refine zap (zbl (l:=mk1) (by have:=hik2 j (by omega) (by have:=hLr2 j (by omega);omega) h;omega)) ?_|refine Rq.mk (b:=chk3 _ _ _ _ _ _) (by kernel_rfl) ?_|refine Rq.mk (by(first|rfl|((try simp only[rz]);omega))) ?_|refine Br.split (fun h=>?_) (fun h=>?_)<;>(try simp only[bz] at h)|refine And.intro (a:=zaw _=true) (by kernel_rfl) (LzK.e ?_))<;>conv=>whnf)
     · (refine⟨⟨(j+1,mk1),hy1,by rw[ye9 (by omega),if_neg (by rw[h];simp)];exact hy2,by(dsimp only);omega⟩,(by(conv=>whnf);(repeat' first|exact True.intro|rfl|exact zeh (by rfl)|exact zb4 (by rfl)|exact zhx|exact zdi|apply And.intro|(refine cw ?_ ?_ ?_<;>(try dsimp only)<;>omega) )),rfl,(by(dsimp only);omega)⟩)
     · have hne := h
       have hik:=hik2 j (by omega) (by have:=hLr2 j (by omega);omega) hne
       (refine⟨⟨(j+1,mk1.set (pl[(L2[j]'(by omega)).toNat]'(by have:=hLr2 j (by omega);omega)).toNat true),by rw[List.length_set];exact hy1,by rw[ye9 (by omega),if_pos hne];exact Nat.le_trans zlm (Nat.add_le_add_right hy2 1),by(dsimp only);omega⟩,(by(conv=>whnf);(repeat' first|exact True.intro|rfl|exact zeh zon|exact zb4 (by rfl)|exact zhx|exact zdi|apply And.intro|(refine cw ?_ ?_ ?_<;>(try dsimp only)<;>omega) )),rfl,(by(dsimp only);omega)⟩)
     · have hcl : ((cnN L2 (zbg (g.ins.l[m]'hlt)) j : Nat) : Int) < k := by rw [ygx (by omega)]; omega
       have hx:MkS g k (cnN L2 (zbg (g.ins.l[m]'hlt)) j) mk1 pl:=⟨hy1,hpll,hy2⟩;have hmkl:=hy1
       conv=>whnf
       repeat' ((first|refine zap (zbl (l:=pl) hr3) ?_|refine zap (zbl (l:=mk1) (by omega)) ?_|refine zap (zld hr3) ?_|refine Br.f (b:=Nat.beq _ _) rfl ?_|refine Rq.mk (b:=chk3 _ _ _ _ _ _) (by kernel_rfl) ?_|refine Rq.mk (by(first|rfl|((try simp only[rz]);omega))) ?_|refine And.intro (a:=zaw _=true) (by kernel_rfl) (LzK.e ?_)|refine zay eRg zae Tryz.func86 rfl (by decide) rfl rfl ?_|(refine zga (rs:=[26]) (zab (zbk (f:=bc) (l:=mk1) (n:=19) (fun _=>rfl) rfl rfl hmkl.symm) rfl) (zi4 ⟨mk1,by omega⟩) (yh2 (zfu (n:=19) (f:=bc) (l:=mk1) rfl (fun _=>rfl)) rfl) ?_;rintro _ ⟨i,rfl,hi⟩;have hi2:=ztf hx hcl hi;have hr2:=(And.intro hd hdr);have hr3:((zbg (g.ins.l[m]'hlt))).toNat<pl.length:=(by omega);refine⟨_,rfl,rfl,?_⟩))<;>conv=>whnf)
       (refine⟨⟨(m+1,mk1.set i.toNat true,pl.set (zbg (g.ins.l[m]'hlt)).toNat i,[{ plI (g.ins.l[m]'hlt) pl with d:=i }]),hx'.next (i:={ plI (g.ins.l[m]'hlt) pl with d:=i }) hlt (by rw[List.length_set];exact hy1) (by rw[List.length_set];exact hpll) (fun r hr hb=>InK.put hr3 hi2 fun hne=>hx'.inn r hr (zfj hst hS hlt hb (by omega))) rfl rfl⟩,(by(conv=>whnf);(repeat' first|exact True.intro|rfl|exact zeh zon|exact zb4 zvv|exact zhx|exact zdi|apply And.intro|(refine cw ?_ ?_ ?_<;>(try dsimp only)<;>omega) )),rfl,(by(dsimp only);omega)⟩)
   · (refine⟨⟨(m+1,mk,pl,[plI (g.ins.l[m]'(by omega)) pl]),hx'.next (i:=plI (g.ins.l[m]'(by omega)) pl) (by omega) hmkl hpll (fun r hr hb=>hx'.inn r hr (zfj hst hS (by omega) hb (by omega))) rfl rfl⟩,(by(conv=>whnf);(repeat' first|exact True.intro|rfl|exact zeh (by rfl)|exact zb4 (by rfl)|exact zhx|exact zdi|apply And.intro|(refine cw ?_ ?_ ?_<;>(try dsimp only)<;>omega) )),rfl,(by(dsimp only);omega)⟩)
   · have e : g.ins.l = [] := List.eq_nil_of_length_eq_zero (by omega)
     exact⟨_,_,rfl,(Bd.mk k ⟨[],by decide⟩).av,.inr ⟨_,_,rfl,rfl,.r,.n,trivial⟩,.inr ⟨rfl,_,rfl,rfl,by rw[e]⟩⟩
 · have hx' : LnS g S k m mk pl (z :: acc) := hx
   have hsl2:∀(h:m<g.ins.l.length),m+1<(S.map fun ws=>[zek ws]).length:=fun h=>by rw[List.length_map];omega
   conv=>whnf
   repeat' ((first|refine Ok3.mk _ (zam (l:=g.ins.l) (i:=m) (by omega)) ?_|refine Br.f (b:=Nat.beq _ _) rfl ?_|refine Rq.mk (zcg 304 2000 (by simp) rfl rfl (by have:=i_len;simp only[List.length_cons,List.length_map,List.length_nil] at this ⊢;omega) (by decide)) ?_|refine Rq.mk (zvu (m:=m) (hsl2 (by omega)) (by omega)) ?_|refine Ok3.mk _ (zu9 hS.toShS (m:=m) (by omega) (by omega)) ?_|refine Rq.mk (by(first|rfl|((try simp only[rz]);omega))) ?_|refine Br.split (fun h=>?_) (fun h=>?_)<;>(try simp only[bz] at h)|(refine zaa rfl (znt (g.ins.l[m]'(by omega))) ?_;rintro _ rfl)|refine And.intro (a:=zaw _=true) (by kernel_rfl) (LzK.e ?_)|(refine zor (k:=22) (zn0 (g.ins.l[m]'(by omega)) pl hpll (by omega) (hg.lst _ (List.getElem_mem _)) (zzt hv hpll (List.getElem_mem _))) rfl rfl rfl zk9 ?_;rintro _ H' _ ⟨rfl,h0⟩;refine⟨zq6 _,_,h0,zk9,?_⟩)|(refine zar rfl (zc3 (rowS S (m+1)) (by rw[zbd hS.toShS (by omega)];exact hnw) g.regs ⟨hregs.1,(by rw[zbd hS.toShS (by omega)];exact hge)⟩) ?_;rintro _ rfl;refine⟨_,rfl,?_⟩))<;>conv=>whnf)
   · have hlt : m < g.ins.l.length := by omega
     have hd:0≤zbg (g.ins.l[m]'hlt):=h;have hdr:=hg.sets _ (List.getElem_mem hlt);have hn2:=(hn.up m hlt).2;have hcnt:=zqy hg hS hlt hd;have hLr2:∀(j:Nat) (h:j<(za3 (rowS S (m+1)) g.regs.toNat).length),0≤(za3 (rowS S (m+1)) g.regs.toNat)[j]∧(za3 (rowS S (m+1)) g.regs.toNat)[j]<g.regs:=fun j h=>zc9 (List.getElem_mem h)
     have hik2:∀(j:Nat) (h:j<(za3 (rowS S (m+1)) g.regs.toNat).length) (h2:(za3 (rowS S (m+1)) g.regs.toNat)[j].toNat<pl.length),¬(za3 (rowS S (m+1)) g.regs.toNat)[j]=zbg (g.ins.l[m]'hlt)→0≤pl[(za3 (rowS S (m+1)) g.regs.toNat)[j].toNat]∧pl[(za3 (rowS S (m+1)) g.regs.toNat)[j].toNat]<k:=fun j h h2 hne=>by
      obtain⟨r,e,h3,h4⟩:=mem_listW.1 (List.getElem_mem h);have h5:=hx'.inn r (by omega) (zfj hst hS hlt h4 (by rw[← e];exact hne))
      unfold InK at h5;rw[← e,zi7 h2] at h5;exact h5
     have hLl:(za3 (rowS S (m+1)) g.regs.toNat).length≤1000:=by have:=@zep (rowS S (m+1)) g.regs.toNat;omega
     generalize hLd2:(za3 (rowS S (m+1)) g.regs.toNat)=L2 at hLr2 hik2 hcnt hLl
     refine zai eRg zae [2,4,5,6,7,8,9,10,13,14,15,16,56,57,58,59,60,61,62,63,64,65,66,67,68,69,70,71,72,73,74,75,76,77,78,79] [26] 200 (fun y:{y:Nat×List Bool // y.2.length=k.toNat∧cntT y.2≤cnN L2 (zbg (g.ins.l[m]'hlt)) y.1∧y.1≤L2.length}=>[(80,i64 y.1.1)]) (fun y=>[(26,.arr 1 (y.1.2.map bc))]) [] (fun y=>L2.length+1 - y.1.1) (⟨(0,List.replicate k.toNat false),by simp,by rw[zj4];exact Nat.zero_le _,Nat.zero_le _⟩) ?_
     conv=>whnf
     refine⟨?_,fun y=>?_⟩
     · conv => whnf
       (repeat' first|exact True.intro|rfl|exact zeh (ygy hmkl)|exact zb4 (by rfl)|exact zhx|exact zdi|exact zav (f:=Ins.cells) (fun _=>by rfl)|exact zaj (f:=Ins.cells) (fun _=>by rfl)|apply And.intro )
     rcases y with⟨⟨j,mk1⟩,hy1,hy2,hy3⟩
     dsimp only at hy1 hy2 hy3
     conv=>whnf
     repeat' ((first|refine Ok3.mk _ (zam (l:=L2) (i:=j) (by omega)) ?_|refine Rq.mk (zmf (hLr2 j (by omega)) (by omega)) ?_|refine zap (zbl (l:=pl) (by have:=hLr2 j (by omega);omega)) ?_|refine Rq.mk (zmf (hik2 j (by omega) (by have:=hLr2 j (by omega);omega) h) (by omega)) ?_|refine zap (zbl (l:=mk1) (by have:=hik2 j (by omega) (by have:=hLr2 j (by omega);omega) h;omega)) ?_|refine Rq.mk (b:=chk3 _ _ _ _ _ _) (by kernel_rfl) ?_|refine Rq.mk (by(first|rfl|((try simp only[rz]);omega))) ?_|refine Br.split (fun h=>?_) (fun h=>?_)<;>(try simp only[bz] at h)|refine And.intro (a:=zaw _=true) (by kernel_rfl) (LzK.e ?_))<;>conv=>whnf)
     · (refine⟨⟨(j+1,mk1),hy1,by rw[ye9 (by omega),if_neg (by rw[h];simp)];exact hy2,by(dsimp only);omega⟩,(by(conv=>whnf);(repeat' first|exact True.intro|rfl|exact zeh (by rfl)|exact zb4 (by rfl)|exact zhx|exact zdi|exact zav (f:=Ins.cells) (fun _=>by rfl)|exact zaj (f:=Ins.cells) (fun _=>by rfl)|apply And.intro|(refine cw ?_ ?_ ?_<;>(try dsimp only)<;>omega) )),rfl,(by(dsimp only);omega)⟩)
     · have hne := h
       have hik:=hik2 j (by omega) (by have:=hLr2 j (by omega);omega) hne
       (refine⟨⟨(j+1,mk1.set (pl[(L2[j]'(by omega)).toNat]'(by have:=hLr2 j (by omega);omega)).toNat true),by rw[List.length_set];exact hy1,by rw[ye9 (by omega),if_pos hne];exact Nat.le_trans zlm (Nat.add_le_add_right hy2 1),by(dsimp only);omega⟩,(by(conv=>whnf);(repeat' first|exact True.intro|rfl|exact zeh zon|exact zb4 (by rfl)|exact zhx|exact zdi|exact zav (f:=Ins.cells) (fun _=>by rfl)|exact zaj (f:=Ins.cells) (fun _=>by rfl)|apply And.intro|(refine cw ?_ ?_ ?_<;>(try dsimp only)<;>omega) )),rfl,(by(dsimp only);omega)⟩)
     · have hcl : ((cnN L2 (zbg (g.ins.l[m]'hlt)) j : Nat) : Int) < k := by rw [ygx (by omega)]; omega
       have hx:MkS g k (cnN L2 (zbg (g.ins.l[m]'hlt)) j) mk1 pl:=⟨hy1,hpll,hy2⟩;have hmkl:=hy1
       conv=>whnf
       repeat' ((first|refine zap (zbl (l:=pl) hr3) ?_|refine zap (zbl (l:=mk1) (by omega)) ?_|refine zap (zld hr3) ?_|refine Br.f (b:=Nat.beq _ _) rfl ?_|refine Rq.mk (zcg 304 2000 (by simp) rfl rfl (by have:=i_len;simp only[List.length_cons,List.length_map,List.length_nil] at this ⊢;omega) (by decide)) ?_|refine Rq.mk (b:=chk3 _ _ _ _ _ _) (by kernel_rfl) ?_|refine Rq.mk (by(first|rfl|((try simp only[rz]);omega))) ?_|refine And.intro (a:=zaw _=true) (by kernel_rfl) (LzK.e ?_)|refine zay eRg zae Tryz.func86 rfl (by decide) rfl rfl ?_|(refine zga (rs:=[26]) (zab (zbk (f:=bc) (l:=mk1) (n:=19) (fun _=>rfl) rfl rfl hmkl.symm) rfl) (zi4 ⟨mk1,by omega⟩) (yh2 (zfu (n:=19) (f:=bc) (l:=mk1) rfl (fun _=>rfl)) rfl) ?_;rintro _ ⟨i,rfl,hi⟩;have hi2:=ztf hx hcl hi;have hr2:=(And.intro hd hdr);have hr3:((zbg (g.ins.l[m]'hlt))).toNat<pl.length:=(by omega);refine⟨_,rfl,rfl,?_⟩))<;>conv=>whnf)
       (refine⟨⟨(m+1,mk1.set i.toNat true,pl.set (zbg (g.ins.l[m]'hlt)).toNat i,z::(acc++[{ plI (g.ins.l[m]'hlt) pl with d:=i }])),hx'.next (i:={ plI (g.ins.l[m]'hlt) pl with d:=i }) hlt (by rw[List.length_set];exact hy1) (by rw[List.length_set];exact hpll) (fun r hr hb=>InK.put hr3 hi2 fun hne=>hx'.inn r hr (zfj hst hS hlt hb (by omega))) rfl rfl⟩,(by(conv=>whnf);(repeat' first|exact True.intro|rfl|exact zeh zon|exact zb4 zvv|exact zhx|exact zdi|exact congrArg (fun v=>AObj.arr 2 [[i64 k,v]]) (zat (by rfl) (by rfl) (by simp) (by rfl))|exact za4 (by rfl) (za7 (f:=Ins.cells) (fun _=>by rfl) (by rfl) (by simp))|exact zaj (f:=Ins.cells) (fun _=>by rfl)|apply And.intro|(refine cw ?_ ?_ ?_<;>(try dsimp only)<;>omega) )),rfl,(by(dsimp only);omega)⟩)
   · (refine⟨⟨(m+1,mk,pl,z::(acc++[plI (g.ins.l[m]'(by omega)) pl])),hx'.next (i:=plI (g.ins.l[m]'(by omega)) pl) (by omega) hmkl hpll (fun r hr hb=>hx'.inn r hr (zfj hst hS (by omega) hb (by omega))) rfl rfl⟩,(by(conv=>whnf);(repeat' first|exact True.intro|rfl|exact zeh (by rfl)|exact zb4 (by rfl)|exact zhx|exact zdi|exact congrArg (fun v=>AObj.arr 2 [[i64 k,v]]) (zat (by rfl) (by rfl) (by simp) (by rfl))|exact za4 (by rfl) (za7 (f:=Ins.cells) (fun _=>by rfl) (by rfl) (by simp))|exact zaj (f:=Ins.cells) (fun _=>by rfl)|apply And.intro|(refine cw ?_ ?_ ?_<;>(try dsimp only)<;>omega) )),rfl,(by(dsimp only);omega)⟩)
   · generalize hg2 : snap _ 20 _ = rr
     obtain rfl:=hg2.symm.trans (zd5 (n:=19) (zd2 (n:=18) (zab rfl (zab (zbf (f:=Ins.cells) (n:=17) (fun _=>rfl) rfl) rfl))) rfl)
     conv=>whnf
     have e:=hx'.rows;rw[List.take_of_length_le (by omega)] at e
     exact⟨_,_,rfl,(Bd.mk k ⟨z::acc,by rw[List.length_cons,i_len];omega⟩).av,.r,.inr ⟨rfl,_,rfl,rfl,e⟩⟩
theorem yej (g:Gr)(hv:GrV g)(k:Int)(hk:0≤k∧k≤4000):DPR 42 [g.av,i64 k] (fun ae=>∃v b,ae = .ret (.tup [v,.bool b])∧ypl g k v b):=by
 refine(yei g hv k hk).nrm ?_
 rintro _ ⟨x,b,rfl,v,h1,h2⟩
 exact⟨_,.tup [v,.bool b],rfl,.inr ⟨_,_,rfl,rfl,h1,.r,trivial⟩,v,b,rfl,h2⟩
end Go.Ago
