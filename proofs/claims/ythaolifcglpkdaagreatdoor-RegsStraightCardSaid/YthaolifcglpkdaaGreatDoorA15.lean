/-
  Part 15: lemmas, each with its own conditions.
-/
import Derived.Shelf.Strings.Search1
import Derived.Shelf.Strings.Search2
import Derived.Shelf.Strings.Search3
import Derived.Test.YthaolifcglpkdaaGreatDoorA14
set_option maxRecDepth 100000
set_option maxHeartbeats 0
set_option linter.all false
namespace Go.Ago
open Go.Proofs
attribute [local irreducible] ltI leI eqI eqS shrI wr inB mmI comp DC DP DW DV
attribute [local irreducible] lkK zgw
theorem zhq {es:List (Int×AV)}{k:Int}{v:AV}(h:RisK es):zgw (insK es k v) k=some v:=zpn (zfw h) ((zc2 h k v).2 (.inl ⟨rfl,rfl⟩))
theorem zz9 {z v:AV}:lkK z false (some v)=v:=by unfold lkK;rfl
def zic (base:Bool)(ns:Int→Bool)(es l:List (Int×AV)):Bool:=base || (es.filter fun p=>!l.any fun q=>decide (q.1=p.1)).any fun p=>ns p.1
theorem lessB_all {base:Bool}{ns:Int→Bool}{es:List (Int×AV)}:zic base ns es es=base:=by
 unfold zic;rw[show(es.filter fun p=>!es.any fun q=>decide (q.1=p.1))=[] from List.filter_eq_nil_iff.2 fun p hp=>by simp only[Bool.not_eq_true',Bool.not_eq_false,List.any_eq_true,decide_eq_true_eq];exact⟨p,hp,rfl⟩]
 simp
theorem zhn {base:Bool}{ns:Int→Bool}{es l:List (Int×AV)}{k:Int}{x:AV}(hl:∀p∈l,p∈es)(h:(k,x)∈l):zic base ns es (zee l k)=(zic base ns es l || ns k):=by
 unfold zic;rw[Bool.or_assoc]
 congr 1
 rw[Bool.eq_iff_iff];simp only[List.any_eq_true,List.mem_filter,Bool.not_eq_true',List.any_eq_false,decide_eq_true_eq,Bool.or_eq_true]
 constructor
 · rintro ⟨p, ⟨h1, h2⟩, h3⟩
   by_cases hp:p.1=k
   · exact .inr (by rw[← hp];exact h3)
   · exact .inl ⟨p,⟨h1,fun q hq e=>h2 q (by obtain⟨a,b⟩:=q;exact mem_lessK.2 ⟨hq,fun e2=>hp (by rw[← e];exact e2)⟩) e⟩,h3⟩
 · rintro (⟨p, ⟨h1, h2⟩, h3⟩ | h3)
   · exact⟨p,⟨h1,fun q hq e=>h2 q (by obtain⟨a,b⟩:=q;exact(mem_lessK.1 hq).1) e⟩,h3⟩
   · exact⟨(k,x),⟨hl _ h,fun q hq e=>by obtain⟨a,b⟩:=q;exact(mem_lessK.1 hq).2 e⟩,h3⟩
theorem zyx {H:zah}{n:Nat}{x y x' y':AV}(hx:snap H n x=some x')(hy:snap H n y=some y'):snap H (n+1) (.tup [x,y])=some (.tup [x',y']):=by simp only[snap,mapO,hx,hy]
theorem ziz (M N:List (Int×AV))(hM:RisK M)(hN:RisK N)(b c:Bool)(l m:List Int)(g oa ob:Int→AV)(sm:Int→Bool)(b2:Bool)(l2:List Int)
 (h0:DPR 167 [.agg (zal b l),.agg (zal c m)] (fun ae=>ae = .ret (.agg (zal b2 l2))))(h1:DPR 168 [.agg (zal b2 l2),.agg (zal b l)] (fun ae=>ae = .ret (.bool true)))
 (hg:∀k,zjj (g k))(ha:∀k,zjj (oa k))(hb:∀k,zjj (ob k))(hv:zhy M)(hw:zhy N)
 (hoa:∀k,(∃x,(k,x)∈M∨(k,x)∈N)→DPR 65 [zaz M b l,i64 k] (fun ae=>ae = .ret (oa k)))(hob:∀k,(∃x,(k,x)∈M∨(k,x)∈N)→DPR 65 [zaz N c m,i64 k] (fun ae=>ae = .ret (ob k)))
 (hme:∀k,(∃x,(k,x)∈M∨(k,x)∈N)→DPR 167 [oa k,ob k] (fun ae=>ae = .ret (g k)))(hsm:∀k,(∃x,(k,x)∈M∨(k,x)∈N)→DPR 168 [g k,oa k] (fun ae=>ae = .ret (.bool (sm k)))) :
 DPR 114 [zaz M b l,zaz N c m] (fun ae=>ae = .ret (.tup [zaz (layK (layK [] (zda M [] g)) (zda N [] g)) b2 l2,.bool (zic (zic false (fun k=>!sm k) M []) (fun k=>!sm k) N [])])):=by
 have hB2:RisK (layK [] (zda M [] g)):=zdr zbs;have hE2:zhy (layK [] (zda M [] g)):=za8 zbs zbm hg;have hw1:wr IntKind.i64 (0+1)=1:=wr64 (by omega) (by omega)
 have hw2:wr IntKind.i64 (wr IntKind.i64 (0+1)+1)=2:=by rw[hw1];exact wr64 (by omega) (by omega)
 refine zaf eRg zae Tryz.func114 rfl (by decide) rfl rfl ?_
 conv=>whnf
 repeat' ((first|(refine zaa rfl (h0) ?_;rintro _ rfl)|(refine zaa rfl (h1) ?_;rintro _ rfl))<;>conv=>whnf)
 refine zea eRg zae 3 ?_
 conv=>whnf
 conv=>whnf
 repeat' ((first|refine Rq.mk (by(first|rfl|((try simp only[rz]);omega))) ?_|refine Br.split (fun h=>?_) (fun h=>?_)<;>(try simp only[bz] at h)<;>try (exfalso;omega)|refine Ok3.mk _ rfl ?_)<;>conv=>whnf)
 refine zfr eRg zae M 30 33 34 35 [2,3,4,5,6,9,28,29,30,31,32,33] [4] 200 (fun l=>[(7,.bool (zic false (fun k=>!sm k) M l))]) (fun l=>[(4,.mp (layK [] (zda M l g)))]) [] hM rfl rfl rfl rfl rfl rfl rfl rfl rfl rfl ?_
 conv=>whnf
 refine⟨?_,fun l=>?_,?_,fun l hl1 hl2 k x hkx=>?_⟩
 · conv => whnf
   (repeat' first|exact True.intro|exact congrArg AV.bool lessB_all.symm|rfl|exact zgc (by first|rfl|exact(congrArg (layK []) zfp).symm) (za8 zbs zbm hg)|exact zkl (za8 zbs zbm hg)|apply And.intro)
 · conv => whnf
   rfl
 · skip
   conv=>whnf
   repeat' ((first|refine Ok3.mk _ (by rw[hw1];rfl) ?_|refine Rq.mk (by(first|rfl|((try simp only[rz]);omega))) ?_|refine Br.split (fun h=>?_) (fun h=>?_)<;>(try simp only[bz] at h)<;>try (exfalso;omega))<;>conv=>whnf)
   refine zfr eRg zae N 239 33 34 35 [2,3,4,5,6,9,28,29,30,31,32,33] [4] 200 (fun l=>[(7,.bool (zic (zic false (fun k=>!sm k) M []) (fun k=>!sm k) N l))]) (fun l=>[(4,.mp (layK (layK [] (zda M [] g)) (zda N l g)))]) [] hN rfl rfl rfl rfl rfl rfl rfl rfl rfl rfl ?_
   conv=>whnf
   refine⟨?_,fun l=>?_,?_,fun l hl1 hl2 k x hkx=>?_⟩
   · conv => whnf
     (repeat' first|exact True.intro|exact congrArg AV.bool lessB_all.symm|rfl|exact zgc (by first|rfl|exact(congrArg (layK _) zfp).symm) (za8 hB2 hE2 hg)|exact zkl (za8 hB2 hE2 hg)|apply And.intro)
   · conv => whnf
     rfl
   · skip
     conv=>whnf
     repeat' ((first|refine Br.split (fun h=>?_) (fun h=>?_)<;>(try simp only[bz] at h)<;>try (exfalso;omega)|refine zag (fun h=>?_) (fun h=>?_)<;>(try simp only[bz] at h))<;>conv=>whnf)
     all_goals (generalize hgg:snap _ 20 _=rr;obtain rfl:=hgg.symm.trans (zyx (n:=19) (zo0 (n:=18) (zvl (zuc (n:=15) rfl (za8 hB2 hE2 hg)) rfl)) rfl);(conv=>whnf);(rw[h]))
   · have hkey : ∃ y, (k, y) ∈ M ∨ (k, y) ∈ N := ⟨x, .inr (hl2 _ hkx)⟩
     obtain⟨bx,lx,rfl⟩:=hw (k,x) (hl2 _ hkx);obtain⟨ba,la,ea⟩:=ha k;obtain⟨bb,lb,eb⟩:=hb k;obtain⟨bg,lg,eg⟩:=hg k;have hwa:=hoa k hkey;have hwb:=hob k hkey;have hwm:=hme k hkey;have hws:=hsm k hkey;rw[ea] at hwa hwm hws;rw[eb] at hwb hwm;rw[eg] at hwm hws;have hst:=zho (g:=g) hB2 hl2 hkx;rw[eg] at hst;have hfk:∀v,zgw (insK (layK (layK [] (zda M [] g)) (zda N l g)) k v) k=some v:=fun v=>zhq (zdr hB2)
     conv=>whnf
     repeat' ((first|refine Rq.mk (b:=chk3 _ _ _ _ _ _) (by kernel_rfl) ?_|refine zag (fun h=>?_) (fun h=>?_)<;>(try simp only[bz] at h)|refine And.intro (a:=zaw _=true) (by kernel_rfl) (LzK.e ?_)|(refine zar rfl hwa ?_;rintro _ rfl;refine⟨_,rfl,?_⟩)|(refine zar rfl hwb ?_;rintro _ rfl;refine⟨_,rfl,?_⟩)|(refine zar rfl hwm ?_;rintro _ rfl;refine⟨_,rfl,?_⟩)|(refine zar rfl hws ?_;rintro _ rfl;refine⟨_,rfl,?_⟩)|rw[hfk,zz9])<;>conv=>whnf)
     all_goals refine⟨rfl,rfl,rfl,?_⟩
     all_goals conv=>whnf
     all_goals (repeat' first|exact True.intro|exact congrArg AV.bool (by rw[zhn hl2 hkx];(simp_all;done) )|rfl|exact zgc hst (za8 hB2 hE2 hg)|exact zkl (za8 hB2 hE2 hg)|apply And.intro)
 · have hkey : ∃ y, (k, y) ∈ M ∨ (k, y) ∈ N := ⟨x, .inl (hl2 _ hkx)⟩
   obtain⟨bx,lx,rfl⟩:=hv (k,x) (hl2 _ hkx);obtain⟨ba,la,ea⟩:=ha k;obtain⟨bb,lb,eb⟩:=hb k;obtain⟨bg,lg,eg⟩:=hg k;have hwa:=hoa k hkey;have hwb:=hob k hkey;have hwm:=hme k hkey;have hws:=hsm k hkey;rw[ea] at hwa hwm hws;rw[eb] at hwb hwm;rw[eg] at hwm hws;have hst:=zho (g:=g) zbs hl2 hkx;rw[eg] at hst;have hfk:∀v,zgw (insK (layK [] (zda M l g)) k v) k=some v:=fun v=>zhq (zdr zbs)
   conv=>whnf
   repeat' ((first|refine Rq.mk (b:=chk3 _ _ _ _ _ _) (by kernel_rfl) ?_|refine zag (fun h=>?_) (fun h=>?_)<;>(try simp only[bz] at h)|refine And.intro (a:=zaw _=true) (by kernel_rfl) (LzK.e ?_)|(refine zar rfl hwa ?_;rintro _ rfl;refine⟨_,rfl,?_⟩)|(refine zar rfl hwb ?_;rintro _ rfl;refine⟨_,rfl,?_⟩)|(refine zar rfl hwm ?_;rintro _ rfl;refine⟨_,rfl,?_⟩)|(refine zar rfl hws ?_;rintro _ rfl;refine⟨_,rfl,?_⟩)|rw[hfk,zz9])<;>conv=>whnf)
   all_goals refine⟨rfl,rfl,rfl,?_⟩
   all_goals conv=>whnf
   all_goals (repeat' first|exact True.intro|exact congrArg AV.bool (by rw[zhn hl2 hkx];(simp_all;done) )|rfl|exact zgc hst (za8 zbs zbm hg)|exact zkl (za8 zbs zbm hg)|apply And.intro)
theorem zl7 (M N:List (Int×AV))(hM:RisK M)(hN:RisK N)(b c:Bool)(l m:List Int)(g oa ob:Int→AV)(sm:Int→Bool)(b2:Bool)(l2:List Int)
 (h0:DPR 167 [.agg (zal b l),.agg (zal c m)] (fun ae=>ae = .ret (.agg (zal b2 l2))))(h1:DPR 168 [.agg (zal b2 l2),.agg (zal b l)] (fun ae=>ae = .ret (.bool false)))
 (hg:∀k,zjj (g k))(ha:∀k,zjj (oa k))(hb:∀k,zjj (ob k))(hv:zhy M)(hw:zhy N)
 (hoa:∀k,(∃x,(k,x)∈M∨(k,x)∈N)→DPR 65 [zaz M b l,i64 k] (fun ae=>ae = .ret (oa k)))(hob:∀k,(∃x,(k,x)∈M∨(k,x)∈N)→DPR 65 [zaz N c m,i64 k] (fun ae=>ae = .ret (ob k)))
 (hme:∀k,(∃x,(k,x)∈M∨(k,x)∈N)→DPR 167 [oa k,ob k] (fun ae=>ae = .ret (g k)))(hsm:∀k,(∃x,(k,x)∈M∨(k,x)∈N)→DPR 168 [g k,oa k] (fun ae=>ae = .ret (.bool (sm k)))) :
 DPR 114 [zaz M b l,zaz N c m] (fun ae=>ae = .ret (.tup [zaz (layK (layK [] (zda M [] g)) (zda N [] g)) b2 l2,.bool (zic (zic true (fun k=>!sm k) M []) (fun k=>!sm k) N [])])):=by
 have hB2:RisK (layK [] (zda M [] g)):=zdr zbs;have hE2:zhy (layK [] (zda M [] g)):=za8 zbs zbm hg;have hw1:wr IntKind.i64 (0+1)=1:=wr64 (by omega) (by omega)
 have hw2:wr IntKind.i64 (wr IntKind.i64 (0+1)+1)=2:=by rw[hw1];exact wr64 (by omega) (by omega)
 refine zaf eRg zae Tryz.func114 rfl (by decide) rfl rfl ?_
 conv=>whnf
 repeat' ((first|(refine zaa rfl (h0) ?_;rintro _ rfl)|(refine zaa rfl (h1) ?_;rintro _ rfl))<;>conv=>whnf)
 refine zea eRg zae 3 ?_
 conv=>whnf
 conv=>whnf
 repeat' ((first|refine Rq.mk (by(first|rfl|((try simp only[rz]);omega))) ?_|refine Br.split (fun h=>?_) (fun h=>?_)<;>(try simp only[bz] at h)<;>try (exfalso;omega)|refine Ok3.mk _ rfl ?_)<;>conv=>whnf)
 refine zfr eRg zae M 30 33 34 35 [2,3,4,5,6,9,28,29,30,31,32,33] [4] 200 (fun l=>[(7,.bool (zic true (fun k=>!sm k) M l))]) (fun l=>[(4,.mp (layK [] (zda M l g)))]) [] hM rfl rfl rfl rfl rfl rfl rfl rfl rfl rfl ?_
 conv=>whnf
 refine⟨?_,fun l=>?_,?_,fun l hl1 hl2 k x hkx=>?_⟩
 · conv => whnf
   (repeat' first|exact True.intro|exact congrArg AV.bool lessB_all.symm|rfl|exact zgc (by first|rfl|exact(congrArg (layK []) zfp).symm) (za8 zbs zbm hg)|exact zkl (za8 zbs zbm hg)|apply And.intro)
 · conv => whnf
   rfl
 · skip
   conv=>whnf
   repeat' ((first|refine Ok3.mk _ (by rw[hw1];rfl) ?_|refine Rq.mk (by(first|rfl|((try simp only[rz]);omega))) ?_|refine Br.split (fun h=>?_) (fun h=>?_)<;>(try simp only[bz] at h)<;>try (exfalso;omega))<;>conv=>whnf)
   refine zfr eRg zae N 239 33 34 35 [2,3,4,5,6,9,28,29,30,31,32,33] [4] 200 (fun l=>[(7,.bool (zic (zic true (fun k=>!sm k) M []) (fun k=>!sm k) N l))]) (fun l=>[(4,.mp (layK (layK [] (zda M [] g)) (zda N l g)))]) [] hN rfl rfl rfl rfl rfl rfl rfl rfl rfl rfl ?_
   conv=>whnf
   refine⟨?_,fun l=>?_,?_,fun l hl1 hl2 k x hkx=>?_⟩
   · conv => whnf
     (repeat' first|exact True.intro|exact congrArg AV.bool lessB_all.symm|rfl|exact zgc (by first|rfl|exact(congrArg (layK _) zfp).symm) (za8 hB2 hE2 hg)|exact zkl (za8 hB2 hE2 hg)|apply And.intro)
   · conv => whnf
     rfl
   · skip
     conv=>whnf
     repeat' first
      | (refine Br.split (fun h=>?_) (fun h=>?_)<;>(try simp only[bz] at h)<;>first|(exfalso;omega)|(conv=>whnf))
     all_goals (generalize hgg:snap _ 20 _=rr;obtain rfl:=hgg.symm.trans (zyx (n:=19) (zo0 (n:=18) (zvl (zuc (n:=15) rfl (za8 hB2 hE2 hg)) rfl)) rfl);(conv=>whnf);rfl )
   · have hkey : ∃ y, (k, y) ∈ M ∨ (k, y) ∈ N := ⟨x, .inr (hl2 _ hkx)⟩
     obtain⟨bx,lx,rfl⟩:=hw (k,x) (hl2 _ hkx);obtain⟨ba,la,ea⟩:=ha k;obtain⟨bb,lb,eb⟩:=hb k;obtain⟨bg,lg,eg⟩:=hg k;have hwa:=hoa k hkey;have hwb:=hob k hkey;have hwm:=hme k hkey;have hws:=hsm k hkey;rw[ea] at hwa hwm hws;rw[eb] at hwb hwm;rw[eg] at hwm hws;have hst:=zho (g:=g) hB2 hl2 hkx;rw[eg] at hst;have hfk:∀v,zgw (insK (layK (layK [] (zda M [] g)) (zda N l g)) k v) k=some v:=fun v=>zhq (zdr hB2)
     conv=>whnf
     repeat' ((first|refine Rq.mk (b:=chk3 _ _ _ _ _ _) (by kernel_rfl) ?_|refine And.intro (a:=zaw _=true) (by kernel_rfl) (LzK.e ?_)|(refine zar rfl hwa ?_;rintro _ rfl;refine⟨_,rfl,?_⟩)|(refine zar rfl hwb ?_;rintro _ rfl;refine⟨_,rfl,?_⟩)|(refine zar rfl hwm ?_;rintro _ rfl;refine⟨_,rfl,?_⟩))<;>conv=>whnf)
     all_goals refine⟨rfl,rfl,rfl,?_⟩
     all_goals conv=>whnf
     all_goals (repeat' first|exact True.intro|exact congrArg AV.bool (by rw[zhn hl2 hkx];rfl )|rfl|exact zgc hst (za8 hB2 hE2 hg)|exact zkl (za8 hB2 hE2 hg)|apply And.intro)
 · have hkey : ∃ y, (k, y) ∈ M ∨ (k, y) ∈ N := ⟨x, .inl (hl2 _ hkx)⟩
   obtain⟨bx,lx,rfl⟩:=hv (k,x) (hl2 _ hkx);obtain⟨ba,la,ea⟩:=ha k;obtain⟨bb,lb,eb⟩:=hb k;obtain⟨bg,lg,eg⟩:=hg k;have hwa:=hoa k hkey;have hwb:=hob k hkey;have hwm:=hme k hkey;have hws:=hsm k hkey;rw[ea] at hwa hwm hws;rw[eb] at hwb hwm;rw[eg] at hwm hws;have hst:=zho (g:=g) zbs hl2 hkx;rw[eg] at hst;have hfk:∀v,zgw (insK (layK [] (zda M l g)) k v) k=some v:=fun v=>zhq (zdr zbs)
   conv=>whnf
   repeat' ((first|refine Rq.mk (b:=chk3 _ _ _ _ _ _) (by kernel_rfl) ?_|refine And.intro (a:=zaw _=true) (by kernel_rfl) (LzK.e ?_)|(refine zar rfl hwa ?_;rintro _ rfl;refine⟨_,rfl,?_⟩)|(refine zar rfl hwb ?_;rintro _ rfl;refine⟨_,rfl,?_⟩)|(refine zar rfl hwm ?_;rintro _ rfl;refine⟨_,rfl,?_⟩))<;>conv=>whnf)
   all_goals refine⟨rfl,rfl,rfl,?_⟩
   all_goals conv=>whnf
   all_goals (repeat' first|exact True.intro|exact congrArg AV.bool (by rw[zhn hl2 hkx];rfl )|rfl|exact zgc hst (za8 zbs zbm hg)|exact zkl (za8 zbs zbm hg)|apply And.intro)
end Go.Ago
namespace Go.Ago
def nrmL (R:AV→AV→Prop):List AV→List AV→Prop
 | [],[]=>True
 | x::xs,y::ys=>R x y∧nrmL R xs ys
 | _,_=>False
def Nrm0 (x y:AV):Prop:=y=x∨(x = .nils∧∃sz,y = .rsl sz [])
def Nrm1 (x y:AV):Prop:=Nrm0 x y∨∃xs ys,x = .agg xs∧y = .agg ys∧nrmL Nrm0 xs ys
def Nrm2 (x y:AV):Prop:=Nrm1 x y∨∃xs ys,x = .tup xs∧y = .tup ys∧nrmL Nrm1 xs ys
theorem zf1 {R:AV→AV→Prop}{c:Ctx}{w:World}(hR:∀x y v,R x y→Rel c w x v→Rel c w y v):∀{xs ys:List AV} {vs:List Value},nrmL R xs ys→RelL c w xs vs→RelL c w ys vs
 | [],[],_,_,h=>h
 | x :: xs, y :: ys, vs, hn, h => by
   obtain⟨v,us,rfl,h1,h2⟩:=h.inv_cons;exact .cons (hR _ _ _ hn.1 h1) (zf1 hR hn.2 h2)
 | [],_::_,_,hn,_=>hn.elim
 | _::_,[],_,hn,_=>hn.elim
theorem Nrm0.rel {c:Ctx}{w:World}{x y:AV}{v:Value}(h:Nrm0 x y)(hr:Rel c w x v):Rel c w y v:=by
 rcases h with rfl|⟨rfl,sz,rfl⟩
 · exact hr
 · cases hr;exact .rnil sz
theorem Nrm1.rel {c:Ctx}{w:World}{x y:AV}{v:Value}(h:Nrm1 x y)(hr:Rel c w x v):Rel c w y v:=by
 rcases h with h|⟨xs,ys,rfl,rfl,h⟩
 · exact h.rel hr
 · cases hr with
   | agg hl hr =>
     have:=zf1 (fun _ _ _ a b=>Nrm0.rel a b) h ⟨hl,hr⟩
     exact .agg this.1 this.2
theorem Nrm2.rel {c:Ctx}{w:World}{x y:AV}{v:Value}(h:Nrm2 x y)(hr:Rel c w x v):Rel c w y v:=by
 rcases h with h|⟨xs,ys,rfl,rfl,h⟩
 · exact h.rel hr
 · cases hr with
   | tup hl hr =>
     have:=zf1 (fun _ _ _ a b=>Nrm1.rel a b) h ⟨hl,hr⟩
     exact .tup this.1 this.2
theorem DP.nrm {P:Program}{E:Env}{g:FuncId}{args:List AV}{Q Q':AE→Prop}(h:DP P E g args Q)(hq:∀ae,Q ae→∃x y,ae = .ret x∧Nrm2 x y∧Q' (.ret y)):DP P E g args Q':=by
 obtain⟨ae,h1,h2⟩:=h;obtain⟨x,y,rfl,h3,h4⟩:=hq ae h2;refine⟨.ret y,⟨h1.1,fun c w vs g1 g2 g3=>(h1.2 c w vs g1 g2 g3).mono ?_⟩,h4⟩
 rintro e w' ⟨c',ae,k1,k2,k3,k4,rfl⟩
 refine⟨c',.ret y,k1,k2,k3,?_,rfl⟩;cases e<;>first|exact k4.elim|exact h3.rel k4
theorem Nrm0.r {x:AV}:Nrm0 x x := .inl rfl
theorem Nrm0.n {sz:Nat}:Nrm0 .nils (.rsl sz []) := .inr ⟨rfl,sz,rfl⟩
theorem Nrm1.r {x:AV}:Nrm1 x x := .inl .r
end Go.Ago
section
namespace Go.Proofs
def zkt:Go.Shelf.Ren:=⟨fun|144=>138|143=>185|219=>234|217=>265|225=>266|224=>267|267=>268|266=>300|314=>301|n=>n,fun|9=>9|4=>4|3=>3|5=>5|46=>169|146=>341|51=>265|n=>n,fun|1=>2|n=>n⟩
theorem zse:Go.Proofs.Lays.n144 Tryz.prog zkt:={
 mixed:=by kernel_rfl
 f143:=Tryz.func185.trans (congrArg some (by kernel_rfl))
 f144:=Tryz.func138.trans (congrArg some (by kernel_rfl))
 f217:=Tryz.func265.trans (congrArg some (by kernel_rfl))
 f219:=Tryz.func234.trans (congrArg some (by kernel_rfl))
 f224:=Tryz.func267.trans (congrArg some (by kernel_rfl))
 f225:=Tryz.func266.trans (congrArg some (by kernel_rfl))
 f266:=Tryz.func300.trans (congrArg some (by kernel_rfl))
 f267:=Tryz.func268.trans (congrArg some (by kernel_rfl))
 f314:=Tryz.func301.trans (congrArg some (by kernel_rfl))
 t3:=Tryz.underlying3
 a3:=Tryz.isAgg3
 z3:=Tryz.sizeOf3
 v3:=Tryz.zeroValue3
 t4:=Tryz.underlying4
 a4:=Tryz.isAgg4
 z4:=Tryz.sizeOf4
 v4:=Tryz.zeroValue4
 t5:=Tryz.underlying5
 a5:=Tryz.isAgg5
 z5:=Tryz.sizeOf5
 v5:=Tryz.zeroValue5
 t9:=Tryz.underlying9
 a9:=Tryz.isAgg9
 z9:=Tryz.sizeOf9
 v9:=Tryz.zeroValue9
 t46:=Tryz.underlying169
 a46:=Tryz.isAgg169
 z46:=Tryz.sizeOf169
 v46:=Tryz.zeroValue169
 t51:=Tryz.underlying265
 a51:=Tryz.isAgg265
 z51:=Tryz.sizeOf265
 v51:=Tryz.zeroValue265
 t146:=Tryz.underlying341
 a146:=Tryz.isAgg341
 z146:=Tryz.sizeOf341
 v146:=Tryz.zeroValue341
 g1:=by kernel_rfl }
end Go.Proofs
namespace Go.Ago
open Go.Proofs
def conB (s:List UInt8)(c:UInt8):Bool:=decide (0≤Lib.indexByte s c)
theorem zd0 (s:List UInt8)(c:UInt8):DPR 138 [.str s,.str [c]] (fun ae=>ae = .ret (.bool (conB s c))):=by
 refine⟨.ret (.bool (conB s c)),zdj ⟨_,Tryz.func138,rfl,by decide⟩ fun cx w vs hw hr=>?_,rfl⟩
 obtain⟨hl,hr⟩:=hr
 match vs,hl with
 | [v, u], _ =>
   have h0:=hr 0 _ _ rfl rfl;have h1:=hr 1 _ _ rfl rfl;cases h0;cases h1;refine(Any.strings_Contains_one zse ⟨s.toArray⟩ c w).mono ?_
   rintro e w' ⟨rfl,rfl⟩
   exact⟨rfl,.ret (.bool (conB s c)),.bool _,rfl⟩
end Go.Ago
end
section
namespace Go.Ago
variable {P:Program} {E:Env}
theorem zt6 {g:FuncId}{args args2:List AV}{H:zah}{nx:Nat}{R:AE→zah→Nat→Prop}(hx:nrmL Nrm2 args args2)(h:DC P E g args2 H nx R):DC P E g args H nx R:=by
 obtain⟨ae,H',nx',⟨h0,h1⟩,h2⟩:=h;exact⟨ae,H',nx',⟨h0,fun c w vs hw hf hr=>h1 c w vs hw hf (zf1 (fun _ _ _ a b=>Nrm2.rel a b) hx hr)⟩,h2⟩
theorem AC.frzG {g:FuncId}{nm:Nat}{args args2:List AV}{H:zah}{nx:Nat}{R:AE→zah→Nat→Prop}{o:AObj}(ho:H.get nm=some o)(hx:nrmL (FrzC nm o) args args2)
 (h:AC P E g args2 (.put nm none H) nx R):AC P E g args H nx R:=by
 refine⟨h.1,fun c w vs hw hf hrl=>?_⟩
 obtain⟨B,b1,b2,b3⟩:=hw.obj nm o ho;have hle:c.le ⟨c.f,fun b=>c.imm b∨b=B.b⟩:=⟨fun _ _ e=>e,fun _ hb => .inl hb⟩
 have hrel:∀{x v},Rel c w x v→Rel ⟨c.f,fun b=>c.imm b∨b=B.b⟩ w x v:=fun hr=>hr.mono hle (fun _ _=>rfl)
 have hown:Own c H B.b:=⟨nm,o,B,ho,b1,rfl⟩;have hget:∀k b,(Tr.put nm none H:zah).get k=some b→k≠nm∧H.get k=some b:=by
  intro k b e;rw[Tr.get] at e;cases hb:Nat.beq k nm with
  | true=>rw[hb] at e;cases e
  | false=>rw[hb] at e;exact⟨(fun e2=>by subst e2;rw[show Nat.beq k k=true from Nat.beq_refl k] at hb;cases hb),e⟩
 have hw2:WRel E.glob ⟨c.f,fun b=>c.imm b∨b=B.b⟩ w (.put nm none H):=by
  refine⟨fun b hb=>?_,hw.f_lt,fun k b e=>?_,fun k k' o1 o2 B1 B2 e e' f f' hb=>hw.inj _ _ _ _ B1 B2 (hget _ _ e).2 (hget _ _ e').2 f f' hb,fun g cs e=>hrel (hw.glob g cs e)⟩
  · rcases hb with hb | rfl
    · exact hw.imm_lt b hb
    · exact hw.f_lt _ _ b1
  · obtain ⟨hne, e1⟩ := hget k b e
    obtain⟨B1,c1,c2,c3⟩:=hw.obj k b e1;refine⟨B1,c1,fun hi=>?_,c3.mono rfl hrel (fun b hb=>⟨hle.imm b hb,rfl⟩)⟩
    rcases hi with hi|hi
    · exact c2 hi
    · exact hne (hw.inj _ _ _ _ B1 B e1 ho c1 b1 hi)
 have hcell:∀x y v,FrzC nm o x y→Rel c w x v→Rel ⟨c.f,fun b=>c.imm b∨b=B.b⟩ w y v:=by
  rintro x y v (rfl|hy) hr
  · exact hrel hr
  · refine (zdb (hw.only ho) (I := fun b => c.imm b ∨ b = B.b) (fun b hb => .inl hb) (fun b hb => ?_) 20 hr hy).mono ⟨fun _ _ e => (by cases e), fun _ hb => hb⟩ (fun _ _ => rfl)
    obtain⟨k,o1,B1,e1,e2,rfl⟩:=hb;rw[Tr.get] at e1;cases b:Nat.beq k nm with
    | true =>
      have:=Nat.eq_of_beq_eq_true b;subst this;rw[b1] at e2;cases e2;exact .inr rfl
    | false=>rw[b] at e1;cases e1
 have hrl2:RelL ⟨c.f,fun b=>c.imm b∨b=B.b⟩ w args2 vs:=by
  have:∀{xs ys:List AV} {vs:List Value},nrmL (FrzC nm o) xs ys→RelL c w xs vs→RelL ⟨c.f,fun b=>c.imm b∨b=B.b⟩ w ys vs:=by
   intro xs
   induction xs with
   | nil=>intro ys vs hn hr;cases ys with|nil=>obtain rfl:=hr.inv_nil;exact RelL.nil|cons _ _=>exact hn.elim
   | cons x xs ih =>
     intro ys vs hn hr;cases ys with
     | nil=>exact hn.elim
     | cons y ys =>
       obtain⟨v,us,rfl,h1,h2⟩:=hr.inv_cons;exact .cons (hcell _ _ _ hn.1 h1) (ih hn.2 h2)
  exact this hx hrl
 have hsub:∀b,Own ⟨c.f,fun b=>c.imm b∨b=B.b⟩ (.put nm none H) b→Own c H b:=by
  rintro b ⟨k,o1,B1,e1,e2,rfl⟩
  exact⟨k,o1,B1,(hget _ _ e1).2,e2,rfl⟩
 refine(h.2 _ w vs hw2 hf hrl2).mono ?_
 rintro e w' ⟨c',H',nx',ae,k1,k2,k3,k4,k5,k6⟩
 refine⟨c',H',nx',ae,⟨k1.f,fun b hb=>k1.imm b (.inl hb),k1.os,k1.tape,k1.output,k1.size,fun b hb hn=>k1.other b hb fun ho=>hn (hsub b ho),fun b hb=>?_,fun b hb=>(k1.own b hb).ip (hsub b) id⟩,k2,k3,k4,k5,k6⟩
 rcases k1.newimm b hb with(g|rfl)|g|g
 · exact .inl g
 · exact .inr (.inl hown)
 · exact .inr (.inl (hsub b g))
 · exact .inr (.inr g)
theorem DC.frzG {g:FuncId}{nm:Nat}{args args2:List AV}{H:zah}{nx:Nat}{R:AE→zah→Nat→Prop}{o:AObj}(ho:H.get nm=some o)(hx:nrmL (FrzC nm o) args args2)
 (h:DC P E g args2 (.put nm none H) nx R):DC P E g args H nx R:=by
 obtain⟨ae,H',nx',h1,h2⟩:=h;exact⟨ae,H',nx',h1.frzG ho hx,h2⟩
end Go.Ago
end
section
namespace Go.Ago
abbrev yc9:=FuncId→List AV→zah→Nat→(AE→zah→Nat→Prop)→Prop
abbrev yfs:=Nat→AV→List AV→zah→(AV→List (Nat×Option AObj)→List Nat→Prop)→Prop
abbrev yk2:=Code→(AX→Nat→St→Prop)→Nat→St→Prop
section
variable (P:Program) (E:Env) (C:yc9) (V:yfs) (L:yk2)
def yjs (nx:Nat)(f:AV)(args:List AV)(S:St)(dst:Option Tmp)(next:Nat→St→Prop)(K:AX→Nat→St→Prop):Prop:=
 match f with
 | .fn (.func g) first cap => fL AV.f1 (first ++ args ++ cap) fun args' => C g args' S.heap nx fun ae H' nx' => match ae with
   | .ret v=>match S with|⟨sl,n,_,_⟩=>put3 sl n dst v H' (next nx')
   | .pan v=>K (.pan v) nx' (S.put none .any H' 0)
 | _=>False
def eop (nm nx:Nat)(o:Oper)(S:St)(next:Nat→St→Prop)(K:AX→Nat→St→Prop):Prop:=
 match S with
 | ⟨sl, n, H, x⟩ => cond (zbw ⟨sl, n, H, x⟩ o.dst) (match o.op with
   | .call { callee := .value f,args,.. }=>yjs C nx (St.ev E ⟨sl,n,H,x⟩ f) (args.toList.map (St.ev E ⟨sl,n,H,x⟩)) ⟨sl,n,H,x⟩ o.dst next K
   | op=>(sem E nm (St.ev E ⟨sl,n,H,x⟩) op).h3 H (fun v up=>upd3 H (fun H'=>put3 sl n o.dst v H' (next nx)) up) (fun v=>v.f1 fun v'=>K (.pan v') nx ⟨sl,n,H,x⟩)) False
def eops (ops:List Oper)(base:Nat)(K:AX→Nat→St→Prop):List Oper→Nat→Nat→St→Prop
 | [],_,nx,S=>K .normal nx S
 | o::rest,i,nx,S=>zrc ops S o.guard (eop E C (base+i) nx o S (eops ops base K rest (i+1)) K)
  (match S with|⟨sl,n,H,x⟩=>cond (zbw ⟨sl,n,H,x⟩ o.dst) (put3 sl n o.dst (.tup []) H (eops ops base K rest (i+1) nx)) False)
def eopD (nm:Nat)(o:Oper)(S:St)(next:AV→List (Nat×Option AObj)→List Nat→Prop):Prop:=
 match S with
 | ⟨sl, n, H, x⟩ => cond (zbw ⟨sl, n, H, x⟩ o.dst) (match o.op with
   | .call { callee := .value f,args,.. }=>(St.ev E ⟨sl,n,H,x⟩ f).f1 fun f'=>fL AV.f1 (args.toList.map (St.ev E ⟨sl,n,H,x⟩)) fun args'=>V nm f' args' H fun v up rds=>v.f2L false fun v'=>next v' up rds
   | op=>(sem E nm (St.ev E ⟨sl,n,H,x⟩) op).hR3 H (fun v up l=>v.f2L false fun v'=>next v' up l) []) False
def eD (ops:List Oper)(base:Nat)(masks:List Nat)(K:St→Prop):List Oper→Nat→St→List (Nat×List Nat×List Nat)→List (Nat×List Nat×List Nat)→Prop
 | [],_,S,_,_=>K S
 | o::rest,i,S,acc,wacc=>zrc ops S o.guard
  (eopD E V (base + i) o S fun v up rds => cond (chk3 masks i rds up acc wacc) (app3 S o.dst v up fun S'=>match up with
    | []=>eD ops base masks K rest (i+1) S' ((i,rds,[])::acc) wacc
    | up=>eD ops base masks K rest (i+1) S' ((i,rds,up.map (·.1))::acc) ((i,rds,up.map (·.1))::wacc)) False)
  (cond (zbw S o.dst) (app3 S o.dst (.tup []) [] fun S'=>eD ops base masks K rest (i+1) S' ((i,[],[])::acc) wacc) False)
def ew:Code→(AX→Nat→St→Prop)→Nat→St→Prop
 | .skip,K,nx,S=>K .normal nx S
 | .label _,K,nx,S=>K .normal nx S
 | .exit i,K,nx,S=>K (.exit i) nx S
 | .goto l,K,nx,S=>K (.goto l) nx S
 | .ret,K,nx,S=>K .ret nx S
 | .region _ ops false,K,nx,S=>fN (nx+ops.size) fun nx'=>eops E C ops.toList nx K ops.toList 0 nx' S
 | .region _ ops true,K,nx,S=>cond (zaw ops.toList) (fN (nx+ops.size) fun nx'=>eD E V ops.toList nx (befs ops.toList []) (K .normal nx') ops.toList 0 S [] []) False
 | .seq a b,K,nx,S=>ew a (fun e nx' S'=>match e with | .normal=>ew b K nx' S'|e=>K e nx' S') nx S
 | .cond x t e, K, nx, S => match S.ev E x with
   | .bool b=>cond b (ew t K nx S) (ew e K nx S)
   | _=>False
 | .block id body, K, nx, S => ew body (fun e nx' S' => match e with
   | .exit j=>cond (Nat.beq j id) (K .normal nx' S') (K (.exit j) nx' S')
   | e=>K e nx' S') nx S
 | .loop body,K,nx,S=>L body K nx S
 | .scope code,K,nx,S=>ew code (ynt K) nx S
 | .rangeFunc ..,K,nx,S=>False
 | .refuse _,K,nx,S=>False
end
section
variable {P:Program} {E:Env} {C:yc9} {V:yfs} {L:yk2}
theorem yjr (hC:∀g args H nx R,C g args H nx R→DC P E g args H nx R){nx:Nat}{f:AV}{args:List AV}{S:St}{dst:Option Tmp}{next:Nat→St→Prop}{K:AX→Nat→St→Prop}(h:yjs C nx f args S dst next K):zrm P E nx f args S dst next K:=by
 obtain⟨sl,n,H,x⟩:=S;unfold yjs at h;unfold zrm;split at h
 · rename_i g first cap
   refine(hC _ _ _ _ _ (fL_s (fun _ _ h=>AV.f1_s h) h)).mono fun ae H' nx' hr=>?_
   cases ae with
   | ret v=>exact zka hr
   | pan v=>exact hr
 · exact h.elim
theorem yqk (hC:∀g args H nx R,C g args H nx R→DC P E g args H nx R){nm nx:Nat}{o:Oper}{S:St}{next:Nat→St→Prop}{K:AX→Nat→St→Prop}(h:eop E C nm nx o S next K):dop1 P E nm nx o S next K:=by
 obtain⟨sl,n,H,x⟩:=S;simp only[eop] at h;cases hd:zbw ⟨sl,n,H,x⟩ o.dst with
 | false=>rw[hd] at h;exact h.elim
 | true =>
   rw[hd] at h;refine⟨hd,?_⟩;simp only[cond_true] at h;split at h
   · rename_i f args ts hop
     rw[hop];exact yjr hC h
   · rename_i hop
     have h1:=Rd.h3_s h;have h2:=Rd.holds_mono (K':=fun eff=>next nx (St.put ⟨sl,n,H,x⟩ o.dst eff.val (Eff.upd H eff.up) 0)) (Kp':=fun v=>K (.pan v) nx ⟨sl,n,H,x⟩) (fun e he=>zka (h0:=H) (x:=x) (zp4 he)) (fun v hv=>AV.f1_s (k:=fun v'=>K (.pan v') nx ⟨sl,n,H,x⟩) hv) h1
     split
     · rename_i f args ts he;exact absurd he (hop f args ts)
     · exact h2
theorem zrl (hC:∀g args H nx R,C g args H nx R→DC P E g args H nx R){ops:List Oper}{base:Nat}{K:AX→Nat→St→Prop}:∀(rest:List Oper) {i nx:Nat} {S:St},eops E C ops base K rest i nx S→zer P E ops base K rest i nx S
 | [],_,_,_,h=>h
 | o :: rest, i, nx, S, h => by
   simp only[eops,zrc] at h;simp only[zer,gate];have hskip:(match S with|⟨sl,n,H,x⟩=>cond (zbw ⟨sl,n,H,x⟩ o.dst) (put3 sl n o.dst (.tup []) H (eops E C ops base K rest (i+1) nx)) False)→(zbw S o.dst=true∧zer P E ops base K rest (i+1) nx (S.put o.dst (.tup []) S.heap 0)):=by
    intro h;obtain⟨sl,n,H,x⟩:=S;dsimp only at h;cases hd:zbw ⟨sl,n,H,x⟩ o.dst with
    | false=>rw[hd] at h;exact h.elim
    | true=>rw[hd] at h;exact⟨rfl,zrl hC rest (zka h)⟩
   have hrun:eop E C (base+i) nx o S (eops E C ops base K rest (i+1)) K→dop1 P E (base+i) nx o S (zer P E ops base K rest (i+1)) K:=fun h=>by
    obtain⟨hd,h⟩:=yqk (P:=P) hC h;refine⟨hd,?_⟩;split at h
    · unfold zrm at h ⊢
      split at h
      · refine DC.mono h fun ae H' nx' hr => ?_
        cases ae with
        | ret v=>exact zrl hC rest hr
        | pan v=>exact hr
      · refine DY.mono h fun ae H' nx' hr => ?_
        cases ae with
        | ret v=>exact zrl hC rest hr
        | pan v=>exact hr
      · exact h.elim
    · exact Rd.holds_mono (fun e he=>zrl hC rest he) (fun _ h=>h) h
   cases hg:o.guard with
   | none=>rw[hg] at h;exact hrun h
   | some p =>
     obtain⟨j,want⟩:=p;rw[hg] at h;dsimp only at h ⊢;cases hv:zcx ops S j want with
     | none=>rw[hv] at h;exact h.elim
     | some b =>
       rw[hv] at h;dsimp only at h ⊢;cases hb:b with
       | true=>rw[hb] at h;exact⟨fun _=>hrun h,fun h=>by cases h⟩
       | false=>rw[hb] at h;exact⟨(fun h=>by cases h),fun _=>hskip h⟩
theorem eD_s (hV:∀nm f args H R,V nm f args H R→DV P E nm f args H R){ops:List Oper}{base:Nat}{masks:List Nat}{K:St→Prop}{n:Nat}:∀(rest:List Oper) {i:Nat} {S:St} {acc wacc:List (Nat×List Nat×List Nat)},(∀p∈acc,p.2.2≠[]→p∈wacc) →
 eD E V ops base masks K rest i S acc wacc→∃S',K S'∧awD P E ops base masks (fun s=>s=S'.at_ n) rest i (S.at_ n) acc
 | [],i,S,acc,wacc,_,h=>⟨S,h,rfl⟩
 | o :: rest, i, S, acc, wacc, hw, h => by
   have hp : (eopD E V (base + i) o S fun v up rds => cond (chk3 masks i rds up acc wacc) (app3 S o.dst v up fun S'=>match up with
    | []=>eD E V ops base masks K rest (i+1) S' ((i,rds,[])::acc) wacc
    | up=>eD E V ops base masks K rest (i+1) S' ((i,rds,up.map (·.1))::acc) ((i,rds,up.map (·.1))::wacc)) False) →
    ∃S',K S'∧dop P E (base+i) o (S.at_ n) fun d=>chk masks i d acc=true∧awD P E ops base masks (fun s=>s=S'.at_ n) rest (i+1) ((S.at_ n).app o d) ((i,d.rds,d.keys)::acc):=by
    intro h;have go : ∀ v up rds, (cond (chk3 masks i rds up acc wacc) (app3 S o.dst v up fun S'=>match up with
     | []=>eD E V ops base masks K rest (i+1) S' ((i,rds,[])::acc) wacc
     | up=>eD E V ops base masks K rest (i+1) S' ((i,rds,up.map (·.1))::acc) ((i,rds,up.map (·.1))::wacc)) False) →
     ∃S',K S'∧chk masks i ⟨v,up,rds⟩ acc=true∧awD P E ops base masks (fun s=>s=S'.at_ n) rest (i+1) ((S.at_ n).app o ⟨v,up,rds⟩) ((i,rds,up.map (·.1))::acc):=by
     intro v up rds h;cases hc:chk3 masks i rds up acc wacc with
     | false=>rw[hc] at h;exact h.elim
     | true =>
       rw[hc] at h;simp only[cond_true] at h;obtain⟨S1,h1,h2⟩:=zwi (n:=n) (rds:=rds) h;rw[h2];cases up with
       | nil =>
         dsimp only at h1;obtain ⟨S', g1, g2⟩ := eD_s hV rest (fun p hp hne=>by
          rcases List.mem_cons.1 hp with rfl|hp
          · exact absurd (by rfl) hne
          · exact hw p hp hne) h1
         exact⟨S',g1,zwb hw v hc,g2⟩
       | cons a up =>
         dsimp only at h1;obtain ⟨S', g1, g2⟩ := eD_s hV rest (fun p hp hne=>by
          rcases List.mem_cons.1 hp with rfl|hp
          · exact List.mem_cons_self
          · exact List.mem_cons_of_mem _ (hw p hp hne)) h1
         exact⟨S',g1,zwb hw v hc,g2⟩
    obtain⟨sl,m,H,x⟩:=S;simp only[eopD] at h;cases hd:zbw ⟨sl,m,H,x⟩ o.dst with
    | false=>rw[hd] at h;exact h.elim
    | true =>
      rw[hd] at h;simp only[cond_true] at h;unfold dop;split at h
      · rename_i f args ts hop
        have h:=fL_s (fun _ _ h=>AV.f1_s h) (AV.f1_s h)
        rcases hV _ _ _ _ _ h with⟨v,rds,hcv,h⟩|⟨v,up,hcv,h⟩
        · obtain ⟨S', g1, g2, g3⟩ := go v [] rds (AV.f2L_s h)
          refine⟨S',g1,hd,?_⟩;rw[hop];exact .inl ⟨v,rds,hcv,g2,g3⟩
        · obtain ⟨S', g1, g2, g3⟩ := go v up [] (AV.f2L_s h)
          refine⟨S',g1,hd,?_⟩;rw[hop];exact .inr ⟨v,up,hcv,g2,g3⟩
      · rename_i hop
        obtain⟨e,l,h1,h2⟩:=Rd.holdsR_one (Rd.hR3_s h);obtain⟨S',g1,g2,g3⟩:=go e.val e.up l (AV.f2L_s h1);refine⟨S',g1,hd,?_⟩;have:=Rd.holdsR_mono (K':=fun eff l=>chk masks i ⟨eff.val,eff.up,l⟩ acc=true∧awD P E ops base masks (fun s=>s=S'.at_ n) rest (i+1) (((⟨sl,m,H,x⟩:St).at_ n).app o ⟨eff.val,eff.up,l⟩) ((i,l,eff.up.map (·.1))::acc)) (fun e' l' he=>by obtain⟨rfl,rfl⟩:=he;exact⟨g2,g3⟩) h2
        split
        · rename_i f args ts he;exact absurd he (hop f args ts)
        · exact this
   have hq:cond (zbw S o.dst) (app3 S o.dst (.tup []) [] fun S'=>eD E V ops base masks K rest (i+1) S' ((i,[],[])::acc) wacc) False →
    ∃S',K S'∧zbw S o.dst=true∧awD P E ops base masks (fun s=>s=S'.at_ n) rest (i+1) ((S.at_ n).app o ⟨.tup [],[],[]⟩) ((i,[],[])::acc):=by
    intro h;cases hd:zbw S o.dst with
    | false=>rw[hd] at h;exact h.elim
    | true =>
      rw[hd] at h;simp only[cond_true] at h;obtain⟨S1,h1,h2⟩:=zwi (n:=n) (rds:=[]) h;rw[h2];obtain ⟨S', g1, g2⟩ := eD_s hV rest (fun p hp hne=>by
       rcases List.mem_cons.1 hp with rfl|hp
       · exact absurd (by rfl) hne
       · exact hw p hp hne) h1
      exact⟨S',g1,rfl,g2⟩
   have hgv:∀j b,zcx ops (S.at_ n) j b=zcx ops S j b:=fun _ _=>rfl
   have hdst:zbw (S.at_ n) o.dst=zbw S o.dst:=rfl;simp only[eD,zrc] at h;simp only[awD,gate,hgv,hdst];cases hg:o.guard with
   | none=>rw[hg] at h;exact hp h
   | some p =>
     obtain⟨j,want⟩:=p;rw[hg] at h;dsimp only at h ⊢;cases hv:zcx ops S j want with
     | none=>rw[hv] at h;exact h.elim
     | some b =>
       rw[hv] at h;dsimp only at h ⊢;cases hb:b with
       | true =>
         rw[hb] at h;obtain⟨S',g1,g2⟩:=hp h;exact⟨S',g1,fun _=>g2,fun h=>by cases h⟩
       | false =>
         rw[hb] at h;obtain⟨S',g1,g2⟩:=hq h;exact⟨S',g1,(fun h=>by cases h),fun _=>g2⟩
theorem ew_s (hE:EnvOK P E)(hmix:P.follows .mixedOrders=true)(hC:∀g args H nx R,C g args H nx R→DC P E g args H nx R)(hV:∀nm f args H R,V nm f args H R→DV P E nm f args H R)(hL:∀body K nx S,L body K nx S→DW P E false nx (.loop body) K S) :
 ∀(code:Code) {K:AX→Nat→St→Prop} {nx:Nat} {S:St},ew E C V L code K nx S→DW P E false nx code K S
 | .skip,K,nx,S,h=>zcn hE (code := .skip) h
 | .label l,K,nx,S,h=>zcn hE (code := .label l) h
 | .exit i,K,nx,S,h=>zcn hE (code := .exit i) h
 | .goto l,K,nx,S,h=>zcn hE (code := .goto l) h
 | .ret,K,nx,S,h=>zcn hE (code := .ret) h
 | .region id ops false,K,nx,S,h=>zcn hE (code := .region id ops false) (zrl hC ops.toList (fN_s h))
 | .region _ ops true, K, nx, S, h => by
   simp only[ew] at h;cases hd:zaw ops.toList with
   | false=>rw[hd] at h;exact h.elim
   | true =>
     rw[hd] at h
     replace h:eD E V ops.toList nx (befs ops.toList []) (K .normal (nx+ops.size)) ops.toList 0 S [] []:=fN_s (k:=fun nx'=>eD E V ops.toList nx (befs ops.toList []) (K .normal nx') ops.toList 0 S [] []) h
     obtain⟨S',h1,h2⟩:=eD_s hV (n:=nx+ops.size) ops.toList (fun p hp=>by cases hp) h
     obtain⟨he,hs⟩:=zv7 hd;exact⟨.normal,nx+ops.size,S',yc2 hE hmix he hs (zjh (fun s hs=>⟨rfl,hs⟩) ops.toList h2),h1⟩
 | .seq x y, K, nx, S, h => by
   obtain⟨ax,nx',S',h1,h2⟩:=ew_s hE hmix hC hV hL x h;cases ax with
   | normal =>
     obtain⟨ax2,nx2,S2,g1,g2⟩:=ew_s hE hmix hC hV hL y h2;refine⟨ax2,nx2,S2,SW.seq (h1.mono fun e s he=>?_),g2⟩
     obtain⟨rfl,rfl⟩:=he;exact g1
   | exit i=>exact⟨_,nx',S',SW.seq (h1.mono fun e s he=>by obtain⟨rfl,rfl⟩:=he;exact⟨rfl,rfl⟩),h2⟩
   | goto i=>exact⟨_,nx',S',SW.seq (h1.mono fun e s he=>by obtain⟨rfl,rfl⟩:=he;exact⟨rfl,rfl⟩),h2⟩
   | ret=>exact⟨_,nx',S',SW.seq (h1.mono fun e s he=>by obtain⟨rfl,rfl⟩:=he;exact⟨rfl,rfl⟩),h2⟩
   | pan v=>exact⟨_,nx',S',SW.seq (h1.mono fun e s he=>by obtain⟨rfl,rfl⟩:=he;exact⟨rfl,rfl⟩),h2⟩
 | .cond x t e, K, nx, S, h => by
   simp only[ew] at h;cases hx:S.ev E x<;>rw[hx] at h<;>first|exact h.elim|skip
   rename_i b;cases b with
   | true =>
     obtain⟨ax,nx',S',g1,g2⟩:=ew_s hE hmix hC hV hL t h;refine⟨ax,nx',S',fun r hrr m hm c a w hs=>?_,g2⟩
     have hr:=hs.ev x;rw[show(S.at_ nx).ev E x = .bool true from hx] at hr
     generalize hv:a.eval x=v at hr
     cases hr;exact wpIn_cond hv (g1 r hrr m hm c a w hs)
   | false =>
     obtain⟨ax,nx',S',g1,g2⟩:=ew_s hE hmix hC hV hL e h;refine⟨ax,nx',S',fun r hrr m hm c a w hs=>?_,g2⟩
     have hr:=hs.ev x;rw[show(S.at_ nx).ev E x = .bool false from hx] at hr
     generalize hv:a.eval x=v at hr
     cases hr;exact wpIn_cond hv (g1 r hrr m hm c a w hs)
 | .block id body, K, nx, S, h => by
   obtain⟨ax,nx',S',h1,h2⟩:=ew_s hE hmix hC hV hL body h;cases ax with
   | exit j =>
     by_cases hj:j=id
     · subst hj
       dsimp only at h2;rw[show Nat.beq j j=true by simp] at h2
       exact⟨.normal,nx',S',SW.block (h1.mono fun e s he=>by obtain⟨rfl,rfl⟩:=he;exact⟨fun _=>⟨rfl,rfl⟩,fun h=>absurd rfl h⟩),h2⟩
     · dsimp only at h2
       rw[show Nat.beq j id=false by
        cases e:Nat.beq j id with
        | false=>rfl
        | true=>exact absurd (Nat.eq_of_beq_eq_true e) hj] at h2
       exact⟨_,nx',S',SW.block (h1.mono fun e s he=>by obtain⟨rfl,rfl⟩:=he;exact⟨fun h=>absurd h hj,fun _=>⟨rfl,rfl⟩⟩),h2⟩
   | normal=>exact⟨_,nx',S',SW.block (h1.mono fun e s he=>by obtain⟨rfl,rfl⟩:=he;exact⟨rfl,rfl⟩),h2⟩
   | goto i=>exact⟨_,nx',S',SW.block (h1.mono fun e s he=>by obtain⟨rfl,rfl⟩:=he;exact⟨rfl,rfl⟩),h2⟩
   | ret=>exact⟨_,nx',S',SW.block (h1.mono fun e s he=>by obtain⟨rfl,rfl⟩:=he;exact⟨rfl,rfl⟩),h2⟩
   | pan v=>exact⟨_,nx',S',SW.block (h1.mono fun e s he=>by obtain⟨rfl,rfl⟩:=he;exact⟨rfl,rfl⟩),h2⟩
 | .loop body,K,nx,S,h=>hL body K nx S h
 | .scope code, K, nx, S, h => by
   obtain⟨ax,nx',S',h1,h2⟩:=ew_s hE hmix hC hV hL code h;refine⟨ax,nx',S',SW.scope (h1.mono fun a s hh=>?_),?_⟩
   · obtain ⟨rfl, rfl⟩ := hh
     cases a<;>first|exact h2.elim|exact⟨rfl,rfl⟩
   · cases ax<;>first|exact h2.elim|exact h2
 | .rangeFunc ..,K,nx,S,h=>h.elim
 | .refuse _,K,nx,S,h=>h.elim
end
end Go.Ago
end
