/-
  Part 32: lemmas, each with its own conditions.
-/
import Derived.Test.YthaolifcglpkdaaGreatDoorA31
set_option maxRecDepth 100000
set_option maxHeartbeats 0
set_option linter.all false
namespace Go.Ago
open Go.Proofs
attribute [local irreducible] ltI leI eqI eqS shrI wr inB mmI comp DC DP DW DV
attribute [local irreducible] ckP ct InR PLc zev zeu
def ynd (b1 b2 b3 b4 b5 b6 b7 b8 b9 b10 b11 b12 b13 b14 b15:Bool):List (List AV):=[[.str [68],.bool b1],[.str [65],.bool b2],[.str [66],.bool b3],[.str [76],.bool b4],[.str [84],.bool b5],[.str [85],.bool b6],[.str [87],.bool b7],[.str [78],.bool b8],[.str [77],.bool b9],[.str [80],.bool b10],[.str [86],.bool b11],[.str [70],.bool b12],[.str [89],.bool b13],[.str [83],.bool b14],[.str [82],.bool b15]]
theorem zwy (b1 b2 b3 b4 b5 b6 b7 b8 b9 b10 b11 b12 b13 b14 b15:Bool)(i:Nat)(h:i<15):∃(f:UInt8) (c:Bool),(ynd b1 b2 b3 b4 b5 b6 b7 b8 b9 b10 b11 b12 b13 b14 b15)[0+((i:Int)).toNat]? = some [.str [f],.bool c]∧(i=0→f=68∧c=b1)∧(i=1→f=65∧c=b2)∧(i=2→f=66∧c=b3)∧(i=3→f=76∧c=b4):=by
 match i,h with
 | 0,_=>exact⟨_,_,rfl,by simp,by simp,by simp,by simp⟩
 | 1,_=>exact⟨_,_,rfl,by simp,by simp,by simp,by simp⟩
 | 2,_=>exact⟨_,_,rfl,by simp,by simp,by simp,by simp⟩
 | 3,_=>exact⟨_,_,rfl,by simp,by simp,by simp,by simp⟩
 | 4,_=>exact⟨_,_,rfl,by simp,by simp,by simp,by simp⟩
 | 5,_=>exact⟨_,_,rfl,by simp,by simp,by simp,by simp⟩
 | 6,_=>exact⟨_,_,rfl,by simp,by simp,by simp,by simp⟩
 | 7,_=>exact⟨_,_,rfl,by simp,by simp,by simp,by simp⟩
 | 8,_=>exact⟨_,_,rfl,by simp,by simp,by simp,by simp⟩
 | 9,_=>exact⟨_,_,rfl,by simp,by simp,by simp,by simp⟩
 | 10,_=>exact⟨_,_,rfl,by simp,by simp,by simp,by simp⟩
 | 11,_=>exact⟨_,_,rfl,by simp,by simp,by simp,by simp⟩
 | 12,_=>exact⟨_,_,rfl,by simp,by simp,by simp,by simp⟩
 | 13,_=>exact⟨_,_,rfl,by simp,by simp,by simp,by simp⟩
 | 14,_=>exact⟨_,_,rfl,by simp,by simp,by simp,by simp⟩
def zdo (i:Ins):Prop:=(1≤i.op∧i.op≤38)∧(hasB i.op 68=false→i.d = -1)∧(hasB i.op 65=false→i.a = -1)∧(hasB i.op 66=false→i.b = -1)∧(hasB i.op 76=false→i.l.l=[])
def yfw (i:Ins)(n:Nat):Prop:=(1≤i.op∧i.op≤38)∧(0<n→hasB i.op 68=false→i.d = -1)∧(1<n→hasB i.op 65=false→i.a = -1)∧(2<n→hasB i.op 66=false→i.b = -1)∧(3<n→hasB i.op 76=false→i.l.l=[])
theorem zyf (i:Ins)(n:Nat)(f:UInt8)(c:Bool)(hb:yfw i n)(h1:n=0→f=68∧c=eqI i.d (-1))(h2:n=1→f=65∧c=eqI i.a (-1))(h3:n=2→f=66∧c=eqI i.b (-1))(h4:n=3→f=76∧c=eqI (↑(List.map (fun n=>[i64 n]) i.l.l).length) 0)(h:c=true∨hasB i.op f=true):yfw i (n+1):=by
 obtain⟨b0,b1,b2,b3,b4⟩:=hb;refine⟨b0,fun _ hh=>?_,fun _ hh=>?_,fun _ hh=>?_,fun _ hh=>?_⟩
 · rcases Nat.lt_or_ge 0 n with hn | hn
   · exact b1 hn hh
   · obtain ⟨rfl, rfl⟩ := h1 (by omega); rw [hh] at h; rcases h with h | h
     · exact of_decide_eq_true (by rw[zrj] at h;exact decide_eq_true h)
     · exact absurd h (by decide)
 · rcases Nat.lt_or_ge 1 n with hn | hn
   · exact b2 hn hh
   · rcases Nat.lt_or_ge n 1 with hm | hm
     · omega
     · obtain ⟨rfl, rfl⟩ := h2 (by omega); rw [hh] at h; rcases h with h | h
       · exact of_decide_eq_true (by rw[zrj] at h;exact decide_eq_true h)
       · exact absurd h (by decide)
 · rcases Nat.lt_or_ge 2 n with hn | hn
   · exact b3 hn hh
   · rcases Nat.lt_or_ge n 2 with hm | hm
     · omega
     · obtain ⟨rfl, rfl⟩ := h3 (by omega); rw [hh] at h; rcases h with h | h
       · exact of_decide_eq_true (by rw[zrj] at h;exact decide_eq_true h)
       · exact absurd h (by decide)
 · rcases Nat.lt_or_ge 3 n with hn | hn
   · exact b4 hn hh
   · rcases Nat.lt_or_ge n 3 with hm | hm
     · omega
     · obtain ⟨rfl, rfl⟩ := h4 (by omega); rw [hh] at h; rcases h with h | h
       · rw[zrj] at h;exact List.eq_nil_of_length_eq_zero (by simpa using h)
       · exact absurd h (by decide)
theorem yda (i:Ins)(n:Nat)(hb:yfw i n)(h:15≤n):zdo i:=
 ⟨hb.1,hb.2.1 (by omega),hb.2.2.1 (by omega),hb.2.2.2.1 (by omega),hb.2.2.2.2 (by omega)⟩
theorem yo9 (i:Ins):DPR 55 [i.av] (retB fun x=>x=true→zdo i):=by
 refine zaf eRg zae Tryz.func55 rfl (by decide) rfl rfl ?_
 have hl:=i.l.h
 conv=>whnf
 repeat' ((first|refine Rq.mk (b:=chk3 _ _ _ _ _ _) (by kernel_rfl) ?_|refine Br.split (fun h=>?_) (fun h=>?_)<;>(try simp only[bz] at h)|refine And.intro (a:=zaw _=true) (by kernel_rfl) (LzK.l ?_))<;>conv=>whnf)
 all_goals first|exact⟨_,rfl,fun h=>absurd h (by decide)⟩|skip
 refine zai eRg zae [1,2,81,82] [] 0 (fun n:{n:Nat // yfw i n}=>[(83,i64 n.1)]) (fun _=>[]) [] (fun n=>16 - n.1) (⟨0,⟨by omega,by omega,by omega,by omega,by omega⟩⟩) ?_
 conv=>whnf
 refine⟨?_,fun n=>?_⟩
 · conv => whnf
   (repeat' first|exact True.intro|rfl|apply And.intro )
 conv=>whnf
 repeat' ((first|refine Rq.mk (by(first|rfl|((try simp only[rz]);omega))) ?_|refine Br.split (fun h=>?_) (fun h=>?_)<;>(try simp only[bz] at h)|refine zag (fun h=>?_) (fun h=>?_)<;>(try simp only[bz] at h)|(refine zaa rfl (yi5 _ _) ?_;rintro _ rfl)|(obtain⟨f,c,he,hs1,hs2,hs3,hs4⟩:=zwy _ _ _ _ _ _ _ _ _ _ _ _ _ _ _ n.1 (by omega);refine zap he ?_;clear he))<;>conv=>whnf)
 all_goals skip
 all_goals first|exact⟨_,rfl,fun h=>absurd h (by decide)⟩|exact⟨_,rfl,fun _=>yda i n.1 n.2 (by omega)⟩|(refine⟨⟨n.1+1,zyf i n.1 _ _ n.2 hs1 hs2 hs3 hs4 (by first|exact Or.inl h|exact Or.inr h)⟩,(by(conv=>whnf);(repeat' first|exact True.intro|rfl|apply And.intro|(refine cw ?_ ?_ ?_<;>(try dsimp only)<;>omega) )),rfl,(by(try simp only[List.length_map] at *)<;>omega)⟩)
end Go.Ago
