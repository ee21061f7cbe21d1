/-
  Part 34: lemmas, each with its own conditions.
-/
import Derived.Test.YthaolifcglpkdaaGreatDoorA33
set_option maxRecDepth 100000
set_option maxHeartbeats 0
set_option linter.all false
section
theorem List.Pairwise.ip {α:Type _}{R S:α→α→Prop}(H:∀{a b},R a b→S a b){l:List α}(h:l.Pairwise R):l.Pairwise S:=by
 induction h with
 | nil=>exact .nil
 | cons h1 _ ih=>exact .cons (fun x hx=>H (h1 x hx)) ih
namespace Go.Ago
open Go.Proofs
theorem zf3:∀(m:Nat) (l:List Int),l.Nodup→(∀x∈l,0≤x∧x<(m:Int))→l.length≤m
 | 0, l, _, h => by
   cases l with
   | nil=>exact Nat.le_refl _
   | cons x l=>have:=h x List.mem_cons_self;omega
 | m + 1, l, hn, h => by
   by_cases hm:(m:Int)∈l
   · have h1 := zf3 m (l.erase (m : Int)) (hn.erase _) (fun x hx=>by
      have h2:=(hn.mem_erase_iff).1 hx;have h3:=h x h2.2;have h4:=h2.1;omega)
     have:=List.length_erase_of_mem hm;omega
   · have := zf3 m l hn (fun x hx=>by
      have h3:=h x hx;have:x≠m:=fun e=>hm (e ▸ hx)
      omega)
     omega
theorem mem_listW {ws:List W64}{n:Nat}{r:Int}:r∈za3 ws n↔∃k:Nat,r=(k:Int)∧k<n∧bitW ws k=true:=by
 unfold za3;simp only[List.mem_map,List.mem_filter,List.mem_range]
 constructor
 · rintro⟨k,⟨a,b⟩,rfl⟩;exact⟨k,rfl,a,b⟩
 · rintro⟨k,rfl,a,b⟩;exact⟨k,⟨a,b⟩,rfl⟩
theorem zs5 {ws:List W64}{n:Nat}:(za3 ws n).Nodup:=by
 unfold za3;refine List.pairwise_map.2 ?_;refine(List.Pairwise.filter _ (List.nodup_range (n:=n))).ip ?_;intro a b h e;exact h (by omega)
def zkk (g:Gr)(S:List (List W64))(k:Nat):List Int:=za3 (rowS S k) g.regs.toNat
def zg3 (g:Gr)(S:List (List W64))(k:Nat):List W64:=if h:k<g.ins.l.length then (if 0≤zbg g.ins.l[k] then putW (rowS S (k+1)) (zbg g.ins.l[k]).toNat else rowS S (k+1)) else rowS S (k+1)
def zjy (g:Gr)(S:List (List W64))(k:Nat):List Int:=za3 (zg3 g S k) g.regs.toNat
structure PressN (g:Gr)(S:List (List W64))(m:Nat)(n:Int):Prop where
 nn:0≤n
 up:∀k,k<m→((zkk g S k).length:Int)≤n∧((zjy g S k).length:Int)≤n
 at_:n=0∨∃k,k<m∧(n=(zkk g S k).length∨n=(zjy g S k).length)
abbrev zgf (g:Gr)(S:List (List W64))(n:Int):Prop:=PressN g S g.ins.l.length n
theorem PressN.nil {g:Gr}{S:List (List W64)}:PressN g S 0 0:=⟨Int.le_refl _,fun k h=>absurd h (Nat.not_lt_zero _),.inl rfl⟩
theorem ygl (a b:Int):mmI true a b=max a b:=by unfold mmI;simp only;split<;>omega
theorem PressN.step {g:Gr}{S:List (List W64)}{m:Nat}{n:Int}(h:PressN g S m n):PressN g S (m+1) (max (max n (zkk g S m).length) (zjy g S m).length):=by
 refine⟨by have:=h.nn;omega,fun k hk=>?_,?_⟩
 · rcases Nat.lt_or_ge k m with h1 | h1
   · have:=h.up k h1;omega
   · obtain rfl : k = m := by omega
     omega
 · have h0 := h.at_
   by_cases h1:(zjy g S m).length≤max n (zkk g S m).length
   · by_cases h2 : (zkk g S m).length ≤ n
     · rcases h0 with h0 | ⟨k, hk, h0⟩
       · exact .inl (by omega)
       · exact .inr ⟨k,by omega,by rcases h0 with h0|h0<;>omega⟩
     · exact .inr ⟨m,by omega,.inl (by omega)⟩
   · exact .inr ⟨m,by omega,.inr (by omega)⟩
def zsm (g:Gr)(S:List (List W64))(tw:Nat→Int):Prop:=
 ∀k (h:k<g.ins.l.length),0≤zbg g.ins.l[k]→zdn g.ins.l[k]→∀r:Nat,(r:Int)<g.regs→bitS S (k+1) r→(r:Int)≠zbg g.ins.l[k]→tw (zbg g.ins.l[k]).toNat≠tw r
section
variable {g:Gr} {S:List (List W64)} {tw:Nat→Int}
theorem zwj (hst:StraightG g)(hL:LiveOK g S)(h0:∀r:Nat,(r:Int)<g.regs→bitW (rowS S 0) r=false)(hc:zsm g S tw) :
 ∀k,k≤g.ins.l.length→∀r s:Nat,(r:Int)<g.regs→(s:Int)<g.regs→r≠s→bitS S k r→bitS S k s→tw r≠tw s:=by
 intro k
 induction k with
 | zero=>intro _ r s hr _ _ h1;have h1:bitW (rowS S 0) r=true:=h1;rw[h0 r hr] at h1;cases h1
 | succ k ih =>
   intro hk r s hr hs hne h1 h2;have hlt:k<g.ins.l.length:=by omega
   have hlast:=hL.last hst.1 r;have hlt2:k+1<g.ins.l.length:=by
    rcases Nat.lt_or_ge (k+1) g.ins.l.length with h|h
    · exact h
    · have e : k + 1 = g.ins.l.length := by omega
      rw[← e,show bitW (rowS S (k+1)) r=true from h1] at hlast;cases hlast
   have hf:zdn g.ins.l[k]:=by
    rcases(hst.2 k hlt hlt).2 with h|h
    · exact h
    · omega
   by_cases hd:(r:Int)=zbg g.ins.l[k]
   · have := hc k hlt (by omega) hf s hs h2 (by omega)
     rw[← hd] at this;exact this
   · by_cases hd2 : (s : Int) = zbg g.ins.l[k]
     · have := hc k hlt (by omega) hf r hr h1 (by omega)
       rw[← hd2] at this;exact fun e=>this e.symm
     · exact ih (by omega) r s hr hs hne (hL.fix k r (by omega) (.inl ⟨hlt,.inl ⟨hf,h1,hd⟩⟩)) (hL.fix k s (by omega) (.inl ⟨hlt,.inl ⟨hf,h2,hd2⟩⟩))
theorem zr4 (hg:GrOK g)(hst:StraightG g)(hL:LiveOK g S)(h0:∀r:Nat,(r:Int)<g.regs→bitW (rowS S 0) r=false)(hc:zsm g S tw) :
 ∀k,k<g.ins.l.length→∀r s:Nat,(r:Int)<g.regs→(s:Int)<g.regs→r≠s→bitW (zg3 g S k) r=true→bitW (zg3 g S k) s=true→tw r≠tw s:=by
 intro k hlt r s hr hs hne h1 h2;have hat:=zwj hst hL h0 hc (k+1) (by omega) r s hr hs hne
 unfold zg3 at h1 h2;rw[dif_pos hlt] at h1 h2;split at h1
 · rename_i hd0
   rw[if_pos hd0] at h2;have hlen:=zbd hL.toShS (k:=k+1) (by omega)
   have hin:(zbg g.ins.l[k]).toNat<64 * (rowS S (k+1)).length:=by have h1:=zef hg;have h2:=hg.sets _ (List.getElem_mem hlt);rw[hlen];omega
   rw[zf8 hin,Bool.or_eq_true,decide_eq_true_eq] at h1 h2;have hfl:∀x:Nat,bitW (rowS S (k+1)) x=true→zdn g.ins.l[k]:=fun x hx=>by
    rcases(hst.2 k hlt hlt).2 with h|h
    · exact h
    · have hlast := hL.last hst.1 x
      have e:k+1=g.ins.l.length:=by omega
      rw[← e,hx] at hlast;cases hlast
   rcases h1 with h1|h1<;>rcases h2 with h2|h2
   · omega
   · have := hc k hlt hd0 (hfl s h2) s hs h2 (by omega)
     rw[← h1] at this;exact this
   · have := hc k hlt hd0 (hfl r h1) r hr h1 (by omega)
     rw[← h2] at this;exact fun e=>this e.symm
   · exact hat h1 h2
 · rename_i hd0
   rw[if_neg hd0] at h2;exact hat h1 h2
theorem zn6 {ws:List W64}{n m:Nat}(hb:∀r,r<n→0≤tw r∧tw r<(m:Int))(h:∀r s:Nat,r<n→s<n→r≠s→bitW ws r=true→bitW ws s=true→tw r≠tw s):(za3 ws n).length≤m:=by
 have h1:((za3 ws n).map fun r=>tw r.toNat).Nodup:=by
  refine List.pairwise_map.2 (List.Pairwise.imp_of_mem ?_ (zs5 (ws:=ws) (n:=n)));intro a b ha hb' hab;obtain⟨x,rfl,x1,x2⟩:=mem_listW.1 ha;obtain⟨y,rfl,y1,y2⟩:=mem_listW.1 hb';exact h x y x1 y1 (fun e=>hab (by rw[e])) x2 y2
 have := zf3 m _ h1 (fun x hx=>by
  obtain⟨r,hr,rfl⟩:=List.mem_map.1 hx;obtain⟨k,rfl,k1,_⟩:=mem_listW.1 hr;exact hb k k1)
 simpa using this
theorem ybm (hg:GrOK g)(hst:StraightG g)(hL:LiveOK g S)(h0:∀r:Nat,(r:Int)<g.regs→bitW (rowS S 0) r=false)(hc:zsm g S tw){n m:Int}(hm:0≤m)(hb:∀r:Nat,(r:Int)<g.regs→0≤tw r∧tw r<m)(hp:zgf g S n):n≤m:=by
 have hb':∀r,r<g.regs.toNat→0≤tw r∧tw r<(m.toNat:Int):=fun r hr=>by have:=hb r (by omega);omega
 rcases hp.at_ with h|⟨k,hk,h|h⟩
 · omega
 · have := zn6 (ws := rowS S k) hb' (fun r s hr hs hne => zwj hst hL h0 hc k (by omega) r s (by omega) (by omega) hne)
   have:(zkk g S k).length≤m.toNat:=this;omega
 · have := zn6 (ws := zg3 g S k) hb' (fun r s hr hs hne => zr4 hg hst hL h0 hc k hk r s (by omega) (by omega) hne)
   have:(zjy g S k).length≤m.toNat:=this;omega
end
def cntT (l:List Bool):Nat:=l.count true
theorem zlm:∀{l:List Bool} {i:Nat},cntT (l.set i true)≤cntT l+1
 | [],_=>by simp[cntT]
 | x :: l, 0 => by
   simp only[List.set_cons_zero,cntT,List.count_cons];split<;>split<;>omega
 | x :: l, i + 1 => by
   have:=@zlm l i;simp only[List.set_cons_succ,cntT,List.count_cons] at this ⊢;omega
theorem zj4 {n:Nat}:cntT (List.replicate n false)=0:=by simp[cntT,List.count_replicate]
end Go.Ago
end
namespace Go.Ago
open Go.Proofs
attribute [local irreducible] ltI leI eqI eqS shrI wr inB mmI comp DC DP DW DV
theorem yo6 {a b:Nat}:(Nat.beq a b=true)=(a=b):=by simp
theorem yqo {a b:Nat}:(Nat.beq a b=false)=¬(a=b):=by
 have:=@yo6 a b;cases h:Nat.beq a b with
 | true=>rw[h] at this;simp[← this]
 | false=>rw[h] at this;simp[← this]
theorem ykz {c:Int}{m b:Nat}(h:c=(m:Int))(h0:0<m)(h1:m≤10000)(hb:Nat.ble b 1000=true):(Nat.blt 0 c.toNat && (c.toNat * (b+1)).ble 140737488355328)=true:=by
 subst h;have hb:=Nat.le_of_ble_eq_true hb;have h3:m * (b+1)≤10000 * 1001:=Nat.mul_le_mul h1 (by omega)
 rw[Int.toNat_natCast,show Nat.blt 0 m=true from Nat.ble_eq_true_of_le h0,Nat.ble_eq_true_of_le (by omega)];rfl
theorem zx9 {l:List Int}:((l.map fun n=>[i64 n]).all fun e=>e.all AV.one)=true:=by simp[AV.one]
theorem zbk {α:Type}{f:α→List AV}{H:zah}{k sz n m:Nat}{l:List α}{es:List (List AV)}(hf:∀x,mapO (snap H n) (f x)=some (f x))(hH:H.get k=some (.arr sz es))(he:es=l.map f)(hm:m=l.length):snap H (n+1) (.slc k 0 m sz)=some (.rsl sz (l.map f)):=by
 subst he;subst hm;exact zue hf hH
theorem yio {l:List Int}(h:l≠[]):AE.ret (.rsl 1 (l.map ic))=AE.ret (bif l.isEmpty then .nils else .rsl 1 (l.map ic)):=by
 cases l with
 | nil=>exact absurd rfl h
 | cons x l=>rfl
theorem ye7 (a b:List Int)(ha:a.length≤1001)(hb:b.length≤1001):DPR 121 [.rsl 1 [[zaq a],[zaq b]]] (fun ae=>∃l:List Int,ae = .ret (bif l.isEmpty then .nils else .rsl 1 (l.map ic))∧l=a++b):=by
 refine zaf eRg zae Tryz.func121 rfl (by decide) rfl rfl ?_
 have hw0:wr .i64 (0+1)=1:=by rw[wr64 (by omega) (by omega)];rfl
 have hw3:wr .i64 (wr .i64 (0+1)+1)=2:=by rw[hw0,wr64 (by omega) (by omega)];rfl
 have hw1:wr .i64 (0+(a.length:Int))=a.length:=by rw[wr64 (by omega) (by omega)];omega
 have hw2:wr .i64 (wr .i64 (0+(a.length:Int))+(b.length:Int))=a.length+b.length:=by rw[hw1,wr64 (by omega) (by omega)]
 have hw4:wr .i64 (0 - ((0:Nat):Int))=0:=by rw[wr64 (by omega) (by omega)];rfl
 have hw5:wr .i64 (wr .i64 (wr .i64 (0+(a.length:Int))+(b.length:Int)) - wr .i64 (0 - ((0:Nat):Int)))=((a.length+b.length:Nat):Int):=by rw[hw2,hw4,wr64 (by omega) (by omega)];omega
 conv=>whnf
 repeat' ((first|refine Rq.mk (ykz (m:=a.length+b.length) (by simp only[List.length_map];exact hw5) (by omega) (by omega) (by decide)) ?_|refine Rq.mk zx9 ?_|refine Rq.mk (zp0 8 3000 _ (by simp) rfl rfl (by simp<;>omega) (by simp only[List.length_map];omega)) ?_|refine Rq.mk (by(first|rfl|((try simp only[rz]);omega))) ?_|refine Br.split (fun h=>?_) (fun h=>?_)<;>(try simp only[bz,yo6,yqo] at h)<;>try (exfalso;omega)|refine zea eRg zae 3 ?_|refine zay eRg zae Tryz.func174 rfl (by decide) rfl rfl ?_|refine Ok3.mk [zaq b] (by rw[hw0];rfl) ?_|refine Ok3.mk _ rfl ?_)<;>conv=>whnf)
 all_goals first
  | exact⟨[],rfl,by rw[List.eq_nil_of_length_eq_zero (by assumption:a.length=0),List.eq_nil_of_length_eq_zero (by assumption:b.length=0)];rfl⟩
  | skip
 all_goals
  generalize hg:snap _ 20 _=rr
  have hr:rr=some (.rsl 1 ((a++b).map ic)):=by
   refine hg.symm.trans (zbk (f:=ic) (n:=19) (fun _=>rfl) rfl ?_ ?_)<;>clear hg<;>
    rcases Nat.eq_zero_or_pos a.length with ha0|ha0<;>rcases Nat.eq_zero_or_pos b.length with hb0|hb0<;>
    first
     | (exfalso;omega)
     | (obtain rfl:=List.eq_nil_of_length_eq_zero ha0;simp[ic,List.take_of_length_le];done)
     | (obtain rfl:=List.eq_nil_of_length_eq_zero hb0;simp[ic,List.take_of_length_le];done)
     | (simp[ic,List.take_of_length_le];done)
  obtain rfl:=hr
  conv=>whnf
  exact⟨a++b,yio (by intro e;rcases List.append_eq_nil_iff.1 e with⟨e1,e2⟩;have l1:=congrArg List.length e1;have l2:=congrArg List.length e2;simp only[List.length_nil] at l1 l2;omega),rfl⟩
theorem ye8 (a b:List Int)(ha:a.length≤1001)(hb:b.length≤1001):DPR 121 [.rsl 1 [[zaq a],[zaq b]]] (fun ae=>ae = .ret (zaq (a++b))):=by
 refine(znb (f:=ic) (sz:=1) (p:=fun l=>l=a++b) (ye7 a b ha hb)).mono ?_
 rintro _ ⟨_,rfl,rfl⟩;rfl
theorem ydf {n:Int}(h:0≤n∧n≤100000):wr .i64 ((wr .i64 (wr .i64 (n+64) - 1)).tdiv 64)=(((n.toNat+63) / 64:Nat):Int):=by
 rw[wr64 (n:=n+64) (by omega) (by omega),wr64 (n:=n+64 - 1) (by omega) (by omega),Int.tdiv_eq_ediv_of_nonneg (by omega),wr64 (by omega) (by omega)]
 omega
theorem yec (n:Int)(h:0≤n∧n≤100000):DC Tryz.prog ERg 78 [i64 n] .nil 0 (fun ae H' _=>ae = .ret (.slc 5 0 ((n.toNat+63) / 64) 1)∧H'.get 5=some (.arr 1 (List.replicate ((n.toNat+63) / 64) [.int .u64 0]))):=by
 refine zay eRg zae Tryz.func78 rfl (by decide) rfl rfl ?_
 have e:=ydf h;have hm:(n.toNat+63) / 64≤2000:=by omega
 conv=>whnf
 try rw[e]
 generalize (n.toNat+63) / 64=m at hm
 refine Rq.mk rfl ?_;refine Rq.mk ?_ ?_
 · have e8 : (ti128.bytes : Int) = 8 := rfl
   simp only[Bool.and_eq_true,decide_eq_true_eq,e8];exact⟨⟨⟨⟨by omega,by omega⟩,by omega⟩,by omega⟩,rfl⟩
 conv=>whnf
 conv=>whnf
 repeat' ((first|refine Rq.mk (b:=chk3 _ _ _ _ _ _) (by kernel_rfl) ?_|refine Rq.mk (by(first|rfl|((try simp only[rz]);omega))) ?_|refine Br.split (fun h=>?_) (fun h=>?_)<;>(try simp only[bz] at h)<;>try (exfalso;omega)|refine zag (fun h=>?_) (fun h=>?_)<;>(try simp only[bz] at h)<;>try (exfalso;omega)|refine Ok3.mk _ (zam (by omega)) ?_|refine Ok3.mk _ (za2 (by omega)) ?_|refine And.intro (a:=zaw _=true) (by kernel_rfl) (LzK.e ?_)|refine Ok3.mk _ rfl ?_)<;>conv=>whnf)
 rw[Int.toNat_natCast];exact⟨rfl,rfl⟩
end Go.Ago
namespace Go.Ago
open Go.Proofs
attribute [local irreducible] ltI leI eqI eqS shrI wr inB mmI comp DC DP DW DV
attribute [local irreducible] zcs bitW putW zgz
theorem ygg {l:List W64}{n:Int}(h:n.toNat<l.length):(l.map zh6)[0+n.toNat]? = some (zh6 l[n.toNat]):=by simp[h]
abbrev setO (ws:List W64):AObj := .arr 1 (ws.map zh6)
theorem zau {ws:List W64}:(setO ws).flatO:=by simp only[setO,AObj.flatO,List.all_map,List.all_eq_true];intro x _;rfl
theorem yni (ws:BL W64)(r:Int)(h:0≤r∧r<64 * ws.l.length):DC Tryz.prog ERg 77 [.slc 0 0 ws.l.length 1,i64 r] (.put 0 (some (setO ws.l)) .nil) 1 (fun ae H' _=>ae = .ret (.tup [])∧H'.get 0=some (setO (putW ws.l r.toNat))):=by
 refine zay eRg zae Tryz.func77 rfl (by decide) rfl rfl ?_
 have hl:=ws.h;have hq:=q64 (r:=r) (by omega) (by omega);have hm:=m64 (r:=r) (by omega)
 conv=>whnf
 repeat' ((first|refine Rq.mk (b:=chk3 _ _ _ _ _ _) (by kernel_rfl) ?_|refine Rq.mk (by(first|rfl|((try simp only[rz]);omega))) ?_|refine And.intro (a:=zaw _=true) (by kernel_rfl) (LzK.e ?_)|refine zap (ygg (by omega)) ?_)<;>conv=>whnf)
 exact⟨rfl,congrArg (fun x=>some (AObj.arr 1 x)) (yie hq hm (by omega))⟩
theorem yju (ws:BL W64)(r:Int)(h:0≤r∧r<64 * ws.l.length):DC Tryz.prog ERg 82 [.slc 0 0 ws.l.length 1,i64 r] (.put 0 (some (setO ws.l)) .nil) 1 (fun ae H' _=>ae = .ret (.tup [])∧H'.get 0=some (setO (zgz ws.l r.toNat))):=by
 refine zay eRg zae Tryz.func82 rfl (by decide) rfl rfl ?_
 have hl:=ws.h;have hq:=q64 (r:=r) (by omega) (by omega);have hm:=m64 (r:=r) (by omega)
 conv=>whnf
 repeat' ((first|refine Rq.mk (b:=chk3 _ _ _ _ _ _) (by kernel_rfl) ?_|refine Rq.mk (by(first|rfl|((try simp only[rz]);omega))) ?_|refine And.intro (a:=zaw _=true) (by kernel_rfl) (LzK.e ?_)|refine zap (ygg (by omega)) ?_)<;>conv=>whnf)
 exact⟨rfl,congrArg (fun x=>some (AObj.arr 1 x)) (ye2 hq hm (by omega))⟩
theorem or_eq {x y:W64}:zcs .or .u64 (x.toNat:Int) (y.toNat:Int)=(x.toNat:Int)↔x ||| y=x:=by
 rw[or_w];exact⟨fun h=>BitVec.eq_of_toNat_eq (by omega),fun h=>by rw[h]⟩
theorem ypg {x y:W64}{H:zah}(h:zcs .or .u64 (x.toNat:Int) (y.toNat:Int)=(x.toNat:Int)) :
 AE.ret (AV.bool false)=AE.ret (AV.bool !decide (orW [x] [y]=[x]))∧(Tr.put 0 (some (setO [x])) (Tr.put 1 (some (setO [y])) H)).get 0=some (setO (orW [x] [y]))∧(Tr.put 0 (some (setO [x])) (Tr.put 1 (some (setO [y])) H)).get 1=some (setO [y]):=by
 have e2:orW [x] [y]=[x]:=by simp[orW,or_eq.1 h]
 exact⟨by rw[e2];simp,by rw[e2];rfl,rfl⟩
theorem yk0 {x y:W64}{H:zah}{n:Int}{a b:zah→Option AObj}{es:List (List AV)}(h:¬zcs .or .u64 (x.toNat:Int) (y.toNat:Int)=(x.toNat:Int))(ha:a=fun H=>H.get 0)(hb:b=fun H=>H.get 1)(he:es=[[AV.int .u64 (zcs .or .u64 (x.toNat:Int) (y.toNat:Int))]]) :
 AE.ret (AV.bool true)=AE.ret (AV.bool !decide (orW [x] [y]=[x]))∧a (Tr.put 0 (some (.arr 1 es)) (Tr.put 0 (some (setO [x])) (Tr.put 1 (some (setO [y])) H)))=some (setO (orW [x] [y]))∧b (Tr.put 0 (some (.arr 1 es)) (Tr.put 0 (some (setO [x])) (Tr.put 1 (some (setO [y])) H)))=some (setO [y]):=by
 subst ha;subst hb;subst he;have e2:¬orW [x] [y]=[x]:=by
  intro e;have:[x ||| y]=[x]:=e
  exact h (or_eq.2 (by simpa using this))
 refine⟨by simp[e2],?_,rfl⟩
 show some (AObj.arr 1 [[AV.int .u64 (zcs .or .u64 (x.toNat:Int) (y.toNat:Int))]])=some (AObj.arr 1 [[AV.int .u64 ((x ||| y).toNat:Int)]])
 rw[or_w]
theorem yph (a b:List W64)(h:a.length=b.length)(h1:a.length≤1):DC Tryz.prog ERg 81 [.slc 0 0 a.length 1,.slc 1 0 b.length 1] (.put 0 (some (setO a)) (.put 1 (some (setO b)) .nil)) 2
 (fun ae H' _=>ae = .ret (.bool (!decide (orW a b=a)))∧H'.get 0=some (setO (orW a b))∧H'.get 1=some (setO b)):=by
 refine zay eRg zae Tryz.func81 rfl (by decide) rfl rfl ?_
 have hw1:wr .i64 (0+1)=1:=by rw[wr64 (by omega) (by omega)];rfl
 rcases a with _|⟨x,_|⟨_,_⟩⟩
 · rcases b with _ | ⟨_, _⟩
   · skip
     conv=>whnf
     repeat' ((first|refine Br.split (fun h=>?_) (fun h=>?_)<;>(try simp only[bz] at h)<;>try (exfalso;omega)|refine zea eRg zae 2 ?_)<;>conv=>whnf)
     all_goals exact⟨rfl,rfl,rfl⟩
   · cases h
 · rcases b with _ | ⟨y, _ | ⟨_, _⟩⟩
   · cases h
   · skip
     conv=>whnf
     repeat' ((first|refine Rq.mk (by(first|rfl|((try simp only[rz]);omega))) ?_|refine Br.split (fun h=>?_) (fun h=>?_)<;>(try simp only[bz] at h)<;>try (exfalso;omega)|refine And.intro (a:=zaw _=true) (by kernel_rfl) (LzK.e ?_)|refine zea eRg zae 2 ?_)<;>conv=>whnf)
     all_goals first
      | exact ypg (by assumption)
      | exact yk0 (a:=fun H=>H.get 0) (b:=fun H=>H.get 1) (n:=0) (by assumption) rfl rfl rfl
   · cases h
 · simp at h1
end Go.Ago
namespace Go.Ago
open Go.Proofs
attribute [local irreducible] ltI leI eqI eqS shrI wr inB mmI comp DC DP DW DV
attribute [local irreducible] zcs bitW putW zgz inm
theorem yfn {g:Gr}{k:Nat}(h:(k:Int)=g.ins.l.length):zas g k=g.entries.l:=dif_neg (by omega)
theorem yfl {g:Gr}{k:Nat}(h:k<g.ins.l.length)(hq:zoo g.ins.l[k]):zas g k=zbc g.ins.l[k]:=by rw[zas,dif_pos h,if_pos hq]
theorem yfm {g:Gr}{k:Nat}(h:k<g.ins.l.length)(hq:¬zoo g.ins.l[k]):zas g k=zbc g.ins.l[k]++g.entries.l:=by rw[zas,dif_pos h,if_neg hq]
theorem zpy (g:Gr)(hg:GrOK g)(k:Nat)(hk:k≤g.ins.l.length):DPR 84 [g.av,i64 k] (fun ae=>ae = .ret (zaq (zas g k))):=by
 refine zaf eRg zae Tryz.func84 rfl (by decide) rfl rfl ?_
 have hil:=g.ins.h;have hfew:=hg.few
 conv=>whnf
 repeat' ((first|refine Rq.mk (by(first|rfl|((try simp only[rz]);omega))) ?_|refine Br.split (fun h=>?_) (fun h=>?_)<;>(try simp only[bz] at h)|refine Ok3.mk _ (zam (by omega)) ?_|(refine zaa rfl (zgj (g.ins.l[k]'(by omega))) ?_;rintro _ rfl)|(refine zaa rfl (yid (g.ins.l[k]'(by omega))) ?_;rintro _ (⟨rfl,hq⟩|⟨rfl,hq⟩))|(refine DC.frzA rfl rfl ?_;refine zaa rfl (ye8 _ _ (by have:=@zlr (g.ins.l[k]'(by omega));omega) (by have:=hfew;omega)) ?_;rintro _ rfl))<;>conv=>whnf)
 all_goals first|exact congrArg AE.ret (congrArg zaq (yfn h).symm)|exact congrArg AE.ret (congrArg zaq (yfl (by omega) hq).symm)|exact congrArg AE.ret (congrArg zaq (yfm (by omega) hq).symm)
end Go.Ago
