/-
  Part 37: lemmas, each with its own conditions.
-/
import Derived.Shelf.Sort.Plain
import Derived.Shelf.Slices.CompactI
import Derived.Shelf.Slices.In.SortNone
import Derived.Test.YthaolifcglpkdaaGreatDoorA33
set_option maxRecDepth 100000
set_option maxHeartbeats 0
set_option linter.all false
section
namespace Go.Ago
open Go.Proofs Go.RowKit Go.Sort
section
variable {G:zd9} {c:Ctx} {w:World}
theorem zuu {zs:List Int}(hw:WRel G c w (.put 0 (some (.arr 1 (zs.map ic))) .nil))(hne:zs≠[]){vs:List Value}(hr:RelL c w [.slc 0 0 zs.length 1] vs) :
 ∃B cap arr t,vs=[.slice (some ⟨B.b,B.s,none⟩) zs.length cap]∧c.f 0=some B∧B.sz=1∧zs.length≤cap∧cap≤B.n∧w.heap[B.b]? = some (.cells arr t (0,0))∧B.s+B.n≤arr.size∧(∀j,j<zs.length→arr[B.s+j]? = some (.int .i64 (zs[j]!))):=by
 obtain⟨v,us,rfl,h1,h2⟩:=hr.inv_cons;obtain rfl:=h2.inv_nil;obtain⟨B,b1,b2,arr,t,a1,a2,a3,a4,a5⟩:=hw.obj 0 _ rfl;have hlen:0<zs.length:=List.length_pos_iff.2 hne
 generalize hl:zs.length=len at h1 hlen
 cases h1 with
 | slc q1 q2 q3 q4 =>
   rw[b1] at q1;cases q1;obtain⟨rfl,e2⟩:=q4 (by omega)
   refine⟨B,_,arr,t,?_,b1,q2,q3,by omega,a1,a2,fun j hj=>?_⟩
   · simp
   · have hj' : j < zs.length := by omega
     obtain⟨_,f2⟩:=a5 j [i64 (zs[j])] (by simp[hj',ic])
     obtain⟨v,v1,v2⟩:=f2 0 _ rfl;cases v2;rw[show B.s+(j * 1+0)=B.s+j by omega] at v1
     rw[v1,getElem!_pos zs j hj']
theorem zqg {zs:List Int}{B:Blk}{arr:Array Value}{t:TypeId}(h:w.heap[B.b]? = some (.cells arr t (0,0)))(h2:∀j,j<zs.length→arr[B.s+j]? = some (.int .i64 (zs[j]!))):Holds (Value.int .i64) w B.b B.s zs.toArray:=by
 intro j hj;have hj:j<zs.length:=by simpa using hj
 refine⟨?_,?_⟩
 · unfold World.cell?
   simp only[h];rw[h2 j hj];simp[getElem!_pos,hj]
 · unfold World.frozen?
   simp[h]
theorem zuv {zs d:List Int}{B:Blk}{arr:Array Value}{t:TypeId}{w':World}{n:Nat}{os:Array Obj}(hw:WRel G c w (.put 0 (some (.arr 1 (zs.map ic))) .nil))(hB:c.f 0=some B)(hsz:B.sz=1)(h:w.heap[B.b]? = some (.cells arr t (0,0)))(hn:B.s+B.n≤arr.size)(hd:d.length≤B.n)
 (hw':w'=grow (putRow (Value.int .i64) (Sort.ahead w n) B.b B.s d.toArray) os) :
 ExtM 1 c w (.put 0 (some (.arr 1 (zs.map ic))) .nil) c w' (.put 0 (some (.arr 1 (d.map ic))) .nil)∧WRel G c w' (.put 0 (some (.arr 1 (d.map ic))) .nil):=by
 have hlt:=hw.f_lt 0 B hB;have key:∀{rows:List (List AV)} j o1,(Tr.put 0 (some (AObj.arr 1 rows)) Tr.nil:zah).get j=some o1→j=0∧o1 = .arr 1 rows:=by
  intro rows j o1 e;rw[Tr.get] at e;cases b:Nat.beq j 0 with
  | true=>rw[b] at e;exact⟨Nat.eq_of_beq_eq_true b,by cases e;rfl⟩
  | false=>rw[b] at e;cases e
 have hheap:w'.heap=(w.heap.modify B.b (onCells (putCells (Value.int .i64) B.s d.toArray)))++os:=by rw[hw'];rfl
 have hsize:w.heap.size≤w'.heap.size:=by rw[hheap];simp
 have hoth:∀b,b<w.heap.size→b≠B.b→w'.heap[b]? = w.heap[b]?:=fun b hb hne=>by
  rw[hheap,Array.getElem?_append_left (by simpa using hb),Array.getElem?_modify,if_neg (Ne.symm hne)]
 have hown:Own c (.put 0 (some (.arr 1 (zs.map ic))) .nil) B.b:=⟨0,_,B,rfl,hB,rfl⟩;have hat:w'.heap[B.b]? = some (.cells (putCells (Value.int .i64) B.s d.toArray arr) t (0,0)):=by
  rw[hheap,Array.getElem?_append_left (by simpa using hlt),Array.getElem?_modify,if_pos rfl,h];rfl
 have himm:¬c.imm B.b:=fun hi=>hw.not_own hi hown
 refine⟨⟨fun _ _=>rfl,fun _ hb=>hb,by rw[hw'];rfl,by rw[hw'];rfl,by rw[hw'];rfl,hsize,fun b hb hno=>hoth b hb fun e=>hno (by rw[e];exact hown),fun b hb => .inl hb,fun b hb=>?_⟩,
  ⟨fun b hb=>Nat.lt_of_lt_of_le (hw.imm_lt b hb) hsize,fun k B' e=>Nat.lt_of_lt_of_le (hw.f_lt k B' e) hsize,fun k o e=>?_,fun k k' o o' B1 B2 e e' _ _ _=>by rw[(key k o e).1,(key k' o' e').1],fun g cs e=>?_⟩⟩
 · obtain ⟨k, o, B1, e1, e2, rfl⟩ := hb
   obtain⟨rfl,_⟩:=key k o e1;exact .inl ⟨0,_,B1,rfl,e2,rfl⟩
 · obtain ⟨rfl, rfl⟩ := key k o e
   refine⟨B,hB,himm,_,t,hat,by simpa[putCells] using hn,hsz,by simpa using hd,fun i e he=>?_⟩
   have hi:i<d.length:=by
    have:=(List.getElem?_eq_some_iff.1 he).1
    simpa using this
   have he2:e=ic d[i]:=by simpa[hi] using he.symm
   subst he2;refine⟨rfl,fun j x hx=>?_⟩
   have hj:j=0:=by
    have:=(List.getElem?_eq_some_iff.1 hx).1;simp[ic] at this;exact this
   subst hj;have hx2:x=i64 d[i]:=by simpa[ic] using hx.symm
   subst hx2;refine⟨.int .i64 d[i],?_,.int _ _⟩;have hin:B.s+i<arr.size:=by omega
   simp only[putCells,Array.getElem?_mapIdx];rw[show B.s+(i * 1+0)=B.s+i by omega,Array.getElem?_eq_getElem hin,Option.map_some,if_pos ⟨by omega,by simp;omega⟩,show B.s+i - B.s=i by omega]
   simp[getElem!_pos,hi]
 · refine (hw.glob g cs e).mono (.refl c) fun b hb => hoth b (hw.imm_lt b hb) fun e => ?_
   subst e;exact himm hb
end
theorem mem_compact {zs:List Int}{x:Int}:x∈Lib.compact zs↔x∈zs:=by
 unfold Lib.compact Lib.compactUpTo;simp only[List.mem_map,List.mem_filter,List.mem_range]
 constructor
 · rintro ⟨j, ⟨hj, _⟩, rfl⟩
   rw[getElem!_pos _ j (by simpa using hj)]
   simp
 · intro hx
   obtain⟨j,hj,rfl⟩:=List.mem_iff_getElem.1 hx;have key:∀(j:Nat) (hj:j<zs.length),∃a,(a<zs.length∧Lib.keeps zs.toArray a=true)∧zs.toArray[a]! = zs[j]:=by
    intro j
    induction j with
    | zero=>intro hj;exact⟨0,⟨hj,by simp[Lib.keeps]⟩,by rw[getElem!_pos _ 0 (by simpa using hj)];simp⟩
    | succ j ih =>
      intro hj
      by_cases hk:Lib.keeps zs.toArray (j+1)=true
      · exact⟨j+1,⟨hj,hk⟩,by rw[getElem!_pos _ (j+1) (by simpa using hj)];simp⟩
      · obtain ⟨a, h1, h2⟩ := ih (by omega)
        refine⟨a,h1,h2.trans ?_⟩;simp only[Lib.keeps,decide_eq_true_eq,not_or,Classical.not_not] at hk;have:=hk.2;rw[getElem!_pos _ (j+1) (by simpa using hj),getElem!_pos _ (j+1 - 1) (by simp;omega)] at this
        simp at this;exact this.symm
   exact key j hj
theorem zmt {zs:List Int}:(Lib.compact zs).length≤zs.length:=by
 unfold Lib.compact Lib.compactUpTo;rw[List.length_map];exact Nat.le_trans (List.length_filter_le _ _) (by simp)
end Go.Ago
namespace Go.Proofs
def zko:Go.Shelf.Ren:=⟨fun|189=>117|125=>172|257=>171|128=>217|129=>218|294=>209|295=>210|296=>211|297=>212|298=>213|299=>214|216=>123|300=>215|301=>216|328=>254|329=>255|330=>256|331=>257|332=>258|215=>175|343=>298|n=>n,fun|28=>26|3=>3|46=>169|0=>0|51=>265|53=>128|4=>4|183=>259|182=>258|131=>137|5=>5|9=>9|218=>300|222=>304|228=>337|229=>338|n=>n,fun|n=>n⟩
theorem zkf:Go.Proofs.Lays.n189 Tryz.prog zko:={
 mixed:=by kernel_rfl
 f125:=Tryz.func172.trans (congrArg some (by kernel_rfl))
 f128:=Tryz.func217.trans (congrArg some (by kernel_rfl))
 f129:=Tryz.func218.trans (congrArg some (by kernel_rfl))
 f189:=Tryz.func117.trans (congrArg some (by kernel_rfl))
 f215:=Tryz.func175.trans (congrArg some (by kernel_rfl))
 f216:=Tryz.func123.trans (congrArg some (by kernel_rfl))
 f257:=Tryz.func171.trans (congrArg some (by kernel_rfl))
 f294:=Tryz.func209.trans (congrArg some (by kernel_rfl))
 f295:=Tryz.func210.trans (congrArg some (by kernel_rfl))
 f296:=Tryz.func211.trans (congrArg some (by kernel_rfl))
 f297:=Tryz.func212.trans (congrArg some (by kernel_rfl))
 f298:=Tryz.func213.trans (congrArg some (by kernel_rfl))
 f299:=Tryz.func214.trans (congrArg some (by kernel_rfl))
 f300:=Tryz.func215.trans (congrArg some (by kernel_rfl))
 f301:=Tryz.func216.trans (congrArg some (by kernel_rfl))
 f328:=Tryz.func254.trans (congrArg some (by kernel_rfl))
 f329:=Tryz.func255.trans (congrArg some (by kernel_rfl))
 f330:=Tryz.func256.trans (congrArg some (by kernel_rfl))
 f331:=Tryz.func257.trans (congrArg some (by kernel_rfl))
 f332:=Tryz.func258.trans (congrArg some (by kernel_rfl))
 f343:=Tryz.func298.trans (congrArg some (by kernel_rfl))
 t0:=Tryz.underlying0
 a0:=Tryz.isAgg0
 z0:=Tryz.sizeOf0
 v0:=Tryz.zeroValue0
 t3:=Tryz.underlying3
 a3:=Tryz.isAgg3
 z3:=Tryz.sizeOf3
 v3:=Tryz.zeroValue3
 t4:=Tryz.underlying4
 a4:=Tryz.isAgg4
 z4:=Tryz.sizeOf4
 v4:=Tryz.zeroValue4
 t5:=Tryz.underlying5
 a5:=Tryz.isAgg5
 z5:=Tryz.sizeOf5
 v5:=Tryz.zeroValue5
 t9:=Tryz.underlying9
 a9:=Tryz.isAgg9
 z9:=Tryz.sizeOf9
 v9:=Tryz.zeroValue9
 t28:=Tryz.underlying26
 a28:=Tryz.isAgg26
 z28:=Tryz.sizeOf26
 v28:=Tryz.zeroValue26
 t46:=Tryz.underlying169
 a46:=Tryz.isAgg169
 z46:=Tryz.sizeOf169
 v46:=Tryz.zeroValue169
 t51:=Tryz.underlying265
 a51:=Tryz.isAgg265
 z51:=Tryz.sizeOf265
 v51:=Tryz.zeroValue265
 t53:=Tryz.underlying128
 a53:=Tryz.isAgg128
 z53:=Tryz.sizeOf128
 v53:=Tryz.zeroValue128
 t131:=Tryz.underlying137
 a131:=Tryz.isAgg137
 z131:=Tryz.sizeOf137
 v131:=Tryz.zeroValue137
 t182:=Tryz.underlying258
 a182:=Tryz.isAgg258
 z182:=Tryz.sizeOf258
 v182:=Tryz.zeroValue258
 t183:=Tryz.underlying259
 a183:=Tryz.isAgg259
 z183:=Tryz.sizeOf259
 v183:=Tryz.zeroValue259
 t218:=Tryz.underlying300
 a218:=Tryz.isAgg300
 z218:=Tryz.sizeOf300
 v218:=Tryz.zeroValue300
 t222:=Tryz.underlying304
 a222:=Tryz.isAgg304
 z222:=Tryz.sizeOf304
 v222:=Tryz.zeroValue304
 t228:=Tryz.underlying337
 a228:=Tryz.isAgg337
 z228:=Tryz.sizeOf337
 v228:=Tryz.zeroValue337
 t229:=Tryz.underlying338
 a229:=Tryz.isAgg338
 z229:=Tryz.sizeOf338
 v229:=Tryz.zeroValue338 }
def zji:Go.Shelf.Ren:=⟨fun|20=>118|n=>n,fun|22=>26|3=>3|4=>4|0=>0|n=>n,fun|n=>n⟩
theorem zh4:Go.Proofs.Lays2.n20 Tryz.prog zji:={
 mixed:=by kernel_rfl
 f20:=Tryz.func118.trans (congrArg some (by kernel_rfl))
 t0:=Tryz.underlying0
 a0:=Tryz.isAgg0
 z0:=Tryz.sizeOf0
 v0:=Tryz.zeroValue0
 t3:=Tryz.underlying3
 a3:=Tryz.isAgg3
 z3:=Tryz.sizeOf3
 v3:=Tryz.zeroValue3
 t4:=Tryz.underlying4
 a4:=Tryz.isAgg4
 z4:=Tryz.sizeOf4
 v4:=Tryz.zeroValue4
 t22:=Tryz.underlying26
 a22:=Tryz.isAgg26
 z22:=Tryz.sizeOf26
 v22:=Tryz.zeroValue26
 i3:=by kernel_rfl }
end Go.Proofs
namespace Go.Ago
open Go.Proofs Go.RowKit Go.Sort
def zjq (zs:List Int):List Int:=zs.mergeSort fun x y=>decide (x≤y)
theorem mem_sortL {zs:List Int}{x:Int}:x∈zjq zs↔x∈zs:=List.mem_mergeSort
theorem zgm {zs:List Int}:(zjq zs).length=zs.length:=List.length_mergeSort zs
theorem yhs (zs:List Int)(hne:zs≠[])(hl:zs.length<4611686018427387904):DC Tryz.prog ERg 117 [.slc 0 0 zs.length 1] (.put 0 (some (.arr 1 (zs.map ic))) .nil) 1 (fun ae H' n=>ae = .ret (.tup [])∧n=1∧H' = .put 0 (some (.arr 1 ((zjq zs).map ic))) .nil):=by
 refine⟨.ret (.tup []),_,1,⟨⟨_,Tryz.func117,rfl,by decide⟩,fun c w vs hw hf hr=>?_⟩,rfl,rfl,rfl⟩
 obtain⟨B,cap,arr,t,rfl,hB,hsz,hcap,hcn,h,hn,hel⟩:=zuu hw hne hr;refine(Any.slices_Sort_int zkf B.b B.s cap zs w (zqg h hel) (hw.f_lt 0 B hB) hl).mono ?_
 rintro e w' ⟨rfl,n,os,hw'⟩
 obtain⟨g1,g2⟩:=zuv (d:=zjq zs) hw hB hsz h hn (by rw[zgm];omega) hw'
 exact⟨c,_,1,.ret (.tup []),g1,g2,Nat.le_refl _,hf,(Rel.tup (cs:=[]) (vs:=[]) rfl (by simp):Rel c w' (.tup []) (.tuple #[])),rfl,rfl,rfl⟩
theorem zxv (zs:List Int)(hne:zs≠[])(hl:zs.length<4611686018427387904):DC Tryz.prog ERg 118 [.slc 0 0 zs.length 1] (.put 0 (some (.arr 1 (zs.map ic))) .nil) 1
 (fun ae H' n=>ae = .ret (.slc 0 0 (Lib.compact zs).length 1)∧n=1∧H' = .put 0 (some (.arr 1 ((Lib.compact zs++List.replicate (zs.length - (Lib.compact zs).length) 0).map ic))) .nil):=by
 refine⟨_,_,1,⟨⟨_,Tryz.func118,rfl,by decide⟩,fun c w vs hw hf hr=>?_⟩,rfl,rfl,rfl⟩
 obtain⟨B,cap,arr,t,rfl,hB,hsz,hcap,hcn,h,hn,hel⟩:=zuu hw hne hr;have hcl:=@zmt zs;refine(Any.slices_Compact_int zh4 B.b B.s cap zs w (zqg h hel) (by omega) hcap).mono ?_
 rintro e w' ⟨rfl,n,hw'⟩
 obtain⟨g1,g2⟩:=zuv (d:=Lib.compact zs++List.replicate (zs.length - (Lib.compact zs).length) 0) (os:=#[]) (n:=n) (w':=w') hw hB hsz h hn (by simp;omega) (by rw[grow_empty];exact hw')
 have hv:Rel c w' (.slc 0 0 (Lib.compact zs).length 1) (.slice (some ⟨B.b,B.s,none⟩) (Lib.compact zs).length cap):=Rel.slc hB hsz (by omega) (fun _=>⟨by simp,by omega⟩)
 exact⟨c,_,1,.ret (.slc 0 0 (Lib.compact zs).length 1),g1,g2,Nat.le_refl _,hf,hv,rfl,rfl,rfl⟩
theorem yhr {n:Nat}(zs:List Int)(hn:n=zs.length)(hne:zs≠[])(hl:zs.length<4611686018427387904):DC Tryz.prog ERg 117 [.slc 0 0 n 1] (.put 0 (some (.arr 1 (zs.map ic))) .nil) 1 (fun ae H' _=>ae = .ret (.tup [])∧H'.get 0=some (.arr 1 ((zjq zs).map ic))):=by
 subst hn;refine(yhs zs hne hl).mono ?_
 rintro _ _ _ ⟨rfl,_,rfl⟩;exact⟨rfl,rfl⟩
theorem zxu {n:Nat}(zs:List Int)(hn:n=zs.length)(hne:zs≠[])(hl:zs.length<4611686018427387904):DC Tryz.prog ERg 118 [.slc 0 0 n 1] (.put 0 (some (.arr 1 (zs.map ic))) .nil) 1
 (fun ae H' _=>ae = .ret (.slc 0 0 (Lib.compact zs).length 1)∧H'.get 0=some (.arr 1 ((Lib.compact zs++List.replicate (zs.length - (Lib.compact zs).length) 0).map ic))):=by
 subst hn;refine(zxv zs hne hl).mono ?_
 rintro _ _ _ ⟨rfl,_,rfl⟩;exact⟨rfl,rfl⟩
theorem yht:DPR 117 [.nils] (fun ae=>ae = .ret (.tup [])):=by
 refine⟨.ret (.tup []),zdj ⟨_,Tryz.func117,rfl,by decide⟩ fun c w vs hw hr=>?_,rfl⟩
 obtain⟨v,us,rfl,h1,h2⟩:=hr.inv_cons;obtain rfl:=h2.inv_nil;cases h1;refine(Any.slices_Sort_int_none zkf none 0 w).mono ?_
 rintro e w' ⟨rfl,rfl⟩
 exact⟨rfl,.ret (.tup []),(Rel.tup (cs:=[]) (vs:=[]) rfl (by simp):Rel c w' (.tup []) (.tuple #[])),rfl⟩
theorem zxw:DPR 118 [.nils] (fun ae=>ae = .ret .nils):=by
 refine⟨.ret .nils,zdj ⟨_,Tryz.func118,rfl,by decide⟩ fun c w vs hw hr=>?_,rfl⟩
 obtain⟨v,us,rfl,h1,h2⟩:=hr.inv_cons;obtain rfl:=h2.inv_nil;cases h1;refine(Any.slices_Compact_int_empty zh4 none 0 w).mono ?_
 rintro e w' ⟨rfl,rfl⟩
 exact⟨rfl,.ret .nils,.nils,rfl⟩
theorem zpl {l:List Int}:AObj.flatO (.arr 1 (l.map ic)):=by
 simp only[AObj.flatO,List.all_map,List.all_eq_true];intro x _;rfl
end Go.Ago
end
