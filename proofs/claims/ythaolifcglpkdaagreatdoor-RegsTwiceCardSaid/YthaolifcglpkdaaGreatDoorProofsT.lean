/-
  RegsTwice answers true for every input and leaves its arguments as they were: the row, and its tied card. Condition: the listed tables hold what the program's own text lays (the given tie shows that).
-/
import Derived.Test.YthaolifcglpkdaaGreatDoorTie
import Derived.Test.YthaolifcglpkdaaGreatDoorCards
import Derived.ProofKit
import Derived.OpenShut
import Derived.LaidMore
import Derived.Lay
import Derived.SevenTiedAt
import Derived.Stop.Joined
import Derived.ReadAgain
import Derived.Test.YthaolifcglpkdaaGreatDoorA46
import Derived.Test.YthaolifcglpkdaaGreatDoorA47
import Derived.Test.YthaolifcglpkdaaGreatDoorT01
set_option maxRecDepth 100000
set_option maxHeartbeats 0
set_option linter.all false
namespace Go.Proofs.YthaolifcglpkdaaGreatDoor
open List Nat
open Go Go.Ago Go.ChangeShapes Go.WideShapes Go.ChangeAt Go.RowKit
abbrev uI:List (String×DataW Unit):=Rows.regsTwiceRow.laid
theorem own:ownKnob Tryz.prog.godebug=none:=by kernel_rfl
theorem kids:Kids Tryz.prog (·<Tryz.prog.types.size):=kids_rows aG aG
theorem full:∀t e,t<Tryz.prog.types.size->Tryz.prog.underlying t=some (.slice e)->0<Tryz.prog.cellsOf e:=slices_full_of _ aG
theorem Sn {W:World}(h:laidMetH Tryz.prog uI W):aN fx.bR (lj W) W .nil:=by
 rw[MakeChecks.laidMetH_plain _ _ _ aG] at h;obtain⟨ps,⟨_,_,_,_,_,_,_,_,_,_,⟨_,_,_,_,_,_,_,_,_,_,⟨_,_,_,_,_,_,_,_,_,_,⟨_,_,_,_,_,_,_,_,_,_,⟨_,_,_,_,_,_,_,_,_,_,⟨_,_,_,_,_,_,_,_,_,_,
  ⟨g6,t6,c6,f6,p6,q6,hg6,ht6,hv6,hd6,⟨g7,t7,c7,f7,p7,q7,hg7,ht7,hv7,hd7,⟨g8,t8,c8,f8,p8,q8,hg8,ht8,hv8,hd8,_,_⟩,_⟩,_⟩,_⟩,_⟩,_⟩,_⟩,_⟩,_⟩,_,_⟩:=h
 obtain rfl:=Option.some.inj ((show Tryz.prog.globalNamed "pliant/picture.punched" = some 3 by kernel_rfl).symm.trans hg6)
 obtain rfl:=Option.some.inj ((show(Tryz.prog.globals[3]?).map (·.type)=some 349 by kernel_rfl).symm.trans ht6)
 obtain rfl:=Option.some.inj ((show Tryz.prog.globalNamed "pliant/core.operands" = some 0 by kernel_rfl).symm.trans hg7)
 obtain rfl:=Option.some.inj ((show(Tryz.prog.globals[0]?).map (·.type)=some 246 by kernel_rfl).symm.trans ht7)
 obtain rfl:=Option.some.inj ((show Tryz.prog.globalNamed "pliant/core.shapes" = some 1 by kernel_rfl).symm.trans hg8)
 obtain rfl:=Option.some.inj ((show(Tryz.prog.globals[1]?).map (·.type)=some 270 by kernel_rfl).symm.trans ht8)
 have r0:=DJ (m:=8) (a:=xJ) hg7 hv7 hd7 aG;have r1:=DJ (m:=8) (a:=Dj) hg8 hv8 hd8 aG;have r3:=DJ (m:=8) (a:=uT) hg6 hv6 hd6 aG;refine⟨fun _ h=>h,fun _ _ h=>(by cases h),fun _ _ h=>(by cases h),fun _ _ _ _ _ _ h=>(by cases h),fun g cs hg=>?_⟩
 change (bif beq g 0 then some xJ else bif beq g 1 then some Dj else bif beq g 3 then some uT else none)=some cs at hg
 cases e0:beq g 0 with
 | true=>rw[e0] at hg;rw[eq_of_beq_eq_true e0];cases hg;exact r0
 | false =>
   cases e1:beq g 1 with
   | true=>rw[e0,e1] at hg;rw[eq_of_beq_eq_true e1];cases hg;exact r1
   | false =>
     cases e3:beq g 3 with
     | true=>rw[e0,e1,e3] at hg;rw[eq_of_beq_eq_true e3];cases hg;exact r3
     | false=>rw[e0,e1,e3] at hg;cases hg
set_option maxRecDepth 100000 in
theorem lifted (os:Os)(started:os.Started)(H:Type)(enc:TypeId×Value->H) :
 ReturnsInHanded {} Tryz.checked os 4 .any (fun w args=>(Rows.regsTwiceSpec.pre enc Tryz.prog Tryz.f4 [] false w args∧laidMetH Tryz.prog uI w)∧sizedMet enc Tryz.prog Tryz.f4 (OpenSpec.ofChange Rows.regsTwiceSpec) false w args)
  (Rows.regsTwiceSpec.post enc Tryz.prog Tryz.f4 false true false false):=by
 refine returnsInHanded_of_change_and (C:=Tryz.checked) (X:=fun w _=>laidMetH Tryz.prog uI w) (fun _ _ _ hh h=>h.of_heap hh) own started aG Tryz.func4
  (ChangeSpec.witness_shaped (enc:=enc) (C:=Tryz.checked) (os:=os) (X:=fun w _=>laidMetH Tryz.prog uI w) false (World.laidAll Tryz.prog os uI)
    #[.agg #[.slice none 0 0,.int .i64 0,.slice none 0 0,.slice none 0 0,.slice none 0 0,.slice none 0 0,.slice none 0 0],.int .i64 0,.int .i64 0] 8 (World.laidAll_os _ _ _)
    (World.shaped_of_ZipB aG aG) aG aG aG
    (by rw[MakeChecks.laidMetH_plain _ _ _ aG];exact laidMet_laidAll _ aG aG)) ?_
 intro W base args ds gs before hval0 hW hc hsz hL _;have hval:∀(j:Nat) t v,Tryz.f4.params[j]? = some t->args[j]? = some v->Value.okWide Tryz.prog W .any base t v:=hval0;have hW':=hW;obtain⟨p,q,hA0,hV,rfl,_,_⟩:=hW;have hA:DataW.TrodAll enc Tryz.prog W 0 (fun _=>true) true Tryz.f4.params.toList args.toList ds p:=hA0
 rw[Tryz.params4] at hA hval;obtain⟨rfl,rfl⟩:=trodVars_none hV;obtain⟨v1,v2,v3,d1,d2,d3,p1,p2,p3,rfl,rfl,rfl,h1,h2,h3⟩:=trodAll_three hA;have hw:∀n∈DataW.weightsEach Tryz.prog [31,3,3] [d1,d2,d3],n≤reachBytes:=by
  have e:(DataW.weightsEach Tryz.prog ([31,3,3]++[]) ([d1,d2,d3]++[])).all (·≤reachBytes)=true:=hsz;intro n hn
  simpa using all_eq_true.1 e n (by simpa using hn)
 obtain⟨x2,rfl,rfl,rfl,_⟩:=open_int Tryz.underlying3 (hval 1 3 v2 rfl rfl) h2;obtain⟨x3,rfl,rfl,rfl,_⟩:=open_int Tryz.underlying3 (hval 2 3 v3 rfl rfl) h3;obtain⟨n1,h1⟩:=h1;obtain⟨a1,r1,s1⟩:=BU n1 31 _ _ h1 fun n hn=>hw n (D5 _ _ 0 31 d1 rfl rfl n hn)
 obtain⟨c,rfl⟩:=S5 s1;have k1 : Rel (lj W) W c.av v1 := NL (n := 0) r1 (by
  have:=hval 0 31 v1 rfl rfl;rw[Value.okWide,Tryz.underlying31] at this;obtain⟨cs,rfl,_⟩:=this;exact⟨cs,rfl⟩)
 obtain⟨ae,⟨_,hp⟩,rfl⟩:=ZK c x2 x3 XU;refine(hp (lj W) W [v1,.int .i64 x2,.int .i64 x3] (fun _=>rfl) (Sn hL) (.cons k1 (.cons (.int _ _) (.cons (.int _ _) .nil)))).mono fun e W' he=>?_
 obtain⟨c',_,hx,_,_,hE,rfl⟩:=he;cases e with
 | returned v =>
   obtain rfl:v = .bool true:=by cases hE;rfl
   have hin:∀b,b<W.heap.size->W'.heap[b]? = W.heap[b]?:=fun b hb=>hx.other b hb (by rintro⟨k,o,B,hk,_⟩;cases hk)
   exact⟨_,rfl,WM kids full (by rw[Tryz.params4];decide) rfl hW' rfl aG Tryz.underlying4 hx.os hx.output hin⟩
 | _=>exact hE.elim
theorem twice_holds:Rows.RegsTwiceSaid:=
 OpenClaim.holds_of_wide 4 Tryz.f4 rfl rfl rfl rfl rfl rfl rfl ⟨rfl,rfl,rfl,rfl,rfl⟩ rfl rfl rfl rfl rfl Fq Tryz.func4 jf PD PE (fun os started H enc _=>lifted os started H enc)
theorem twice_card:Rows.RegsTwiceCardSaid:=
 Claim7.holds_tied_plain_at .later [] [.data,.data,.data,.data,.sentinel,.sentinel,.data,.data,.data,.pinned] true (true, "9c676c79cf6187268d0aaf8d03f648df5663a1a7e68dee59d27ac80132a59bd2") true
  twice_holds (fun _ h=>by cases h) Px (fun _ h=>by cases h) regsTwice_row_tie rfl ⟨rfl,rfl⟩ Py rfl
  (fun f fn hf hfn=>by
    obtain rfl:f=4:=Option.some.inj (Fq.symm.trans hf) |>.symm
    obtain rfl:fn=Tryz.f4:=(Option.some.inj (Tryz.func4.symm.trans hfn)).symm;exact⟨Pz,fun j t ht=>by
     rw[Tryz.params4] at ht;have hm:t∈[31,3,3]:=by simpa using Array.mem_of_getElem? ht
     exact(show Tryz.prog.wantsStandIn t=false by simpa using all_eq_true.1 PA t hm)⟩)
  PB
#print axioms twice_card
end Go.Proofs.YthaolifcglpkdaaGreatDoor
