/-
  Part C01: lemmas, each with its own conditions.
-/
import Derived.Test.YthaolifcglpkdaaGreatDoorTie
import Derived.Test.YthaolifcglpkdaaGreatDoorCards
import Derived.ProofKit
import Derived.SevenTiedAt
import Derived.Stop.Joined
set_option maxRecDepth 100000
set_option maxHeartbeats 0
set_option linter.all false
namespace Go.Proofs.YthaolifcglpkdaaGreatDoor
open List Nat
open Go Go.ChangeShapes Go.WideShapes Go.ChangeAt Go.RowKit
theorem Ua:(Rows.regsCaughtRow.wf (OpenSpec.ofChange Rows.regsCaughtSpec))=true:=by kernel_rfl
theorem Ub:(laidOutB Tryz.pinned.checked.prog)=true:=by kernel_rfl
theorem Um:(mapsRowed Tryz.pinned.checked.prog)=true:=by kernel_rfl
theorem Ux:(Tryz.f5.params.all (Tryz.pinned.checked.prog.readableRec ·))=true:=by kernel_rfl
theorem UA:(namedTie Tryz.pinned.checked.prog Rows.regsCaughtRow.named Rows.regsCaughtSpec.vars)=true:=by kernel_rfl
theorem UB:((Rows.regsCaughtRow.stops == []))=true:=by kernel_rfl
theorem UC:((Tryz.pinned.checked.prog.stops == []))=true:=by kernel_rfl
theorem UD:((Rows.regsCaughtRow.knobs == []))=true:=by kernel_rfl
theorem UE:((Tryz.pinned.checked.prog.stopKnobs == []))=true:=by kernel_rfl
theorem UF:((Rows.regsCaughtRow.inPlace == Tryz.pinned.checked.prog.inPlace 5))=true:=by kernel_rfl
theorem Uc:((Rows.regsCaughtRow.unfollowed == Tryz.pinned.checked.prog.unfollowed 5))=true:=by kernel_rfl
theorem Ud:((Rows.regsCaughtRow.recurses == Tryz.pinned.checked.prog.recurses 5))=true:=by kernel_rfl
theorem Ue:((Rows.regsCaughtRow.named == Tryz.pinned.checked.prog.varsNamed 5))=true:=by kernel_rfl
theorem Uf:((Rows.regsCaughtRow.maps == (Tryz.f5.params.toList++Rows.regsCaughtSpec.plain.varTypes Tryz.pinned.checked.prog).any (Tryz.pinned.checked.prog.mapsRec ·)))=true:=by kernel_rfl
theorem Ug:((Rows.regsCaughtRow.ifaces == (Tryz.f5.params.toList++Rows.regsCaughtSpec.plain.varTypes Tryz.pinned.checked.prog).any (Tryz.pinned.checked.prog.ifacesRec ·)))=true:=by kernel_rfl
theorem Uh:((Rows.regsCaughtRow.mapsOut == Tryz.pinned.checked.prog.mapsAmong Tryz.f5.resultTypes.toList))=true:=by kernel_rfl
theorem Ui:((Rows.regsCaughtRow.loops == (Tryz.f5.params.toList++Rows.regsCaughtSpec.plain.varTypes Tryz.pinned.checked.prog).any (Tryz.pinned.checked.prog.loopsFrom ·)))=true:=by kernel_rfl
theorem Uj:((Rows.regsCaughtRow.wideKeys == (Tryz.f5.params.toList++Rows.regsCaughtSpec.plain.varTypes Tryz.pinned.checked.prog++Tryz.f5.resultTypes.toList).any (Tryz.pinned.checked.prog.wideKeysFrom ·)))=true:=by kernel_rfl
theorem Uk:(Rows.regsCaughtSpec.vars.all (Tryz.pinned.checked.prog.varReadable ·))=true:=by kernel_rfl
theorem Ul:(Tryz.f5.resultTypes.all (fun t=>Tryz.pinned.checked.prog.readableRec t && decide (t<Tryz.pinned.checked.prog.types.size)))=true:=by kernel_rfl
theorem Un:((Rows.regsCaughtRow.ifacesOut == Tryz.f5.resultTypes.toList.any (Tryz.pinned.checked.prog.ifacesRec ·)))=true:=by kernel_rfl
theorem Uo:((Rows.regsCaughtRow.loopsOut == Tryz.f5.resultTypes.toList.any (Tryz.pinned.checked.prog.loopsFrom ·)))=true:=by kernel_rfl
theorem Up:((Rows.regsCaughtRow.plainKeys == Tryz.pinned.checked.prog.plainKeys))=true:=by kernel_rfl
theorem Uq:(Rows.regsCaughtRow.shortTexts.isNone)=true:=by kernel_rfl
theorem Ur:(Tryz.pinned.checked.prog.stopsHeard)=true:=by kernel_rfl
theorem Us:(Tryz.pinned.checked.prog.mayEnter)=true:=by kernel_rfl
theorem Ut:((Rows.regsCaughtRow.lifted == Tryz.pinned.checked.prog.liftsFinal))=true:=by kernel_rfl
theorem Uu:((Tryz.pinned.checked.prog.make == some Rows.regsCaughtRow.make))=true:=by kernel_rfl
theorem Uv:((Rows.regsCaughtRow.kinds == (if Rows.regsCaughtRow.domain.isEmpty then [] else Tryz.f5.params.toList.map fun t=>match Tryz.pinned.checked.prog.underlying t with|some (.int k)=>some k|_=>none)))=true:=by kernel_rfl
theorem Uw:((Rows.regsCaughtRow.pinned == Rows.regsCaughtRow.pinnedBy))=true:=by kernel_rfl
theorem Uy:((Rows.regsCaughtRow.veiled == (Tryz.f5.params.toList++Rows.regsCaughtSpec.plain.varTypes Tryz.pinned.checked.prog++Tryz.f5.resultTypes.toList).any (Tryz.pinned.checked.prog.veiledRec ·)))=true:=by kernel_rfl
theorem Uz:(Rows.regsCaughtRow.veiledFits Tryz.pinned.checked.prog Tryz.f5.params.toList (Tryz.f5.params.toList++Rows.regsCaughtSpec.plain.varTypes Tryz.pinned.checked.prog++Tryz.f5.resultTypes.toList))=true:=by kernel_rfl
theorem jf:joinedFacts Tryz.pinned.checked.prog 5 Tryz.f5 Rows.regsCaughtSpec Rows.regsCaughtRow=true:=by
 unfold joinedFacts;simp only[Bool.and_eq_true];exact⟨⟨⟨⟨⟨⟨⟨⟨⟨⟨⟨⟨⟨⟨⟨⟨⟨⟨⟨⟨⟨⟨⟨⟨⟨⟨⟨⟨⟨⟨⟨Ua,Ub⟩,Um⟩,Ux⟩,UA⟩,UB⟩,UC⟩,UD⟩,UE⟩,UF⟩,Uc⟩,Ud⟩,Ue⟩,Uf⟩,Ug⟩,Uh⟩,Ui⟩,Uj⟩,Uk⟩,Ul⟩,Un⟩,Uo⟩,Up⟩,Uq⟩,Ur⟩,Us⟩,Ut⟩,Uu⟩,Uv⟩,Uw⟩,Uy⟩,Uz⟩
theorem P2:Rows.regsCaughtRow.wfByText (OpenSpec.ofChange Rows.regsCaughtSpec)=true:=by kernel_rfl
theorem P3:Tryz.pinned.checked.prog.mainIs=some (true, "9c676c79cf6187268d0aaf8d03f648df5663a1a7e68dee59d27ac80132a59bd2".toList):=by kernel_rfl
theorem P4:true=Tryz.pinned.checked.prog.looks []:=by kernel_rfl
theorem P5:([31,3,3,3,3,3].all fun u=>!Tryz.prog.wantsStandIn u)=true:=by kernel_rfl
theorem P6:false=Rows.regsCaughtRow.goesBy Tryz.pinned.checked.prog:=by kernel_rfl
theorem FF:Tryz.prog.funcNamed "pliant/pliantlaw21.RegsCaught" = some 5:=by kernel_rfl
theorem P7:Tryz.f5.isInstance Tryz.pinned.checked.prog Rows.regsCaughtRow.origin Rows.regsCaughtRow.targs:=of_decide_eq_true (by kernel_rfl)
theorem P8:Tryz.f5.isWrapper Tryz.pinned.checked.prog Rows.regsCaughtRow.wrapper Rows.regsCaughtRow.mainSum:=by
 unfold Func.isWrapper;first|(rw[if_pos (by decide +kernel)];kernel_rfl)|(rw[if_neg (by decide +kernel)];exact⟨rfl,rfl⟩)
end Go.Proofs.YthaolifcglpkdaaGreatDoor
