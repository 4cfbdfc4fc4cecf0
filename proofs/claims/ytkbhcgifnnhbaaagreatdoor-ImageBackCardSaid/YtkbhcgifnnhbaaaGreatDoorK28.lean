/- Texts of one claim, put together. -/
import Derived.Test.YtkbhcgifnnhbaaaGreatDoorK27
import Derived.Test.YtkbhcgifnnhbaaaGreatDoorRows
import Derived.JoinedOf
import Derived.KernelRfl
import Derived.Test.YtkbhcgifnnhbaaaGreatDoorCards
import Derived.SevenTiedAt
namespace Go.Proofs.YtkbhcgifnnhbaaaGreatDoor
open Go
set_option maxRecDepth 20000
section
theorem b4H:(Rows.imageBackRow.plainKeys==Tryz.pinned.checked.prog.plainKeys)=true:=by kernel_rfl
theorem b4F:Tryz.pinned.checked.prog.stopsHeard=true:=by kernel_rfl
theorem b4D:Tryz.pinned.checked.prog.mayEnter=true:=by kernel_rfl
theorem b0E:(Rows.imageBackRow.lifted==Tryz.pinned.checked.prog.liftsFinal)=true:=by kernel_rfl
end
section
theorem j5a:(Rows.imageBackRow.inPlace==Tryz.pinned.checked.prog.inPlace 5)=true:=by kernel_rfl
end
section
theorem j5b:(Rows.imageBackRow.unfollowed==Tryz.pinned.checked.prog.unfollowed 5)=true:=by kernel_rfl
end
section
theorem j5c:(Rows.imageBackRow.recurses==Tryz.pinned.checked.prog.recurses 5)=true:=by kernel_rfl
end
section
theorem j5d:(Rows.imageBackRow.named==Tryz.pinned.checked.prog.varsNamed 5)=true:=by kernel_rfl
end
section
open Go Go.Abs Go.ChangeShapes Go.WideShapes Go.ChangeAt Go.RowKit
set_option maxRecDepth 20000
theorem q9j:joinedFacts Tryz.pinned.checked.prog 5 Tryz.f5 Rows.imageBackSpec Rows.imageBackRow=true:=by
 simp only[joinedFacts,xAc];exact⟨⟨⟨⟨⟨⟨⟨⟨⟨⟨⟨⟨⟨⟨⟨⟨⟨⟨⟨⟨⟨⟨⟨⟨⟨⟨⟨⟨⟨⟨⟨(by as_aux_lemma=>kernel_rfl),b7B⟩,b7C⟩,(by as_aux_lemma=>kernel_rfl)⟩,(by as_aux_lemma=>kernel_rfl)⟩,(by as_aux_lemma=>kernel_rfl)⟩,b4I⟩,(by as_aux_lemma=>kernel_rfl)⟩,b4G⟩,j5a⟩,j5b⟩,j5c⟩,j5d⟩,(by as_aux_lemma=>kernel_rfl)⟩,(by as_aux_lemma=>kernel_rfl)⟩,(by as_aux_lemma=>kernel_rfl)⟩,(by as_aux_lemma=>kernel_rfl)⟩,(by as_aux_lemma=>kernel_rfl)⟩,(by as_aux_lemma=>kernel_rfl)⟩,(by as_aux_lemma=>kernel_rfl)⟩,(by as_aux_lemma=>kernel_rfl)⟩,(by as_aux_lemma=>kernel_rfl)⟩,b4H⟩,(by as_aux_lemma=>kernel_rfl)⟩,b4F⟩,b4D⟩,b0E⟩,(by as_aux_lemma=>kernel_rfl)⟩,(by as_aux_lemma=>kernel_rfl)⟩,(by as_aux_lemma=>kernel_rfl)⟩,(by as_aux_lemma=>kernel_rfl)⟩,(by as_aux_lemma=>kernel_rfl)⟩
theorem z10:Rows.ImageBackSaid:=
 OpenClaim.holds_of_wide 5 Tryz.f5 rfl rfl rfl rfl rfl rfl rfl ⟨rfl,rfl,rfl,rfl,rfl⟩ rfl rfl rfl rfl rfl (by as_aux_lemma=>kernel_rfl) Tryz.func5 q9j
  (xCk (by as_aux_lemma=>kernel_rfl)) (by unfold Func.isWrapper;first|(rw[xAb (by decide +kernel)];as_aux_lemma=>kernel_rfl)|(rw[xAa (by decide +kernel)];exact⟨rfl,rfl⟩))
  (fun os started H enc _=>q70 os started H enc)
end
section
theorem b4E:false=Rows.imageBackRow.goesBy Tryz.pinned.checked.prog:=by kernel_rfl
theorem b0F:false=Tryz.pinned.checked.prog.looks []:=by kernel_rfl
theorem b8I:Rows.imageBackRow.wfByText (OpenSpec.ofChange Rows.imageBackSpec)=true:=by kernel_rfl
end
section
open Go Go.Abs Go.ChangeShapes Go.WideShapes Go.ChangeAt Go.RowKit
set_option maxRecDepth 20000
theorem imageBack_holds:Rows.ImageBackCardSaid:=
 Claim7.holds_tied_plain_at .later [] [.data] true _ false
  z10 (fun _ h=>by cases h) b8I (fun _ h=>by cases h) imageBack_row_tie rfl ⟨rfl,rfl⟩ (by as_aux_lemma=>kernel_rfl) rfl
  (fun f fn hf hfn=>by
   obtain rfl : f = 5 := xsj ((show TP.funcNamed "bursar/bursarlaw21.ImageBack" = some 5 by as_aux_lemma => kernel_rfl).symm.trans hf) |>.symm
   obtain rfl:fn=Tryz.f5:=(xsj (Tryz.func5.symm.trans hfn)).symm;exact⟨b0F,fun j t ht=>by
    rw[Tryz.params5]at ht;have hm:t∈[22,23]:=by simpa using Array.mem_of_getElem? ht
    have hall:([22,23].all fun u=>!TP.wantsStandIn u)=true:=by as_aux_lemma=>kernel_rfl
    exact(show TP.wantsStandIn t=false by simpa using xBd.1 hall t hm)⟩)
  b4E
#print axioms imageBack_holds
end
end Go.Proofs.YtkbhcgifnnhbaaaGreatDoor
