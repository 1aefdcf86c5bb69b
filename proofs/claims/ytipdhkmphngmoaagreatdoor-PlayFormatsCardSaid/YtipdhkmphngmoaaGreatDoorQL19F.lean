/- PlayFormats: the row and its card. Conditions: none. -/
import Derived.Test.YtipdhkmphngmoaaGreatDoorQL19Fr
import Derived.Test.YtipdhkmphngmoaaGreatDoorTie
import Derived.Test.YtipdhkmphngmoaaGreatDoorCards
import Derived.SevenTiedAt
open Go.Proofs.Tryz
set_option linter.unusedSimpArgs false
set_option linter.unusedVariables false
set_option linter.unnecessarySimpa false
set_option linter.unusedSectionVars false
namespace Go.Proofs.YtipdhkmphngmoaaGreatDoor
set_option linter.unusedSimpArgs false
set_option linter.unusedVariables false
open Go
namespace playFormats
open Go.ChangeShapes Go.WideShapes Go.ChangeAt Go.RowKit
set_option maxRecDepth 100000 in
theorem xg(H:Type)(enc:TypeId×Value→H):Rows.playFormatsSpec.post enc Tryz.pinned.checked.prog Tryz.f4 Rows.playFormatsRow.apart Rows.playFormatsRow.fresh Rows.playFormatsRow.handsOn Rows.playFormatsRow.again=Rows.playFormatsSpec.post enc Tryz.prog Tryz.f4 false true false false:=rfl
theorem yQ(H:Type)(enc:TypeId×Value→H):Rows.playFormatsRow.pre enc Tryz.prog Tryz.f4 (OpenSpec.ofChange Rows.playFormatsSpec)=(fun w args=>(Rows.playFormatsSpec.pre enc Tryz.prog Tryz.f4 Rows.playFormatsRow.domain false w args∧laidMetH Tryz.prog Rows.playFormatsRow.laid w)∧sizedMet enc Tryz.prog Tryz.f4 (OpenSpec.ofChange Rows.playFormatsSpec) false w args):=rfl
theorem xf(H:Type)(enc:TypeId×Value→H):Rows.playFormatsRow.pre enc Tryz.pinned.checked.prog Tryz.f4 (OpenSpec.ofChange Rows.playFormatsSpec)=Rows.playFormatsRow.pre enc Tryz.prog Tryz.f4 (OpenSpec.ofChange Rows.playFormatsSpec):=rfl
theorem Bd(os:Os)(started:os.Started)(H:Type)(enc:TypeId×Value→H):ReturnsInHanded Rows.playFormatsRow.assume Tryz.pinned.checked os 4 .any (Rows.playFormatsRow.pre enc Tryz.pinned.checked.prog Tryz.f4 (OpenSpec.ofChange Rows.playFormatsSpec)) (Rows.playFormatsSpec.post enc Tryz.pinned.checked.prog Tryz.f4 Rows.playFormatsRow.apart Rows.playFormatsRow.fresh Rows.playFormatsRow.handsOn Rows.playFormatsRow.again):=by
 rw[xg,xf,yQ]
 exact CO os started H enc
theorem D4:Rows.playFormatsRow.holds Tryz.pinned (OpenSpec.ofChange Rows.playFormatsSpec):=
 OpenClaim.holds_of_wide 4 Tryz.f4 rfl rfl rfl rfl rfl rfl rfl ⟨rfl,rfl,rfl,rfl,rfl⟩ rfl rfl rfl rfl rfl named func4 DO Ea wrap
  (fun os started H enc _=>Bd os started H enc)
theorem Eg:Rows.playFormatsRow.wfByText (OpenSpec.ofChange Rows.playFormatsSpec)=true:=by kernel_rfl
theorem Dc:Tryz.pinned.checked.prog.mainIs=some (((true, "7f43e1e61eccd1bc38052b3779fc7a874ca6a4db7314601c174cb2e673e8a78e")).1,((true, "7f43e1e61eccd1bc38052b3779fc7a874ca6a4db7314601c174cb2e673e8a78e")).2.toList):=by kernel_rfl
theorem BS:true=Tryz.pinned.checked.prog.looks []:=by kernel_rfl
theorem Db:Tryz.prog.funcNamed "tumulus/tumuluslaw19.PlayFormats" =some 4:=by kernel_rfl
theorem Dd:false=Rows.playFormatsRow.goesBy Tryz.pinned.checked.prog:=by kernel_rfl
theorem Da:([3,3,3,4].all fun u=> !Tryz.prog.wantsStandIn u)=true:=by kernel_rfl
theorem proved:Rows.PlayFormatsCardSaid:=
 Claim7.holds_tied_plain_at .later [] [.data,.data,.data,.data,.sentinel,.sentinel,.data,.pinned] true (true, "7f43e1e61eccd1bc38052b3779fc7a874ca6a4db7314601c174cb2e673e8a78e") true D4 (fun _ h=>by cases h) Eg (fun _ h=>by cases h) playFormats_row_tie rfl ⟨rfl,rfl⟩ Dc rfl
  (fun f fn hf hfn=>by
   obtain rfl:f=4:=Option.some.inj (Db.symm.trans hf) |>.symm
   obtain rfl:fn=Tryz.f4:=(Option.some.inj (Tryz.func4.symm.trans hfn)).symm
   exact⟨BS,fun j t ht=>by
    rw[Tryz.params4] at ht
    have hm:t∈[3,3,3,4]:=by simpa using Array.mem_of_getElem? ht
    exact(show Tryz.prog.wantsStandIn t=false by simpa using List.all_eq_true.1 Da t hm)⟩)
  Dd
end playFormats
end Go.Proofs.YtipdhkmphngmoaaGreatDoor
