/- ScriptTexts. Conditions: none. -/
import Derived.Test.YtoakdoeajpjgkaaGreatDoorQL18To
import Derived.Test.YtoakdoeajpjgkaaGreatDoorTie
import Derived.Test.YtoakdoeajpjgkaaGreatDoorCards
import Derived.SevenTiedAt
open Go.Proofs.Tryz
set_option linter.unusedSimpArgs false
set_option linter.unusedVariables false
set_option linter.unnecessarySimpa false
set_option linter.unusedSectionVars false
namespace Go.Proofs.YtoakdoeajpjgkaaGreatDoor
set_option linter.unusedSimpArgs false
set_option linter.unusedVariables false
open Go
theorem nZ(B:World)(Fr:List HP)[cV Fr B](gl:GL B)(fg:FG B)(lf:LF B)(s:List UInt8):
 ∀ w,Holds B Fr w→Calls Tryz.prog 6 [str s].toArray w (a8 B Fr (.bool true)):=by
 refine ao func6 aa ntmps6 aa ?_
 have hlw:∀ c∈(cG s).1,c.2.length≤1000000:=fun c hc=>by have:=((sB s).2 c hc).len;omega
 have hln:(cG s).1.length≤1000000:=by have:=(sB s).1;omega
 refine ac (ab (kPa aa aa (ad (ac (ac (ab (ax aa (au call11 aa) (u7 _ _ gl fg) .free aa aa ?_)))))))
 refine kPv (bj aa) aa (ad (bH aa (rfl) (aq (ac (ac (ab (kPm aa aa (kPv (iE aa runUnderlying9 aa) aa (kPv (al aa aa aa) aa (ad ?_))))))))))
 refine aZ aa (fun h13=> ?_) (fun h13=> ?_)
 ·skip
  refine ac (ab (kPa aa aa (ad (ay ?_))))
  exact ar results6 aa (fun w hw=>⟨rfl,hw⟩)
 ·try simp only[decide_eq_true_eq,decide_eq_false_iff_not,Bool.not_eq_true',Bool.not_eq_false',Bool.or_eq_true,Bool.and_eq_true,Bool.and_eq_false_iff,Bool.or_eq_false_iff,beq_iff_eq,bne_iff_ne,beq_eq_false_iff_ne,bne_eq_false_iff_eq,ge_iff_le,gt_iff_lt,ne_eq] at h13
  refine aq (ac (ab (kPm aa aa (aJ aa (au call14 aa) (sy _ _ gl fg s) .free aa aa ?_))))
  rintro _ _ ⟨s1,hs1,rfl,rfl⟩
  refine kPm aa aa (kPv (aA aa aa) aa (kPv (aA aa aa) aa (kPv (aA aa aa) aa (kPa aa aa (kPa aa aa (kPa aa aa (ad (am [5,4,3,2,0] rfl (ac (ab (kPm aa aa ?_)))))))))))
  refine aJ aa (au call20 aa) (xb _ _ gl lf s) .free aa aa ?_
  rintro _ _ ⟨s2,hs2,rfl,rfl⟩
  refine kPm aa aa (kPv (aA aa aa) aa (kPv (aA aa aa) aa (kPv (aA aa aa) aa (kPa aa aa (kPa aa aa (kPa aa aa (ad (am [8,7,6,5,4,3,2] rfl (ac (aR [1,0] (ab ?_)))))))))))
  refine kPm aa aa (kPm aa aa (kPv (al aa aa aa) aa (kPm aa aa (ak aa (aj aa) (.on aa aa (ae (by simp))) aa aa (ak aa (aj aa) (.on aa aa (ae (by simp))) aa aa (ak aa (al aa aa aa) (.on aa aa (ae (by simp))) aa aa (kPv (aw aa (by simp) aa) aa (kPm aa aa (ak aa (aj aa) (.on aa aa (ae (by simp))) aa aa (ak aa (aj aa) (.on aa aa (ae (by simp))) aa aa (ax aa (au call15 aa) (wR hlw hlw hln hln) (.on aa aa (ae (by simp))) aa aa ?_)))))))))))
  refine kPv (aw aa (by simp) aa) aa (kPa aa aa (ad (am [2] rfl (ay ?_))))
  exact ar results6 aa (fun w hw=>⟨by simp,(hw.dp [0,0])⟩)
theorem mj(W:World)(s:ByteArray)(ws:s.size≤maxLen)(hsh:W.ShapedOpen Tryz.prog)(hL:laidMet Tryz.prog Rows.scriptTextsRow.laid W):
 Calls Tryz.prog 6 #[.string s] W fun e w'=>e= .returned (.bool true)∧RowKit.Below W.heap.size W w':=by
 obtain⟨l,hl,_⟩:=xA s
 rw[hl]
 exact B8 (nZ W [old W] (CS hsh hL) (C0 hL.tail.tail.tail.tail.tail.tail) (CQ hL.tail.tail.tail.tail.tail.tail.tail) l)
namespace scriptTexts
open Go.ChangeShapes Go.WideShapes Go.ChangeAt Go.RowKit
set_option maxRecDepth 100000 in
theorem B7(os:Os)(started:os.Started)(H:Type)(enc:TypeId×Value→H):
 ReturnsInHanded {} Tryz.checked os 6 .any (fun w args=>(Rows.scriptTextsSpec.pre enc Tryz.prog Tryz.f6 Rows.scriptTextsRow.domain false w args∧laidMetH Tryz.prog Rows.scriptTextsRow.laid w)∧sizedMet enc Tryz.prog Tryz.f6 (OpenSpec.ofChange Rows.scriptTextsSpec) false w args) (Rows.scriptTextsSpec.post enc Tryz.prog Tryz.f6 false true false false):=by
 refine qQ (C:=Tryz.checked) (laid:=Rows.scriptTextsRow.laid) Tryz.ownKnobs started (by kernel_rfl) func6
  (ChangeSpec.witness_shaped (enc:=enc) (C:=Tryz.checked) (os:=os) (X:=fun w _=>laidMetH Tryz.prog Rows.scriptTextsRow.laid w) false (World.laidAll Tryz.prog os Rows.scriptTextsRow.laid) #[.string ByteArray.empty] 8 (World.laidAll_os _ _ _)
   (World.shaped_of_ZipB (by kernel_rfl) (by kernel_rfl)) (by kernel_rfl) (by kernel_rfl) (by kernel_rfl)
   (by rw[MakeChecks.laidMetH_plain _ _ _ (by kernel_rfl)];exact laidMet_laidAll _ (by kernel_rfl) (by kernel_rfl))) ?_
 intro W base args ds gs before hval0 hW hcnd hL hsh
 rw[MakeChecks.laidMetH_plain _ _ _ (by kernel_rfl)] at hL
 have hval:∀ (j:Nat) t v,Tryz.f6.params[j]? =some t→args[j]? =some v→Value.okWide Tryz.prog W .any base t v:=hval0
 have hW':=hW
 obtain⟨p,q,hA0,hV,rfl,hfz,hnd⟩:=hW
 have hA:DataW.TrodAll enc Tryz.prog W 0 (fun _=>true) true Tryz.f6.params.toList args.toList ds p:=hA0
 rw[Tryz.params6] at hA hval
 obtain⟨v0,vs0,d0,ds0,p0,q0,hargs,rfl,rfl,h0,r0⟩:=trodAll_cons hA
 obtain⟨rfl,rfl,rfl⟩:=trodAll_nil r0
 obtain rfl:args= #[v0]:=by cases args;simp_all
 obtain⟨rfl,rfl⟩:=trodVars_none hV
 have k0:=h0
 have lt0:∀ x∈p0,x.block<W.heap.size:=by obtain⟨m,hm⟩:=k0;exact DataW.trod_lt m _ _ _ hm
 obtain⟨s0,rfl,w0⟩:∃ s,v0= .string s∧s.size≤maxLen:=by
  obtain⟨s,e,_,_,ws⟩:=Go.ChangeMaps.open_string underlying9 (hval 0 9 v0 rfl rfl) h0
  exact⟨s,e,ws⟩
 clear hA0 hval0
 refine(mj W s0 w0 hsh hL).mono fun e W' ⟨he,bel⟩=> ?_
 subst he
 exact⟨_,rfl,_,_,_,[],_,[],hW',trodAll_mk1 (shut_bool underlying4 _),(trodAll_cons_mk (Below.trod Tryz.laidOut (by kernel_rfl) (of_decide_eq_true (by kernel_rfl)) k0 bel lt0) trodAll_mk0),rfl,bel.frame _,fun h=>by cases h⟩
theorem Dh:Rows.scriptTextsRow.holds Tryz.pinned (OpenSpec.ofChange Rows.scriptTextsSpec):=
 OpenClaim.holds_of_wide 6 Tryz.f6 rfl rfl rfl rfl rfl rfl rfl ⟨rfl,rfl,rfl,rfl,rfl⟩ rfl rfl rfl rfl rfl named func6 C1 Dm wrap
  (fun os started H enc _=>B7 os started H enc)
theorem proved:Rows.ScriptTextsCardSaid:=
 Claim7.holds_tied_plain_at .later [] [.data,.data,.data,.data,.sentinel,.sentinel,.data,.data,.pinned] true (true, "f90e334a796904a9246829541802d2bcc979710ad5f61b09d7205d88cafc73d6") true Dh (fun _ h=>by cases h) (by kernel_rfl) (fun _ h=>by cases h) scriptTexts_row_tie rfl ⟨rfl,rfl⟩ (by kernel_rfl) rfl
  (fun f fn hf hfn=>by
   obtain rfl:f=6:=Option.some.inj ((show Tryz.prog.funcNamed "tumulus/tumuluslaw18.ScriptTexts" =some 6 by kernel_rfl).symm.trans hf) |>.symm
   obtain rfl:fn=Tryz.f6:=(Option.some.inj (Tryz.func6.symm.trans hfn)).symm
   exact⟨by kernel_rfl,fun j t ht=>by
    rw[Tryz.params6] at ht
    have hm:t∈[9]:=by simpa using Array.mem_of_getElem? ht
    have hall:([9].all fun u=> !Tryz.prog.wantsStandIn u)=true:=by kernel_rfl
    exact(show Tryz.prog.wantsStandIn t=false by simpa using List.all_eq_true.1 hall t hm)⟩)
  (by kernel_rfl)
end scriptTexts
end Go.Proofs.YtoakdoeajpjgkaaGreatDoor
