/- ScriptSpoilt. Conditions: none. -/
import Derived.Test.YtoakdoeajpjgkaaGreatDoorQL18So
import Derived.Test.YtoakdoeajpjgkaaGreatDoorTie
import Derived.Test.YtoakdoeajpjgkaaGreatDoorCards
import Derived.SevenTiedAt
open Go.Proofs.Tryz
set_option linter.unusedSimpArgs false
set_option linter.unusedVariables false
set_option linter.unnecessarySimpa false
set_option linter.unusedSectionVars false
namespace Go.Proofs.YtoakdoeajpjgkaaGreatDoor
set_option linter.unusedSimpArgs false
set_option linter.unusedVariables false
open Go
theorem nC(B:World)(Fr:List HP)[cM Fr B](gl:GL B)(fg:FG B)(lf:LF B)(q:Option Addr)(n cap:Nat)(f:Nat→Ln)(hf:∀ i,i<n→LnW (f i))(hr:lM B q n 5 (fun i=>(f i).row))(at_ cut:Nat)(hat:at_≤65535)(hcut:cut≤255)(more:List UInt8):
 ∀ w,Holds B Fr w→Calls Tryz.prog 7 [.slice q n cap,.int .u16 at_,.int .u8 cut,str more].toArray w (a8 B Fr (.bool true)):=by
 refine ao func7 aa ntmps7 aa (ac (ab (kPa aa aa (ad (ac (ac (ab (ay aa (ar call11 aa) (vz _ _ gl fg) .free aa aa ?_))))))))
 refine kPv (bx aa) aa (ad (bJ aa (rfl) (aq (ac (ac (ab (kPm aa aa (kPv (bB aa runUnderlying22 ⟨_,rfl⟩ rfl) aa (kPv (am aa aa aa) aa (kPm aa aa ?_))))))))))
 apply fW (tp:=31) (t:=27) (σ1:=[(27,_),(8,_),(0,_),(1,_),(2,_),(3,_)]) 4 rfl (aC rfl)
 ·intro hg1
  refine al aa (aj aa) (.on aa aa (ae hg1)) aa aa (al aa (gI aa runUnderlying9 aa) (.on aa aa (ae hg1)) aa aa (al aa (am aa aa aa) (.on aa aa (ae hg1)) aa aa (kPv (aH aa hg1 aa) aa ?_)))
  exact aV aa (aC aa) (eX hg1)
 ·intro hg1
  refine ap aa (.on aa aa (ag hg1)) aa (ap aa (.on aa aa (ag hg1)) aa (ap aa (.on aa aa (ag hg1)) aa (kPv (aw aa hg1 aa) aa ?_)))
  exact aV aa (aC aa) (eW hg1)
 refine ad ?_
 refine aZ aa (fun h31=> ?_) (fun h31=> ?_)
 ·
  refine ac (ab (kPa aa aa (ad (az ?_))))
  exact au results7 aa (fun w hw=>⟨rfl,hw⟩)
 ·have hn:n≤30:=by simp at h31;omega
  have hmo:more.length≤40:=by simp at h31;omega
  refine aq (ac (ab (kPa aa aa (ad (ac (ac (ab (kPm aa aa (kPv (bB aa runUnderlying22 ⟨_,rfl⟩ rfl) aa (kPm aa aa (ad ?_)))))))))))
  refine aF (cA (ι:=Nat×List UInt8) [33,32,8,1,2,3] (fun (i,z)=>(i≤n)∧(z.length≤121*i)) (fun (i,z)=>[(34,i64 i),(9,str z)]) (fun (i,z)=>Fr) (fun (i,z)=>n - i) (0,[]) (⟨Nat.zero_le _,Nat.zero_le _⟩) (fun a w st=>st.to ⟨rfl,rfl,trivial⟩ (fun hh=>hh)) ?_)
  rintro⟨i,z⟩ ⟨hi0,hz⟩
  try simp only at hi0 hz ⊢
  refine bY (σ':=[(34,i64 i),(9,str z),(33,_),(32,_),(8,_),(1,_),(2,_),(3,_)]) (aC aa) (ac (ab (kPv (am aa aa aa) aa (ad (ac ?_)))))
  refine aZ aa (fun h35=> ?_) (fun h35=> ?_)
  ·have hi:i<n:=by simp at h35;omega
   obtain⟨bq,oq,rfl,_⟩:=hr.cell i hi
   have htl:=Ln.t_len (hf i hi)
   obtain⟨k1,n1,n2,n3,g1,hfi⟩:=Ln.lit (hf i hi)
   refine aq (ac (aF (ac (ab (kPv (j0 (sz:=5) runUnderlying22 sizeOf28 aa aa (by omega) (by omega) aa) aa (kPv (gS (i:=i) (c:=[.int .u8 k1,w64 n1,w64 n2,w64 n3,.int .u8 g1]) (cap:=cap) isAgg28 sizeOf28 (SlN.arg hr) aa (A4 hi hfi)) aa (kPb (aD zeroValue28 aa) aa fun b11=> ?_)))))))
   refine kPs (ax (vs:=_) sizeOf28 aa aa aa (by first | rfl | exact dW (by assumption)) rfl) rfl ?_;refine ad ?_;refine ac ?_;refine ab ?_;refine kPv (ah isAgg28 sizeOf28 aa aa) aa ?_;refine aI aa (ar call12 aa) (zo _ _ gl lf (f i) (hf i hi) hfi) .free aa aa ?_
   rintro _ _ ⟨t,ht1,ht2,rfl,rfl⟩
   refine kPm aa aa (kPv (aA aa aa) aa (kPv (aA aa aa) aa (kPv (aA aa aa) aa (kPb (aD zeroValue32 aa) aa fun b12=> ?_))))
   refine kPs (ax (vs:=_) sizeOf32 aa aa aa (by first | rfl | exact dW (by assumption)) rfl) rfl ?_;refine kPa aa aa ?_;refine kPa aa aa ?_;refine ad ?_;refine an [14,34,9,33,32,8,1,2,3] rfl ?_;refine ab ?_;refine kPm aa aa ?_;refine kPm aa aa ?_
   refine al aa (dT aa aa (by first | omega | (simp only[List.length_append,List.length_cons,List.length_nil];omega))) .free aa aa ?_
   refine al aa (dT aa aa (by first | omega | (simp only[List.length_append,List.length_cons,List.length_nil];omega))) .free aa aa ?_
   refine kPa aa aa (ad (ab (kPv (aL aa aa) aa (kPm aa aa (ad ?_)))))
   exact fun a w st_=>⟨(i+1,z++((f i).t++[10])),⟨by first | omega | (simp only;omega),by simp only[List.length_append,List.length_cons,List.length_nil];omega⟩,by first | omega | (simp only;omega),st_.to (aC aa) (fun hh=>(hh.dp [0,0,0]))⟩
  ·have hzl:z.length≤3630:=by omega
   obtain⟨j,hj⟩:∃ j,j=at_%(z.length+1):=⟨_,rfl⟩
   have hjl:j≤z.length:=by have:=Nat.mod_lt at_ (show 0<z.length+1 by omega);omega
   obtain⟨j2,hj2⟩:∃ j2,j2=min (j+cut%6) z.length:=⟨_,rfl⟩
   have hj2l:j2≤z.length:=by omega
   have hj2z:((j2:Nat):Int)=min ((j:Int)+((cut%6:Nat):Int)) z.length:=by omega
   have hta:=AS z (j:Int).toNat
   have htb:=BM z (j2:Int).toNat
   refine bC (ac (ab (kPm aa aa (kPv (bK runUnderlying48 runUnderlying3 aa) aa (kPm aa aa (kPv (gI aa runUnderlying9 aa) aa (kPv (aL aa aa) aa (kPv (eM (c:=(j:Int)) aa aa (by omega) (by rw[hj,Int.tmod_eq_emod_of_nonneg (by omega),Int.natCast_emod];rfl)) aa (kPa aa aa (ad (an [15,9,8,2,3] rfl ?_)))))))))))
   refine ac (cK Tryz.mixed (by kernel_rfl) (by kernel_rfl) ?_)
   refine kQm aa aa (kQm aa aa (kQv (k8 runUnderlying9 aa aa (by omega) (by omega)) aa (kQm aa aa ?_)))
   refine ba aa (dT aa aa (by first | omega | (simp only[List.length_append,List.length_cons,List.length_nil];omega))) .free aa ?_
   refine kQm aa aa (kQm aa aa (kQm aa aa (kQv (eM (c:=((cut%6:Nat):Int)) aa aa (by decide) ((i8 6 (by omega)).trans (by omega))) aa (kQv (bK runUnderlying5 runUnderlying3 aa) aa (kQv (aL aa aa) aa (kQm aa aa (kQv (gI aa runUnderlying9 aa) aa (kQv (C8 (c:=(j2:Int)) aa aa (by split<;>omega)) aa (kQv (mR runUnderlying9 aa aa (by omega) (by omega)) aa ?_)))))))))
   refine ba aa (dT aa aa (by first | omega | (simp only[List.length_append,List.length_cons,List.length_nil];omega))) .free aa ?_
   refine kQa aa aa (cg (an [9,8] rfl (ac ?_)))
   obtain⟨zz,hzz⟩:∃ zz,zz=(z.take (j:Int).toNat++more++z.drop (j2:Int).toNat):=⟨_,rfl⟩
   rw[←hzz]
   have hpw:=zc zz
   have hlw:∀ c∈(cH zz).1,c.2.length≤1000000:=fun c hc=>by have:=(hpw.2 c hc).len;omega
   have hln:(cH zz).1.length≤1000000:=by have:=hpw.1;omega
   refine ab (kPm aa aa (aI aa (ar call14 aa) (tf _ _ gl fg zz) .free aa aa ?_))
   rintro _ _ ⟨s1,hs1,rfl,rfl⟩
   refine kPm aa aa (kPv (aA aa aa) aa (kPv (aA aa aa) aa (kPv (aA aa aa) aa (kPa aa aa (kPa aa aa (kPa aa aa (ad (ac (ab (kPm aa aa (aI aa (ar call20 aa) (xL _ _ gl lf zz) .free aa aa ?_)))))))))))
   rintro _ _ ⟨s2,hs2,rfl,rfl⟩
   refine kPm aa aa (kPv (aA aa aa) aa (kPv (aA aa aa) aa (kPv (aA aa aa) aa (kPa aa aa (kPa aa aa (kPa aa aa (ad (an [21,20,19,18,17,16,8] rfl (ac (aS [1,0] (ab ?_)))))))))))
   refine kPm aa aa (kPm aa aa (kPv (am aa aa aa) aa (kPm aa aa (al aa (aj aa) (.on aa aa (ae (by simp))) aa aa (al aa (aj aa) (.on aa aa (ae (by simp))) aa aa (al aa (am aa aa aa) (.on aa aa (ae (by simp))) aa aa (kPv (aw aa (by simp) aa) aa (kPm aa aa (al aa (aj aa) (.on aa aa (ae (by simp))) aa aa (al aa (aj aa) (.on aa aa (ae (by simp))) aa aa (ay aa (ar call15 aa) (xr hlw hlw hln hln) (.on aa aa (ae (by simp))) aa aa ?_)))))))))))
   refine kPv (aw aa (by simp) aa) aa (kPa aa aa (ad (an [8] rfl (az ?_))))
   exact au results7 aa (fun w hw=>⟨by simp,(hw.dp [0,0])⟩)
theorem lW(W:World){a0:Option Addr}{n0 cap0:Nat}{f:Nat→Ln}(w0:n0≤9223372036854775807∧(∀ i,i<n0→LnW (f i))∧lM W a0 n0 5 (fun i=>(f i).row))(x:Int)(wx:(Lit.int .u16 x).wf=true)(c:Int)(wc:(Lit.int .u8 c).wf=true)(s:ByteArray)(ws:s.size≤maxLen)(hsh:W.ShapedOpen Tryz.prog)(hL:laidMet Tryz.prog Rows.scriptSpoiltRow.laid W):
 Calls Tryz.prog 7 #[.slice a0 n0 cap0,.int .u16 x,.int .u8 c,.string s] W fun e w'=>e= .returned (.bool true)∧RowKit.Below W.heap.size W w':=by
 obtain⟨l,hl,_⟩:=yb s
 have hb:=bounds_u16 wx
 have hc:=bounds_u8 wc
 obtain⟨k,rfl⟩:=Int.eq_ofNat_of_zero_le hb.1
 obtain⟨m,rfl⟩:=Int.eq_ofNat_of_zero_le hc.1
 rw[hl]
 exact CW (nC W [old W] (DC hsh hL) (DL hL.tail.tail.tail.tail.tail.tail) (DB hL.tail.tail.tail.tail.tail.tail.tail) a0 n0 cap0 f w0.2.1 w0.2.2 k m (by omega) (by omega) l)
namespace scriptSpoilt
open Go.ChangeShapes Go.WideShapes Go.ChangeAt Go.RowKit
set_option maxRecDepth 100000 in
theorem CV(os:Os)(started:os.Started)(H:Type)(enc:TypeId×Value→H):
 ReturnsInHanded {} Tryz.checked os 7 .any (fun w args=>(Rows.scriptSpoiltSpec.pre enc Tryz.prog Tryz.f7 Rows.scriptSpoiltRow.domain false w args∧laidMetH Tryz.prog Rows.scriptSpoiltRow.laid w)∧sizedMet enc Tryz.prog Tryz.f7 (OpenSpec.ofChange Rows.scriptSpoiltSpec) false w args) (Rows.scriptSpoiltSpec.post enc Tryz.prog Tryz.f7 false true false false):=by
 refine rn (C:=Tryz.checked) (laid:=Rows.scriptSpoiltRow.laid) Tryz.ownKnobs started (by kernel_rfl) func7
  (ChangeSpec.witness_shaped (enc:=enc) (C:=Tryz.checked) (os:=os) (X:=fun w _=>laidMetH Tryz.prog Rows.scriptSpoiltRow.laid w) false (World.laidAll Tryz.prog os Rows.scriptSpoiltRow.laid) #[.slice none 0 0,.int .u16 0,.int .u8 0,.string ByteArray.empty] 8 (World.laidAll_os _ _ _)
   (World.shaped_of_ZipB (by kernel_rfl) (by kernel_rfl)) (by kernel_rfl) (by kernel_rfl) (by kernel_rfl)
   (by rw[MakeChecks.laidMetH_plain _ _ _ (by kernel_rfl)];exact laidMet_laidAll _ (by kernel_rfl) (by kernel_rfl))) ?_
 intro W base args ds gs before hval0 hW hcnd hL hsh
 rw[MakeChecks.laidMetH_plain _ _ _ (by kernel_rfl)] at hL
 have hval:∀ (j:Nat) t v,Tryz.f7.params[j]? =some t→args[j]? =some v→Value.okWide Tryz.prog W .any base t v:=hval0
 have hW':=hW
 obtain⟨p,q,hA0,hV,rfl,hfz,hnd⟩:=hW
 have hA:DataW.TrodAll enc Tryz.prog W 0 (fun _=>true) true Tryz.f7.params.toList args.toList ds p:=hA0
 rw[Tryz.params7] at hA hval
 obtain⟨v0,vs0,d0,ds0,p0,q0,hargs,rfl,rfl,h0,r0⟩:=trodAll_cons hA
 obtain⟨v1,vs1,d1,ds1,p1,q1,rfl,rfl,rfl,h1,r1⟩:=trodAll_cons r0
 obtain⟨v2,vs2,d2,ds2,p2,q2,rfl,rfl,rfl,h2,r2⟩:=trodAll_cons r1
 obtain⟨v3,vs3,d3,ds3,p3,q3,rfl,rfl,rfl,h3,r3⟩:=trodAll_cons r2
 obtain⟨rfl,rfl,rfl⟩:=trodAll_nil r3
 obtain rfl:args= #[v0,v1,v2,v3]:=by cases args;simp_all
 obtain⟨rfl,rfl⟩:=trodVars_none hV
 obtain⟨a0,len0,cap0,rfl⟩:=okWide_slice underlying22 (hval 0 22 v0 rfl rfl)
 have k0:=h0
 have lt0:∀ x∈p0,x.block<W.heap.size:=by obtain⟨m,hm⟩:=k0;exact DataW.trod_lt m _ _ _ hm
 obtain⟨z0,w0⟩:=jq h0
 have k1:=h1
 have lt1:∀ x∈p1,x.block<W.heap.size:=by obtain⟨m,hm⟩:=k1;exact DataW.trod_lt m _ _ _ hm
 obtain⟨a1,rfl,w1⟩:∃ a,v1= .int .u16 a∧(Lit.int .u16 a).wf=true:=by
  obtain⟨a,e,_,_,wa⟩:=open_int underlying48 (hval 1 48 v1 rfl rfl) h1
  exact⟨a,e,wa⟩
 have k2:=h2
 have lt2:∀ x∈p2,x.block<W.heap.size:=by obtain⟨m,hm⟩:=k2;exact DataW.trod_lt m _ _ _ hm
 obtain⟨a2,rfl,w2⟩:∃ a,v2= .int .u8 a∧(Lit.int .u8 a).wf=true:=by
  obtain⟨a,e,_,_,wa⟩:=open_int underlying5 (hval 2 5 v2 rfl rfl) h2
  exact⟨a,e,wa⟩
 have k3:=h3
 have lt3:∀ x∈p3,x.block<W.heap.size:=by obtain⟨m,hm⟩:=k3;exact DataW.trod_lt m _ _ _ hm
 obtain⟨s3,rfl,w3⟩:∃ s,v3= .string s∧s.size≤maxLen:=by
  obtain⟨s,e,_,_,ws⟩:=Go.ChangeMaps.open_string underlying9 (hval 3 9 v3 rfl rfl) h3
  exact⟨s,e,ws⟩
 clear hA0 hval0
 refine(lW W w0 a1 w1 a2 w2 s3 w3 hsh hL).mono fun e W' ⟨he,bel⟩=> ?_
 subst he
 exact⟨_,rfl,_,_,_,[],_,[],hW',trodAll_mk1 (shut_bool underlying4 _),(trodAll_cons_mk (Below.trod Tryz.laidOut (by kernel_rfl) (of_decide_eq_true (by kernel_rfl)) k0 bel lt0) (trodAll_cons_mk (Below.trod Tryz.laidOut (by kernel_rfl) (of_decide_eq_true (by kernel_rfl)) k1 bel lt1) (trodAll_cons_mk (Below.trod Tryz.laidOut (by kernel_rfl) (of_decide_eq_true (by kernel_rfl)) k2 bel lt2) (trodAll_cons_mk (Below.trod Tryz.laidOut (by kernel_rfl) (of_decide_eq_true (by kernel_rfl)) k3 bel lt3) trodAll_mk0)))),rfl,bel.frame _,fun h=>by cases h⟩
theorem D2:Rows.scriptSpoiltRow.holds Tryz.pinned (OpenSpec.ofChange Rows.scriptSpoiltSpec):=
 OpenClaim.holds_of_wide 7 Tryz.f7 rfl rfl rfl rfl rfl rfl rfl ⟨rfl,rfl,rfl,rfl,rfl⟩ rfl rfl rfl rfl rfl named func7 DM D7 wrap
  (fun os started H enc _=>CV os started H enc)
theorem proved:Rows.ScriptSpoiltCardSaid:=
 Claim7.holds_tied_plain_at .later [] [.data,.data,.data,.data,.sentinel,.sentinel,.data,.data,.pinned] true (true, "f90e334a796904a9246829541802d2bcc979710ad5f61b09d7205d88cafc73d6") true D2 (fun _ h=>by cases h) (by kernel_rfl) (fun _ h=>by cases h) scriptSpoilt_row_tie rfl ⟨rfl,rfl⟩ (by kernel_rfl) rfl
  (fun f fn hf hfn=>by
   obtain rfl:f=7:=Option.some.inj ((show Tryz.prog.funcNamed "tumulus/tumuluslaw18.ScriptSpoilt" =some 7 by kernel_rfl).symm.trans hf) |>.symm
   obtain rfl:fn=Tryz.f7:=(Option.some.inj (Tryz.func7.symm.trans hfn)).symm
   exact⟨by kernel_rfl,fun j t ht=>by
    rw[Tryz.params7] at ht
    have hm:t∈[22,48,5,9]:=by simpa using Array.mem_of_getElem? ht
    have hall:([22,48,5,9].all fun u=> !Tryz.prog.wantsStandIn u)=true:=by kernel_rfl
    exact(show Tryz.prog.wantsStandIn t=false by simpa using List.all_eq_true.1 hall t hm)⟩)
  (by kernel_rfl)
end scriptSpoilt
end Go.Proofs.YtoakdoeajpjgkaaGreatDoor
