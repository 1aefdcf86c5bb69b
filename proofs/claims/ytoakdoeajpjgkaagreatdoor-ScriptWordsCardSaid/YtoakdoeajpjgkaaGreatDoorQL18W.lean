/- ScriptWords. Conditions: none. -/
import Derived.Test.YtoakdoeajpjgkaaGreatDoorQL18Wo
import Derived.Test.YtoakdoeajpjgkaaGreatDoorTie
import Derived.Test.YtoakdoeajpjgkaaGreatDoorCards
import Derived.SevenTiedAt
open Go.Proofs.Tryz
set_option linter.unusedSimpArgs false
set_option linter.unusedVariables false
set_option linter.unnecessarySimpa false
set_option linter.unusedSectionVars false
namespace Go.Proofs.YtoakdoeajpjgkaaGreatDoor
set_option linter.unusedSimpArgs false
set_option linter.unusedVariables false
open Go
theorem BB{n0 n1 n2 n3:Int}:∀ i,i<4→[w64 n0,w64 n1,w64 n2,w64 n3][i]? =some (w64 ([n0,n1,n2,n3].getD i 0))∧[n0,n1,n2,n3].getD i 0∈[n0,n1,n2,n3]
 | 0,_=>⟨rfl,by simp⟩
 | 1,_=>⟨rfl,by simp⟩
 | 2,_=>⟨rfl,by simp⟩
 | 3,_=>⟨rfl,by simp⟩
theorem Av{s f:List UInt8}(hs:s.length≤100)(hf:f.length≤100):∀ j,j<2→∃ x:List UInt8,[str s,str f][j]? =some (str x)∧x.length≤100
 | 0,_=>⟨s,rfl,hs⟩
 | 1,_=>⟨f,rfl,hf⟩
theorem oh(B:World)(Fr:List HP)[cV Fr B](gl:GL B)(fg:FG B)(lf:LF B)(s:List UInt8)(n0 n1 n2 n3:Int)(hnb:∀ n∈[n0,n1,n2,n3],0≤n∧n<18446744073709551616)(m:Nat)(hm:m≤255):
 ∀ w,Holds B Fr w→Calls Tryz.prog 9 [str s,.agg #[w64 n0,w64 n1,w64 n2,w64 n3],.int .u8 m].toArray w (a8 B Fr (.bool true)):=by
 refine ap func9 aa ntmps9 aa ?_
 obtain⟨k,hk⟩:∃ k,k=m / 5%18:=⟨_,rfl⟩
 have hk18:k<18:=by omega
 obtain⟨q,hq⟩:∃ q,q=m%5:=⟨_,rfl⟩
 have hfk:(fw k).length≤100:=by have:=zk k hk18;omega
 refine ac (ab (kPb (aY aa) aa fun b4=>(kPa aa aa (ad (ac (ac (ab (aw aa (ar call11 aa) (vh _ _ gl fg) .free aa aa ?_))))))))
 refine kPv (bj aa) aa (ad (bG aa (rfl) (aq (ac (ac (ab (kPm aa aa (kPv (iH aa runUnderlying9 aa) aa (kPv (al aa aa aa) aa (kPm aa aa ?_))))))))))
 apply fS (tp:=24) (t:=21) (σ1:=[(21,_),(6,_),(4,_),(0,_),(2,_)]) 3 rfl (aC rfl)
 ·intro hg1
  refine ak aa (aj aa) (.on aa aa (ae hg1)) aa aa (aw aa (ar call22 aa) (yD _ s 10) (.on aa aa (ae hg1)) aa aa ?_)
  refine kPv (aG aa hg1 aa) aa ?_
  exact aV aa (aC aa) (eV hg1)
 ·intro hg1
  refine ao aa (.on aa aa (ag hg1)) aa (ao aa (.on aa aa (ag hg1)) aa (kPv (ax aa hg1 aa) aa ?_))
  exact aV aa (aC aa) (eU hg1)
 refine ad ?_
 refine aZ aa (fun h24=> ?_) (fun h24=> ?_)
 ·
  refine ac (ab (kPa aa aa (ad (ay ?_))))
  exact au results9 aa (fun w hw=>⟨rfl,(hw.dp [0])⟩)
 ·have hsl:s.length≤100:=by simp at h24;omega
  refine aq (ac (ac ?_))
  have lf2:=lf
  obtain⟨bf,of_,capf,hlf1,hlf2⟩:=lf2
  refine cI [0,1,2,3,4,5,6,7,8,9,10,13,11,12] [11] [13] [11] [] Tryz.mixed (by kernel_rfl) ?_
  refine aP aa aa aa (aj aa) .free aa (aP aa aa aa (mh isAgg56 aa hlf1) .free aa (aP aa aa aa (aj aa) .free aa (aP aa aa aa (kv (c:=((m / 5:Nat):Int)) aa aa (by decide) (by rw[Int.tdiv_eq_ediv_of_nonneg (by omega)];exact(ya (by omega)).trans (by omega))) .free aa (aP aa aa aa (bP runUnderlying5 runUnderlying3 aa) .free aa (aP aa aa aa (mh isAgg56 aa hlf1) .free aa (aP aa aa aa (bB aa runUnderlying56 ⟨_,rfl⟩ rfl) .free aa (aP aa aa aa (gC (c:=(k:Int)) aa aa (by decide) ((kY 18 (by omega)).trans (by omega))) .free aa (aP aa aa aa (la (sz:=2) runUnderlying56 sizeOf55 aa aa (by omega) (by omega) aa) .free aa (aP aa aa aa (aE (m:=_) wB aa aa) .free aa (aP aa aa aa (mN (i:=k) (j:=0) (c:=[str (fw k),i64 (fm k)]) (v:=str (fw k)) isAgg9 (SlN.arg (cap:=capf) hlf2) aa (by simp[hk18]) aa) .free aa (an aa aa aa (aj aa) .free aa ?_)))))))))))
  refine aT aa aa (kPb (ve runUnderlying50 sizeOf9 zeroValue9 aa aa aa aa aa) aa fun b36=>(ad (cL (aP aa aa aa (bB aa runUnderlying50 ⟨_,rfl⟩ rfl) .free aa (cF (am [37,36,38,6,4,2] rfl (aF (cy (ι:=Nat) [37,36,6,4,2] (fun j=>(j≤2)) (fun j=>[(38,i64 j)]) (fun j=>row b36 [str s,str (fw k)] 9::row b4 [w64 n0,w64 n1,w64 n2,w64 n3] 53::Fr) (fun j=>2 - j) (0) (Nat.zero_le _) (fun a w st=>st.to ⟨rfl,trivial⟩ (fun hh=>hh)) ?_))))))))
  rintro j hj0
  try simp only at hj0 ⊢
  refine bZ (σ':=[(38,i64 j),(37,_),(36,_),(6,_),(4,_),(2,_)]) (aC aa) (ac (ab (kPv (al aa aa aa) aa (ad (ac ?_)))))
  refine aZ aa (fun h39=> ?_) (fun h39=> ?_)
  ·have hj:j<2:=by simp at h39;omega
   obtain⟨x,hx,hxl⟩:=Av hsl hfk j hj
   refine aq (ac (aF (ac (ab (kPv (cj runUnderlying50 sizeOf9 aa aa (by omega) (by omega)) aa (kPv (bM (v:=str x) isAgg9 (SlR.row (b:=b36) (n:=2) (cap:=2) (off:=0) (cs:=[str s,str (fw k)]) aa aa) aa (by rw[Int.toNat_natCast];exact hx)) aa (kPa aa aa (ad (ac (ac (ab ?_)))))))))))
   refine kPm aa aa (kPv (gC (c:=(q:Int)) aa aa (by decide) ((kY 5 (by omega)).trans (by omega))) aa (kPv (bP runUnderlying5 runUnderlying3 aa) aa (kPm aa aa (ad (aF (cy (ι:=Nat×List UInt8) [44,38,37,36,6,4,2] (fun (i,l)=>(i≤q)∧(l.length≤100+21*i)) (fun (i,l)=>[(45,i64 i),(8,str l)]) (fun (i,l)=>row b36 [str s,str (fw k)] 9::row b4 [w64 n0,w64 n1,w64 n2,w64 n3] 53::Fr) (fun (i,l)=>q - i) (0,x) (⟨Nat.zero_le _,hxl⟩) (fun a w st=>st.to ⟨rfl,rfl,trivial⟩ (fun hh=>hh)) ?_))))))
   rintro⟨i,l⟩ ⟨hi0,hll⟩
   try simp only at hi0 hll ⊢
   refine bZ (σ':=[(45,i64 i),(8,str l),(44,_),(38,_),(37,_),(36,_),(6,_),(4,_),(2,_)]) (aC aa) (ac (ab (kPv (al aa aa aa) aa (ad (ac ?_)))))
   refine aZ aa (fun h46=> ?_) (fun h46=> ?_)
   ·have hi:i<q:=by simp at h46;omega
    obtain⟨hn1,hni⟩:=BB (n0:=n0) (n1:=n1) (n2:=n2) (n3:=n3) i (by omega)
    have hdl:=pA ([n0,n1,n2,n3].getD i 0).toNat (by have:=hnb _ hni;omega)
    refine aq (ac (aF (ac (ab (kPm aa aa (kPa aa aa (ad (ab (kPm aa aa (kPm aa aa (kPv (lx (m:=i) runUnderlying53 sizeOf25 aa aa (by omega) (by omega) (by simp)) aa ?_)))))))))))
    refine kPv (ai (v:=w64 ([n0,n1,n2,n3].getD i 0)) isAgg25 aa hn1) aa (aw aa (ar call21 aa) (qG B _ gl (hnb _ hni)) .free aa aa ?_)
    refine ak aa (kR aa aa (by first | omega | (simp only[List.length_append,List.length_cons,List.length_nil];omega))) .free aa aa ?_
    refine ak aa (kR aa aa (by first | omega | (simp only[List.length_append,List.length_cons,List.length_nil];omega))) .free aa aa ?_
    refine kPa aa aa (ad (am [8,45,44,38,37,36,6,4,2] rfl (ab (kPv (aL aa aa) aa (kPm aa aa (ad ?_))))))
    exact fun a w st_=>⟨(i+1,l++([32]++Lib.decDigits ([n0,n1,n2,n3].getD i 0).toNat)),⟨by first | omega | (simp only;omega),by simp only[List.length_append,List.length_cons,List.length_nil];omega⟩,by first | omega | (simp only;omega),st_.to (aC aa) (fun hh=>hh)⟩
   ·have hpw:=yO ([111,112,101,110,10]++l)
    have hlw:∀ c∈(cG ([111,112,101,110,10]++l)).1,c.2.length≤1000000:=fun c hc=>by have:=(hpw.2 c hc).len;omega
    have hln:(cG ([111,112,101,110,10]++l)).1.length≤1000000:=by have:=hpw.1;omega
    refine bz (ac (ab (kPm aa aa ?_)))
    refine ak aa (kR aa aa (by first | omega | (simp only[List.length_append,List.length_cons,List.length_nil];omega))) .free aa aa ?_
    refine aJ aa (ar call14 aa) (sK _ _ gl fg ([111,112,101,110,10]++l)) .free aa aa ?_
    rintro _ _ ⟨s1,hs1,rfl,rfl⟩
    refine kPm aa aa (kPv (aA aa aa) aa (kPv (aA aa aa) aa (kPv (aA aa aa) aa (kPa aa aa (kPa aa aa (kPa aa aa (ad (am [12,11,10,8,38,37,36,6,4,2] rfl (ac (ab (kPm aa aa ?_)))))))))))
    refine ak aa (kR aa aa (by first | omega | (simp only[List.length_append,List.length_cons,List.length_nil];omega))) .free aa aa ?_
    refine aJ aa (ar call20 aa) (xp _ _ gl lf ([111,112,101,110,10]++l)) .free aa aa ?_
    rintro _ _ ⟨s2,hs2,rfl,rfl⟩
    refine kPm aa aa (kPv (aA aa aa) aa (kPv (aA aa aa) aa (kPv (aA aa aa) aa (kPa aa aa (kPa aa aa (kPa aa aa (ad (am [15,14,13,12,11,10,38,37,36,6,4,2] rfl (ac (aS [1,0] (ab ?_)))))))))))
    refine kPm aa aa (kPm aa aa (kPv (al aa aa aa) aa (kPm aa aa (ak aa (aj aa) (.on aa aa (ae (by simp))) aa aa (ak aa (aj aa) (.on aa aa (ae (by simp))) aa aa (ak aa (al aa aa aa) (.on aa aa (ae (by simp))) aa aa (kPv (aG aa (by simp) aa) aa (kPm aa aa (ak aa (aj aa) (.on aa aa (ae (by simp))) aa aa (ak aa (aj aa) (.on aa aa (ae (by simp))) aa aa (aw aa (ar call15 aa) (w7 hlw hlw hln hln) (.on aa aa (ae (by simp))) aa aa ?_)))))))))))
    refine ak aa (bj aa) (.on aa aa (ae (by simp))) aa aa (kPv (aG aa (by simp) aa) aa (ad (am [83,38,37,36,6,4,2] rfl (bG aa ((by simp)) (aq (ab (kPv (aL aa aa) aa (kPm aa aa (ad ?_)))))))))
    exact fun a w st_=>⟨j+1,by first | omega | (simp only;omega),by first | omega | (simp only;omega),st_.to (aC aa) (fun hh=>(hh.dp [0,0]))⟩
  ·
   refine bz (ac (ab (kPa aa aa (ad (ay ?_)))))
   exact au results9 aa (fun w hw=>⟨rfl,(hw.dp [0,0])⟩)
theorem my(W:World)(s:ByteArray)(ws:s.size≤maxLen)(z:Int×Int×Int×Int)(wz:∀ n∈[z.1,z.2.1,z.2.2.1,z.2.2.2],0≤n∧n<18446744073709551616)(m:Int)(wm:(Lit.int .u8 m).wf=true)(hsh:W.ShapedOpen Tryz.prog)(hL:laidMet Tryz.prog Rows.scriptWordsRow.laid W):
 Calls Tryz.prog 9 #[.string s,.agg #[w64 z.1,w64 z.2.1,w64 z.2.2.1,w64 z.2.2.2],.int .u8 m] W fun e w'=>e= .returned (.bool true)∧RowKit.Below W.heap.size W w':=by
 obtain⟨l,hl,_⟩:=xN s
 have hb:=bounds_u8 wm
 obtain⟨k,rfl⟩:=Int.eq_ofNat_of_zero_le hb.1
 rw[hl]
 exact Cp (oh W [old W] (C7 hsh hL) (Df hL.tail.tail.tail.tail.tail.tail) (C6 hL.tail.tail.tail.tail.tail.tail.tail) l z.1 z.2.1 z.2.2.1 z.2.2.2 wz k (by omega))
namespace scriptWords
open Go.ChangeShapes Go.WideShapes Go.ChangeAt Go.RowKit
set_option maxRecDepth 100000 in
theorem Co(os:Os)(started:os.Started)(H:Type)(enc:TypeId×Value→H):
 ReturnsInHanded {} Tryz.checked os 9 .any (fun w args=>(Rows.scriptWordsSpec.pre enc Tryz.prog Tryz.f9 Rows.scriptWordsRow.domain false w args∧laidMetH Tryz.prog Rows.scriptWordsRow.laid w)∧sizedMet enc Tryz.prog Tryz.f9 (OpenSpec.ofChange Rows.scriptWordsSpec) false w args) (Rows.scriptWordsSpec.post enc Tryz.prog Tryz.f9 false true false false):=by
 refine q8 (C:=Tryz.checked) (laid:=Rows.scriptWordsRow.laid) Tryz.ownKnobs started (by kernel_rfl) func9
  (ChangeSpec.witness_shaped (enc:=enc) (C:=Tryz.checked) (os:=os) (X:=fun w _=>laidMetH Tryz.prog Rows.scriptWordsRow.laid w) false (World.laidAll Tryz.prog os Rows.scriptWordsRow.laid) #[.string ByteArray.empty,.agg #[.int .u64 0,.int .u64 0,.int .u64 0,.int .u64 0],.int .u8 0] 8 (World.laidAll_os _ _ _)
   (World.shaped_of_ZipB (by kernel_rfl) (by kernel_rfl)) (by kernel_rfl) (by kernel_rfl) (by kernel_rfl)
   (by rw[MakeChecks.laidMetH_plain _ _ _ (by kernel_rfl)];exact laidMet_laidAll _ (by kernel_rfl) (by kernel_rfl))) ?_
 intro W base args ds gs before hval0 hW hcnd hL hsh
 rw[MakeChecks.laidMetH_plain _ _ _ (by kernel_rfl)] at hL
 have hval:∀ (j:Nat) t v,Tryz.f9.params[j]? =some t→args[j]? =some v→Value.okWide Tryz.prog W .any base t v:=hval0
 have hW':=hW
 obtain⟨p,q,hA0,hV,rfl,hfz,hnd⟩:=hW
 have hA:DataW.TrodAll enc Tryz.prog W 0 (fun _=>true) true Tryz.f9.params.toList args.toList ds p:=hA0
 rw[Tryz.params9] at hA hval
 obtain⟨v0,vs0,d0,ds0,p0,q0,hargs,rfl,rfl,h0,r0⟩:=trodAll_cons hA
 obtain⟨v1,vs1,d1,ds1,p1,q1,rfl,rfl,rfl,h1,r1⟩:=trodAll_cons r0
 obtain⟨v2,vs2,d2,ds2,p2,q2,rfl,rfl,rfl,h2,r2⟩:=trodAll_cons r1
 obtain⟨rfl,rfl,rfl⟩:=trodAll_nil r2
 obtain rfl:args= #[v0,v1,v2]:=by cases args;simp_all
 obtain⟨rfl,rfl⟩:=trodVars_none hV
 have k0:=h0
 have lt0:∀ x∈p0,x.block<W.heap.size:=by obtain⟨m,hm⟩:=k0;exact DataW.trod_lt m _ _ _ hm
 obtain⟨s0,rfl,w0⟩:∃ s,v0= .string s∧s.size≤maxLen:=by
  obtain⟨s,e,_,_,ws⟩:=Go.ChangeMaps.open_string underlying9 (hval 0 9 v0 rfl rfl) h0
  exact⟨s,e,ws⟩
 have k1:=h1
 have lt1:∀ x∈p1,x.block<W.heap.size:=by obtain⟨m,hm⟩:=k1;exact DataW.trod_lt m _ _ _ hm
 obtain⟨z1,rfl,w1⟩:=uf (hval 1 53 v1 rfl rfl) h1
 have k2:=h2
 have lt2:∀ x∈p2,x.block<W.heap.size:=by obtain⟨m,hm⟩:=k2;exact DataW.trod_lt m _ _ _ hm
 obtain⟨a2,rfl,w2⟩:∃ a,v2= .int .u8 a∧(Lit.int .u8 a).wf=true:=by
  obtain⟨a,e,_,_,wa⟩:=open_int underlying5 (hval 2 5 v2 rfl rfl) h2
  exact⟨a,e,wa⟩
 clear hA0 hval0
 refine(my W s0 w0 z1 w1 a2 w2 hsh hL).mono fun e W' ⟨he,bel⟩=> ?_
 subst he
 exact⟨_,rfl,_,_,_,[],_,[],hW',trodAll_mk1 (shut_bool underlying4 _),(trodAll_cons_mk (Below.trod Tryz.laidOut (by kernel_rfl) (of_decide_eq_true (by kernel_rfl)) k0 bel lt0) (trodAll_cons_mk (Below.trod Tryz.laidOut (by kernel_rfl) (of_decide_eq_true (by kernel_rfl)) k1 bel lt1) (trodAll_cons_mk (Below.trod Tryz.laidOut (by kernel_rfl) (of_decide_eq_true (by kernel_rfl)) k2 bel lt2) trodAll_mk0))),rfl,bel.frame _,fun h=>by cases h⟩
theorem Dw:Rows.scriptWordsRow.holds Tryz.pinned (OpenSpec.ofChange Rows.scriptWordsSpec):=
 OpenClaim.holds_of_wide 9 Tryz.f9 rfl rfl rfl rfl rfl rfl rfl ⟨rfl,rfl,rfl,rfl,rfl⟩ rfl rfl rfl rfl rfl named func9 Dg DB wrap
  (fun os started H enc _=>Co os started H enc)
theorem proved:Rows.ScriptWordsCardSaid:=
 Claim7.holds_tied_plain_at .later [] [.data,.data,.data,.data,.sentinel,.sentinel,.data,.data,.pinned] true (true, "f90e334a796904a9246829541802d2bcc979710ad5f61b09d7205d88cafc73d6") true Dw (fun _ h=>by cases h) (by kernel_rfl) (fun _ h=>by cases h) scriptWords_row_tie rfl ⟨rfl,rfl⟩ (by kernel_rfl) rfl
  (fun f fn hf hfn=>by
   obtain rfl:f=9:=Option.some.inj ((show Tryz.prog.funcNamed "tumulus/tumuluslaw18.ScriptWords" =some 9 by kernel_rfl).symm.trans hf) |>.symm
   obtain rfl:fn=Tryz.f9:=(Option.some.inj (Tryz.func9.symm.trans hfn)).symm
   exact⟨by kernel_rfl,fun j t ht=>by
    rw[Tryz.params9] at ht
    have hm:t∈[9,53,5]:=by simpa using Array.mem_of_getElem? ht
    have hall:([9,53,5].all fun u=> !Tryz.prog.wantsStandIn u)=true:=by kernel_rfl
    exact(show Tryz.prog.wantsStandIn t=false by simpa using List.all_eq_true.1 hall t hm)⟩)
  (by kernel_rfl)
end scriptWords
end Go.Proofs.YtoakdoeajpjgkaaGreatDoor
