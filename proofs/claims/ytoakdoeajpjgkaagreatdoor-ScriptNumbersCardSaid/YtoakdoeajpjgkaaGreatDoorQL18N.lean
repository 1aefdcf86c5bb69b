/- ScriptNumbers. Conditions: none. -/
import Derived.Test.YtoakdoeajpjgkaaGreatDoorQL18No
import Derived.Test.YtoakdoeajpjgkaaGreatDoorTie
import Derived.Test.YtoakdoeajpjgkaaGreatDoorCards
import Derived.SevenTiedAt
open Go.Proofs.Tryz
set_option linter.unusedSimpArgs false
set_option linter.unusedVariables false
set_option linter.unnecessarySimpa false
set_option linter.unusedSectionVars false
namespace Go.Proofs.YtoakdoeajpjgkaaGreatDoor
set_option linter.unusedSimpArgs false
set_option linter.unusedVariables false
open Go
theorem AC(g:Nat):∃ l:List UInt8,[str [],str [48],str [43],str [45],str [48,48]][g%5]? =some (str l)∧l.length≤2:=by
 rcases (show g%5=0∨g%5=1∨g%5=2∨g%5=3∨g%5=4 by omega) with h | h | h | h | h<;>rw[h]<;>exact⟨_,rfl,by decide⟩
theorem AS(g:Nat):∃ l:List UInt8,[str [],str [48],str [57]][g%3]? =some (str l)∧l.length≤1:=by
 rcases (show g%3=0∨g%3=1∨g%3=2 by omega) with h | h | h<;>rw[h]<;>exact⟨_,rfl,by decide⟩
theorem zn{a b c d:List UInt8}:∀ j,j<4→∃ x:List UInt8,[str a,str b,str c,str d][j]? =some (str x)
 | 0,_=>⟨a,rfl⟩
 | 1,_=>⟨b,rfl⟩
 | 2,_=>⟨c,rfl⟩
 | 3,_=>⟨d,rfl⟩
theorem mz(B:World)(Fr:List HP)[cW Fr B](gl:GL B)(fg:FG B)(lf:LF B)(n:Int)(hnb:0≤n∧n<18446744073709551616)(m g:Nat)(hm:m≤255)(hg:g≤255):
 ∀ w,Holds B Fr w→Calls Tryz.prog 8 [w64 n,.int .u8 m,.int .u8 g].toArray w (a8 B Fr (.bool true)):=by
 refine ao func8 aa ntmps8 aa ?_
 obtain⟨sg,hsg,hsl⟩:=AC g
 obtain⟨mo,hmo,hml⟩:=AS m
 have hdl:=pz n.toNat (by omega)
 refine ac (ab (kPa aa aa (ad (ac (ac (ab (aw aa (ar call11 aa) (vh _ _ gl fg) .free aa aa ?_)))))))
 refine kPv (bu aa) aa (ad (bI aa (rfl) (aq (ac ?_))))
 refine jI (.br3 [1,2,5,9,10] 0 (.br [3,4] 6 (.br1 [7] 8 (.fin [11,12,13,14])) 8 (.fin [11,12,6,7,13,14])) 6 (.br [] 0 (.br1 [3,4,7] 8 (.fin [11,12,13,14])) 8 (.br1 [11,12] 0 (.fin [3,4,7,13,14]))) 8 (.br [11,12] 0 (.fin [3,4,6,7,13,14]) 6 (.br1 [] 0 (.fin [3,4,7,13,14])))) [0,6,8] [1,2,3,4,5,7,9,10,11,12] [0,6,8] [] [6] (G:={l:List UInt8 // l.length≤23}) (fun xs=>[(7,str xs.1)]) (fun xs=>Fr) Tryz.mixed (by kernel_rfl) ?_ ?_
 ·skip
  refine C7 (aj aa aa aa (ak aa) .free aa (aj aa aa aa (gC (c:=((g%5:Nat):Int)) aa aa (by decide) ((kY 5 (by omega)).trans (by omega))) .free aa (aj aa aa aa (ak aa) .free aa (aj aa aa aa (ak aa) .free aa (aj aa aa aa (gC (c:=((m%3:Nat):Int)) aa aa (by decide) ((kY 3 (by omega)).trans (by omega))) .free aa (bX ?_))))))
  refine Ay aa aa aa ?_ ?_ ?_
  ·skip
   refine kPb (pE runUnderlying50 sizeOf9 zeroValue9 aa aa aa aa aa aa aa aa aa aa aa) aa fun b18=>(ad (iM (row b18 [str [],str [48],str [43],str [45],str [48,48]] 9) (qW (aj aa aa aa (bH runUnderlying50 sizeOf9 aa aa (by omega) (by omega)) .free aa (aj aa aa aa (bz (v:=str sg) isAgg9 (SlR.row (b:=b18) (n:=5) (cap:=5) (off:=0) (cs:=[str [],str [48],str [43],str [45],str [48,48]]) aa aa) aa (by rw[Int.toNat_natCast];exact hsg)) .free aa (bX ?_))))))
   refine lK aa aa ?_ ?_
   ·skip
    refine aw aa (ar call21 aa) (hO B _ gl hnb) .free aa aa ?_
    refine ad (pQ (vC ?_))
    refine aj aa aa aa (de aa aa (by first | omega | (simp only[List.length_append,List.length_cons,List.length_nil];omega))) .free aa ?_
    refine bX (vB aa ?_)
    ·skip
     refine kPb (mR runUnderlying50 sizeOf9 zeroValue9 aa aa aa aa aa aa aa) aa fun b26=>(ad (iM (row b26 [str [],str [48],str [57]] 9) (gg (aj aa aa aa (bH runUnderlying50 sizeOf9 aa aa (by omega) (by omega)) .free aa (aj aa aa aa (bz (v:=str mo) isAgg9 (SlR.row (b:=b26) (n:=3) (cap:=3) (off:=0) (cs:=[str [],str [48],str [57]]) aa aa) aa (by rw[Int.toNat_natCast];exact hmo)) .free aa ?_)))))
     refine aP aa aa aa (de aa aa (by first | omega | (simp only[List.length_append,List.length_cons,List.length_nil];omega))) .free aa ?_
     refine aP aa aa aa (bj aa) .free aa (bX ?_)
     exact fun a w st_=>⟨⟨(sg++Lib.decDigits n.toNat++mo),by simp only[List.length_append];omega⟩,st_.to ⟨rfl,rfl,trivial⟩ (fun hh=>(hh.dp [0,0]))⟩
   ·skip
    refine kPb (mR runUnderlying50 sizeOf9 zeroValue9 aa aa aa aa aa aa aa) aa fun b26=>(ad (iM (row b26 [str [],str [48],str [57]] 9) (gg (aj aa aa aa (bH runUnderlying50 sizeOf9 aa aa (by omega) (by omega)) .free aa (aj aa aa aa (bz (v:=str mo) isAgg9 (SlR.row (b:=b26) (n:=3) (cap:=3) (off:=0) (cs:=[str [],str [48],str [57]]) aa aa) aa (by rw[Int.toNat_natCast];exact hmo)) .free aa (aS aa aa (aw aa (ar call21 aa) (hO B _ gl hnb) .free aa aa ?_)))))))
    refine ad (cK ?_)
    refine aj aa aa aa (de aa aa (by first | omega | (simp only[List.length_append,List.length_cons,List.length_nil];omega))) .free aa ?_
    refine aP aa aa aa (de aa aa (by first | omega | (simp only[List.length_append,List.length_cons,List.length_nil];omega))) .free aa ?_
    refine aP aa aa aa (bj aa) .free aa (bX ?_)
    exact fun a w st_=>⟨⟨(sg++Lib.decDigits n.toNat++mo),by simp only[List.length_append];omega⟩,st_.to ⟨rfl,rfl,trivial⟩ (fun hh=>(hh.dp [0,0]))⟩
  ·skip
   refine aw aa (ar call21 aa) (hO B _ gl hnb) .free aa aa ?_
   refine ad (pQ (qW (bX ?_)))
   refine lK aa aa ?_ ?_
   ·skip
    refine kPb (pE runUnderlying50 sizeOf9 zeroValue9 aa aa aa aa aa aa aa aa aa aa aa) aa fun b18=>(ad (iM (row b18 [str [],str [48],str [43],str [45],str [48,48]] 9) (vC (aj aa aa aa (bH runUnderlying50 sizeOf9 aa aa (by omega) (by omega)) .free aa (aj aa aa aa (bz (v:=str sg) isAgg9 (SlR.row (b:=b18) (n:=5) (cap:=5) (off:=0) (cs:=[str [],str [48],str [43],str [45],str [48,48]]) aa aa) aa (by rw[Int.toNat_natCast];exact hsg)) .free aa ?_)))))
    refine aj aa aa aa (de aa aa (by first | omega | (simp only[List.length_append,List.length_cons,List.length_nil];omega))) .free aa ?_
    refine bX (vB aa ?_)
    ·skip
     refine kPb (mR runUnderlying50 sizeOf9 zeroValue9 aa aa aa aa aa aa aa) aa fun b26=>(ad (iM (row b26 [str [],str [48],str [57]] 9) (gg (aj aa aa aa (bH runUnderlying50 sizeOf9 aa aa (by omega) (by omega)) .free aa (aj aa aa aa (bz (v:=str mo) isAgg9 (SlR.row (b:=b26) (n:=3) (cap:=3) (off:=0) (cs:=[str [],str [48],str [57]]) aa aa) aa (by rw[Int.toNat_natCast];exact hmo)) .free aa ?_)))))
     refine aP aa aa aa (de aa aa (by first | omega | (simp only[List.length_append,List.length_cons,List.length_nil];omega))) .free aa ?_
     refine aP aa aa aa (bj aa) .free aa (bX ?_)
     exact fun a w st_=>⟨⟨(sg++Lib.decDigits n.toNat++mo),by simp only[List.length_append];omega⟩,st_.to ⟨rfl,rfl,trivial⟩ (fun hh=>(hh.dp [0,0]))⟩
   ·skip
    refine kPb (mR runUnderlying50 sizeOf9 zeroValue9 aa aa aa aa aa aa aa) aa fun b26=>(ad (iM (row b26 [str [],str [48],str [57]] 9) (vC (aj aa aa aa (bH runUnderlying50 sizeOf9 aa aa (by omega) (by omega)) .free aa (aj aa aa aa (bz (v:=str mo) isAgg9 (SlR.row (b:=b26) (n:=3) (cap:=3) (off:=0) (cs:=[str [],str [48],str [57]]) aa aa) aa (by rw[Int.toNat_natCast];exact hmo)) .free aa (bX (vB aa ?_)))))))
    ·skip
     refine kPb (pE runUnderlying50 sizeOf9 zeroValue9 aa aa aa aa aa aa aa aa aa aa aa) aa fun b18=>(ad (iM (row b18 [str [],str [48],str [43],str [45],str [48,48]] 9) (gg (aj aa aa aa (bH runUnderlying50 sizeOf9 aa aa (by omega) (by omega)) .free aa (aj aa aa aa (bz (v:=str sg) isAgg9 (SlR.row (b:=b18) (n:=5) (cap:=5) (off:=0) (cs:=[str [],str [48],str [43],str [45],str [48,48]]) aa aa) aa (by rw[Int.toNat_natCast];exact hsg)) .free aa ?_)))))
     refine aj aa aa aa (de aa aa (by first | omega | (simp only[List.length_append,List.length_cons,List.length_nil];omega))) .free aa ?_
     refine aP aa aa aa (de aa aa (by first | omega | (simp only[List.length_append,List.length_cons,List.length_nil];omega))) .free aa ?_
     refine aP aa aa aa (bj aa) .free aa (bX ?_)
     exact fun a w st_=>⟨⟨(sg++Lib.decDigits n.toNat++mo),by simp only[List.length_append];omega⟩,st_.to ⟨rfl,rfl,trivial⟩ (fun hh=>(hh.dp [0,0]))⟩
  ·skip
   refine kPb (mR runUnderlying50 sizeOf9 zeroValue9 aa aa aa aa aa aa aa) aa fun b26=>(ad (iM (row b26 [str [],str [48],str [57]] 9) (qW (aj aa aa aa (bH runUnderlying50 sizeOf9 aa aa (by omega) (by omega)) .free aa (aj aa aa aa (bz (v:=str mo) isAgg9 (SlR.row (b:=b26) (n:=3) (cap:=3) (off:=0) (cs:=[str [],str [48],str [57]]) aa aa) aa (by rw[Int.toNat_natCast];exact hmo)) .free aa (bX ?_))))))
   refine lK aa aa ?_ ?_
   ·skip
    refine kPb (pE runUnderlying50 sizeOf9 zeroValue9 aa aa aa aa aa aa aa aa aa aa aa) aa fun b18=>(ad (iM (row b18 [str [],str [48],str [43],str [45],str [48,48]] 9) (gg (aj aa aa aa (bH runUnderlying50 sizeOf9 aa aa (by omega) (by omega)) .free aa (aj aa aa aa (bz (v:=str sg) isAgg9 (SlR.row (b:=b18) (n:=5) (cap:=5) (off:=0) (cs:=[str [],str [48],str [43],str [45],str [48,48]]) aa aa) aa (by rw[Int.toNat_natCast];exact hsg)) .free aa (aS aa aa (aw aa (ar call21 aa) (hO B _ gl hnb) .free aa aa ?_)))))))
    refine ad (cK ?_)
    refine aj aa aa aa (de aa aa (by first | omega | (simp only[List.length_append,List.length_cons,List.length_nil];omega))) .free aa ?_
    refine aP aa aa aa (de aa aa (by first | omega | (simp only[List.length_append,List.length_cons,List.length_nil];omega))) .free aa ?_
    refine aP aa aa aa (bj aa) .free aa (bX ?_)
    exact fun a w st_=>⟨⟨(sg++Lib.decDigits n.toNat++mo),by simp only[List.length_append];omega⟩,st_.to ⟨rfl,rfl,trivial⟩ (fun hh=>(hh.dp [0,0]))⟩
   ·skip
    refine aw aa (ar call21 aa) (hO B _ gl hnb) .free aa aa ?_
    refine ad (pQ (vC (bX (vB aa ?_))))
    ·skip
     refine kPb (pE runUnderlying50 sizeOf9 zeroValue9 aa aa aa aa aa aa aa aa aa aa aa) aa fun b18=>(ad (iM (row b18 [str [],str [48],str [43],str [45],str [48,48]] 9) (gg (aj aa aa aa (bH runUnderlying50 sizeOf9 aa aa (by omega) (by omega)) .free aa (aj aa aa aa (bz (v:=str sg) isAgg9 (SlR.row (b:=b18) (n:=5) (cap:=5) (off:=0) (cs:=[str [],str [48],str [43],str [45],str [48,48]]) aa aa) aa (by rw[Int.toNat_natCast];exact hsg)) .free aa ?_)))))
     refine aj aa aa aa (de aa aa (by first | omega | (simp only[List.length_append,List.length_cons,List.length_nil];omega))) .free aa ?_
     refine aP aa aa aa (de aa aa (by first | omega | (simp only[List.length_append,List.length_cons,List.length_nil];omega))) .free aa ?_
     refine aP aa aa aa (bj aa) .free aa (bX ?_)
     exact fun a w st_=>⟨⟨(sg++Lib.decDigits n.toNat++mo),by simp only[List.length_append];omega⟩,st_.to ⟨rfl,rfl,trivial⟩ (fun hh=>(hh.dp [0,0]))⟩
 intro xs
 refine cf (σ':=[(7,str xs.1),(6,_)]) ⟨rfl,rfl,trivial⟩ (ac (ac ?_))
 obtain⟨xx,hxx⟩:=xs
 simp only
 refine ab (kPm aa aa ?_)
 refine al aa (de aa aa (by first | omega | (simp only[List.length_append,List.length_cons,List.length_nil];omega))) .free aa aa ?_
 refine kPm aa aa ?_
 refine al aa (de aa aa (by first | omega | (simp only[List.length_append,List.length_cons,List.length_nil];omega))) .free aa aa ?_
 refine al aa (de aa aa (by first | omega | (simp only[List.length_append,List.length_cons,List.length_nil];omega))) .free aa aa ?_
 refine kPm aa aa ?_
 refine al aa (de aa aa (by first | omega | (simp only[List.length_append,List.length_cons,List.length_nil];omega))) .free aa aa ?_
 refine kPm aa aa ?_
 refine al aa (de aa aa (by first | omega | (simp only[List.length_append,List.length_cons,List.length_nil];omega))) .free aa aa ?_
 refine kPb (CT runUnderlying50 sizeOf9 zeroValue9 aa aa aa aa aa aa aa aa aa) aa fun b41=>(kPv (bE aa runUnderlying50 ⟨_,rfl⟩ rfl) aa (kPm aa aa (ad (an [43,42,41,6] rfl (aG (cz (ι:=Nat) [42,41,6] (fun j=>(j≤4)) (fun j=>[(43,i64 j)]) (fun j=>row b41 [str ([98,101,103,105,110,32]++xx),str ([119,114,105,116,101,32,49,32]++xx++[32,51]),str ([111,102,102,32,53,32]++xx),str ([99,111,109,109,105,116,32]++xx)] 9::Fr) (fun j=>4 - j) (0) (Nat.zero_le _) (fun a w st=>st.to ⟨rfl,trivial⟩ (fun hh=>hh)) ?_))))))
 rintro j hj0
 try simp only at hj0 ⊢
 refine cf (σ':=[(43,i64 j),(42,_),(41,_),(6,_)]) (aC aa) (ac (ab (kPv (am aa aa aa) aa (ad (ac ?_)))))
 refine aZ aa (fun h44=> ?_) (fun h44=> ?_)
 ·have hj:j<4:=by simp at h44;omega
  obtain⟨zz,hzz⟩:=zn (a:=([98,101,103,105,110,32]++xx)) (b:=([119,114,105,116,101,32,49,32]++xx++[32,51])) (c:=([111,102,102,32,53,32]++xx)) (d:=([99,111,109,109,105,116,32]++xx)) j hj
  have hpw:=yN zz
  have hlw:∀ c∈(cH zz).1,c.2.length≤1000000:=fun c hc=>by have:=(hpw.2 c hc).len;omega
  have hln:(cH zz).1.length≤1000000:=by have:=hpw.1;omega
  refine aq (ac (aG (ac (ab (kPv (bH runUnderlying50 sizeOf9 aa aa (by omega) (by omega)) aa (kPv (bz (v:=str zz) isAgg9 (SlR.row (b:=b41) (n:=4) (cap:=4) (off:=0) (cs:=[str ([98,101,103,105,110,32]++xx),str ([119,114,105,116,101,32,49,32]++xx++[32,51]),str ([111,102,102,32,53,32]++xx),str ([99,111,109,109,105,116,32]++xx)]) aa aa) aa (by rw[Int.toNat_natCast];exact hzz)) aa (kPa aa aa (ad (ac (ab (kPm aa aa ?_)))))))))))
  refine aJ aa (ar call14 aa) (sN _ _ gl fg zz) .free aa aa ?_
  rintro _ _ ⟨s1,hs1,rfl,rfl⟩
  refine kPm aa aa (kPv (aA aa aa) aa (kPv (aA aa aa) aa (kPv (aA aa aa) aa (kPa aa aa (kPa aa aa (kPa aa aa (ad (an [12,11,10,9,43,42,41,6] rfl (ac (ab (kPm aa aa ?_)))))))))))
  refine aJ aa (ar call20 aa) (xq _ _ gl lf zz) .free aa aa ?_
  rintro _ _ ⟨s2,hs2,rfl,rfl⟩
  refine kPm aa aa (kPv (aA aa aa) aa (kPv (aA aa aa) aa (kPv (aA aa aa) aa (kPa aa aa (kPa aa aa (kPa aa aa (ad (an [15,14,13,12,11,10,43,42,41,6] rfl (ac (aT [1,0] (ab ?_)))))))))))
  refine kPm aa aa (kPm aa aa (kPv (am aa aa aa) aa (kPm aa aa (al aa (ak aa) (.on aa aa (ae (by simp))) aa aa (al aa (ak aa) (.on aa aa (ae (by simp))) aa aa (al aa (am aa aa aa) (.on aa aa (ae (by simp))) aa aa (kPv (aH aa (by simp) aa) aa (kPm aa aa (al aa (ak aa) (.on aa aa (ae (by simp))) aa aa (al aa (ak aa) (.on aa aa (ae (by simp))) aa aa (aw aa (ar call15 aa) (w8 hlw hlw hln hln) (.on aa aa (ae (by simp))) aa aa ?_)))))))))))
  refine al aa (bu aa) (.on aa aa (ae (by simp))) aa aa (kPv (aH aa (by simp) aa) aa (ad (an [72,43,42,41,6] rfl (bI aa ((by simp)) (aq (ab (kPv (aM aa aa) aa (kPm aa aa (ad ?_)))))))))
  exact fun a w st_=>⟨j+1,by first | omega | (simp only;omega),by first | omega | (simp only;omega),st_.to (aC aa) (fun hh=>(hh.dp [0,0]))⟩
 ·
  refine bC (ac (ab (kPa aa aa (ad (ay ?_)))))
  exact au results8 aa (fun w hw=>⟨rfl,(hw.dp [0])⟩)
theorem ll(W:World)(n:Int)(wn:(Lit.int .u64 n).wf=true)(m:Int)(wm:(Lit.int .u8 m).wf=true)(g:Int)(wg:(Lit.int .u8 g).wf=true)(hsh:W.ShapedOpen Tryz.prog)(hL:laidMet Tryz.prog Rows.scriptNumbersRow.laid W):
 Calls Tryz.prog 8 #[w64 n,.int .u8 m,.int .u8 g] W fun e w'=>e= .returned (.bool true)∧RowKit.Below W.heap.size W w':=by
 have hn:=bounds_u64 wn
 have hb:=bounds_u8 wm
 have hc:=bounds_u8 wg
 obtain⟨m,rfl⟩:=Int.eq_ofNat_of_zero_le hb.1
 obtain⟨g,rfl⟩:=Int.eq_ofNat_of_zero_le hc.1
 exact Cv (mz W [old W] (Df hsh hL) (Dn hL.tail.tail.tail.tail.tail.tail) (De hL.tail.tail.tail.tail.tail.tail.tail) n ⟨hn.1,by omega⟩ m g (by omega) (by omega))
namespace scriptNumbers
open Go.ChangeShapes Go.WideShapes Go.ChangeAt Go.RowKit
set_option maxRecDepth 100000 in
theorem Cu(os:Os)(started:os.Started)(H:Type)(enc:TypeId×Value→H):
 ReturnsInHanded {} Tryz.checked os 8 .any (fun w args=>(Rows.scriptNumbersSpec.pre enc Tryz.prog Tryz.f8 Rows.scriptNumbersRow.domain false w args∧laidMetH Tryz.prog Rows.scriptNumbersRow.laid w)∧sizedMet enc Tryz.prog Tryz.f8 (OpenSpec.ofChange Rows.scriptNumbersSpec) false w args) (Rows.scriptNumbersSpec.post enc Tryz.prog Tryz.f8 false true false false):=by
 refine q9 (C:=Tryz.checked) (laid:=Rows.scriptNumbersRow.laid) Tryz.ownKnobs started (by kernel_rfl) func8
  (ChangeSpec.witness_shaped (enc:=enc) (C:=Tryz.checked) (os:=os) (X:=fun w _=>laidMetH Tryz.prog Rows.scriptNumbersRow.laid w) false (World.laidAll Tryz.prog os Rows.scriptNumbersRow.laid) #[.int .u64 0,.int .u8 0,.int .u8 0] 8 (World.laidAll_os _ _ _)
   (World.shaped_of_ZipB (by kernel_rfl) (by kernel_rfl)) (by kernel_rfl) (by kernel_rfl) (by kernel_rfl)
   (by rw[MakeChecks.laidMetH_plain _ _ _ (by kernel_rfl)];exact laidMet_laidAll _ (by kernel_rfl) (by kernel_rfl))) ?_
 intro W base args ds gs before hval0 hW hcnd hL hsh
 rw[MakeChecks.laidMetH_plain _ _ _ (by kernel_rfl)] at hL
 have hval:∀ (j:Nat) t v,Tryz.f8.params[j]? =some t→args[j]? =some v→Value.okWide Tryz.prog W .any base t v:=hval0
 have hW':=hW
 obtain⟨p,q,hA0,hV,rfl,hfz,hnd⟩:=hW
 have hA:DataW.TrodAll enc Tryz.prog W 0 (fun _=>true) true Tryz.f8.params.toList args.toList ds p:=hA0
 rw[Tryz.params8] at hA hval
 obtain⟨v0,vs0,d0,ds0,p0,q0,hargs,rfl,rfl,h0,r0⟩:=trodAll_cons hA
 obtain⟨v1,vs1,d1,ds1,p1,q1,rfl,rfl,rfl,h1,r1⟩:=trodAll_cons r0
 obtain⟨v2,vs2,d2,ds2,p2,q2,rfl,rfl,rfl,h2,r2⟩:=trodAll_cons r1
 obtain⟨rfl,rfl,rfl⟩:=trodAll_nil r2
 obtain rfl:args= #[v0,v1,v2]:=by cases args;simp_all
 obtain⟨rfl,rfl⟩:=trodVars_none hV
 have k0:=h0
 have lt0:∀ x∈p0,x.block<W.heap.size:=by obtain⟨m,hm⟩:=k0;exact DataW.trod_lt m _ _ _ hm
 obtain⟨a0,rfl,w0⟩:∃ a,v0= .int .u64 a∧(Lit.int .u64 a).wf=true:=by
  obtain⟨a,e,_,_,wa⟩:=open_int underlying25 (hval 0 25 v0 rfl rfl) h0
  exact⟨a,e,wa⟩
 have k1:=h1
 have lt1:∀ x∈p1,x.block<W.heap.size:=by obtain⟨m,hm⟩:=k1;exact DataW.trod_lt m _ _ _ hm
 obtain⟨a1,rfl,w1⟩:∃ a,v1= .int .u8 a∧(Lit.int .u8 a).wf=true:=by
  obtain⟨a,e,_,_,wa⟩:=open_int underlying5 (hval 1 5 v1 rfl rfl) h1
  exact⟨a,e,wa⟩
 have k2:=h2
 have lt2:∀ x∈p2,x.block<W.heap.size:=by obtain⟨m,hm⟩:=k2;exact DataW.trod_lt m _ _ _ hm
 obtain⟨a2,rfl,w2⟩:∃ a,v2= .int .u8 a∧(Lit.int .u8 a).wf=true:=by
  obtain⟨a,e,_,_,wa⟩:=open_int underlying5 (hval 2 5 v2 rfl rfl) h2
  exact⟨a,e,wa⟩
 clear hA0 hval0
 refine(ll W a0 w0 a1 w1 a2 w2 hsh hL).mono fun e W' ⟨he,bel⟩=> ?_
 subst he
 exact⟨_,rfl,_,_,_,[],_,[],hW',trodAll_mk1 (shut_bool underlying4 _),(trodAll_cons_mk (Below.trod Tryz.laidOut (by kernel_rfl) (of_decide_eq_true (by kernel_rfl)) k0 bel lt0) (trodAll_cons_mk (Below.trod Tryz.laidOut (by kernel_rfl) (of_decide_eq_true (by kernel_rfl)) k1 bel lt1) (trodAll_cons_mk (Below.trod Tryz.laidOut (by kernel_rfl) (of_decide_eq_true (by kernel_rfl)) k2 bel lt2) trodAll_mk0))),rfl,bel.frame _,fun h=>by cases h⟩
theorem DE:Rows.scriptNumbersRow.holds Tryz.pinned (OpenSpec.ofChange Rows.scriptNumbersSpec):=
 OpenClaim.holds_of_wide 8 Tryz.f8 rfl rfl rfl rfl rfl rfl rfl ⟨rfl,rfl,rfl,rfl,rfl⟩ rfl rfl rfl rfl rfl named func8 Do DK wrap
  (fun os started H enc _=>Cu os started H enc)
theorem proved:Rows.ScriptNumbersCardSaid:=
 Claim7.holds_tied_plain_at .later [] [.data,.data,.data,.data,.sentinel,.sentinel,.data,.data,.pinned] true (true, "f90e334a796904a9246829541802d2bcc979710ad5f61b09d7205d88cafc73d6") true DE (fun _ h=>by cases h) (by kernel_rfl) (fun _ h=>by cases h) scriptNumbers_row_tie rfl ⟨rfl,rfl⟩ (by kernel_rfl) rfl
  (fun f fn hf hfn=>by
   obtain rfl:f=8:=Option.some.inj ((show Tryz.prog.funcNamed "tumulus/tumuluslaw18.ScriptNumbers" =some 8 by kernel_rfl).symm.trans hf) |>.symm
   obtain rfl:fn=Tryz.f8:=(Option.some.inj (Tryz.func8.symm.trans hfn)).symm
   exact⟨by kernel_rfl,fun j t ht=>by
    rw[Tryz.params8] at ht
    have hm:t∈[25,5,5]:=by simpa using Array.mem_of_getElem? ht
    have hall:([25,5,5].all fun u=> !Tryz.prog.wantsStandIn u)=true:=by kernel_rfl
    exact(show Tryz.prog.wantsStandIn t=false by simpa using List.all_eq_true.1 hall t hm)⟩)
  (by kernel_rfl)
end scriptNumbers
end Go.Proofs.YtoakdoeajpjgkaaGreatDoor
