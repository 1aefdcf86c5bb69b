/- Part of a law's texts. Conditions: none. -/
import Derived.Test.YtlcibdhmgclfjaaGreatQL17Ri
open Go.Proofs.Tryz
set_option linter.all false
namespace Go.Proofs.YtlcibdhmgclfjaaGreat
open Go
theorem gz(M:Md)(k:Option Nat×Int):∃ ss,(M.note k).2={M with seen:=ss}:=by
 unfold Md.note
 split
 ·exact⟨M.seen,rfl⟩
 ·split
  ·exact⟨M.seen,rfl⟩
  ·exact⟨_,rfl⟩
def Md.alloc2(N:Md)(w r:Int)(b c1 c2:Nat)(nv vv:Value):Md:={N with ids:=b::N.ids,g:=dE N.g b ⟨w,r,List.replicate r.toNat none,List.replicate w.toNat 0,nv,vv⟩,undo:=N.undo++[.used c1 c2 N.used],used:=N.used+(w+1),fresh:=N.fresh++[some b]}
def Md.allocE(M:Md)(w r:Int):Int:=if ¬ M.o=true then 2 else if w<0∨64<w∨r<0∨w<r then 5 else if M.c.space - M.used<w+1 then 4 else (M.note (none, -1)).1
def Md.alloc(M:Md)(w r:Int)(b c1 c2:Nat)(nv vv:Value):(Int×Int)×Md:=if M.allocE w r≠0 then ((0,M.allocE w r),M) else (((((M.note (none, -1)).2.alloc2 w r b c1 c2 nv vv).take (some b)).1,0),(((M.note (none, -1)).2.alloc2 w r b c1 c2 nv vv).take (some b)).2)
theorem ns{M:Md}{k:Option Nat×Int}(h:(M.note k).1≠0):(M.note k).2=M:=by
 unfold Md.note at h ⊢
 split
 ·rfl
 ·rename_i h1
  rw[if_neg h1] at h
  split
  ·rfl
  ·rename_i h2
   rw[if_neg h2] at h;exact absurd aa h
theorem ee{M:Md}{w r e:Int}{b c1 c2:Nat}{nv vv:Value}(h:M.allocE w r=e)(he:e≠0):M.alloc w r b c1 c2 nv vv=((0,e),M):=by
 unfold Md.alloc;rw[if_pos (by rw[h];exact he),h]
theorem AH(n:Nat):(List.replicate n (none:Option Nat)).flatMap pnE=List.replicate n (.pointer none):=by
 induction n with
 | zero=>rfl
 | succ n ih=>rw[List.replicate_succ,List.flatMap_cons,ih];rfl
theorem E0(n:Nat):(List.replicate n (0:Int)).flatMap wE=List.replicate n (w64 0):=by
 induction n with
 | zero=>rfl
 | succ n ih=>rw[List.replicate_succ,List.flatMap_cons,ih];rfl
theorem CG{B:World}{Fr:List HP}{w:World}{b bn bv n m:Nat}{wd rf:Int}(h:Holds B (row b [i64 wd,i64 rf,.slice (some ⟨bn,0,none⟩) n n,.slice (some ⟨bv,0,none⟩) m m] 143::row bn (List.replicate n (.pointer none)) 136::row bv (List.replicate m (w64 0)) 26::Fr) w):Holds B (NdA b ⟨wd,rf,List.replicate n none,List.replicate m 0,.slice (some ⟨bn,0,none⟩) n n,.slice (some ⟨bv,0,none⟩) m m⟩::Fr) w:=by
 refine ic ?_
 have h1:=fH (T:=136) (m:=1) (enc:=pnE) (bd:=bn) (q:=n) (c:=n) (k:=0) (pre:=[]) (rest:=[]) (xs:=List.replicate n none) (by simp) rfl (by simp) rfl (by rw[AH];simpa using h.front 1 rfl)
 have h2:=fH (T:=26) (m:=1) (enc:=wE) (bd:=bv) (q:=m) (c:=m) (k:=0) (pre:=[]) (rest:=[]) (xs:=List.replicate m 0) (by simp) rfl (by simp) rfl (by rw[E0];simpa using h1.front 2 rfl)
 exact h2.pk [2,1]
theorem xT{B:World}{Fr:List HP}{bm:Nat}{N:Md}{w_ r_:Int}{b c1 c2:Nat}{nv vv rv hv sv fv uv:Value}{w:World}(h:Holds B (cx bm ((N.alloc2 w_ r_ b c1 c2 nv vv).take (some b)).2 rv hv sv fv uv::VN rv N.roots::VN hv ((N.alloc2 w_ r_ b c1 c2 nv vv).take (some b)).2.hs::VK sv N.seen::VN fv (N.fresh++[some b])::VU uv (N.undo++[.used c1 c2 N.used])::cB (N.alloc2 w_ r_ b c1 c2 nv vv).ids (N.alloc2 w_ r_ b c1 c2 nv vv).g::iZ bm N.undo::row c1 [i64 N.used] 3::row c2 [ptr bm] 30::Fr) w):
 Holds B (cx bm ((N.alloc2 w_ r_ b c1 c2 nv vv).take (some b)).2 rv hv sv fv uv::VN rv ((N.alloc2 w_ r_ b c1 c2 nv vv).take (some b)).2.roots::VN hv ((N.alloc2 w_ r_ b c1 c2 nv vv).take (some b)).2.hs::VK sv ((N.alloc2 w_ r_ b c1 c2 nv vv).take (some b)).2.seen::VN fv ((N.alloc2 w_ r_ b c1 c2 nv vv).take (some b)).2.fresh::VU uv ((N.alloc2 w_ r_ b c1 c2 nv vv).take (some b)).2.undo::cB ((N.alloc2 w_ r_ b c1 c2 nv vv).take (some b)).2.ids ((N.alloc2 w_ r_ b c1 c2 nv vv).take (some b)).2.g::iZ bm ((N.alloc2 w_ r_ b c1 c2 nv vv).take (some b)).2.undo::Fr) w:=by
 have h1:=qd (u:= .used c1 c2 N.used) (h.pk [7,7,7])
 exact qf (h1.pk [1,2,5,1,1,1,1,0])
theorem Ey{B:World}{n:Nat}{D:List Deferred}{σ:Env}{Fr:List HP}{K:Act→World→Prop}{b:Nat}{x:Nd}{ids:List Nat}{g:Nat→Nd}(h:b∉ids→GO B n D σ (cB (b::ids) (dE g b x)::Fr) K):GO B n D σ (NdA b x::cB ids g::Fr) K:=fun a w st=>by
 have h1:Holds B (kj b x::VN x.nv x.names::VW x.vv x.nums::cB ids g::Fr) w:=st.holds.grp
 have h2:=h1.pk [0,2]
 have hn:b∉ids:=Cy h2
 exact h hn a w ⟨st.toStA,CF hn st.holds⟩
theorem zC(B:World)(Fr:List HP)(bm:Nat)(M:Md)(hW:MdW M 999999)(w_ r_:Int):
 ∀ w,Holds B (dI bm M::Fr) w→Calls Tryz.prog 88 [ptr bm,.agg #[i64 w_,i64 r_]].toArray w (Ret B (fun r H'=>∃ b c1 c2 nv vv,(M.allocE w_ r_=0→b∉M.ids)∧r= .tuple #[i64 (M.alloc w_ r_ b c1 c2 nv vv).1.1,i64 (M.alloc w_ r_ b c1 c2 nv vv).1.2]∧H'=dI bm (M.alloc w_ r_ b c1 c2 nv vv).2::Fr) (fun _ _=>False)):=by
 refine au func88 aa ntmps88 aa ?_
 have hhl:M.hs.length≤1000000:=by have:=hW.hl;omega
 have hs1:=hW.c.s1
 have hs2:=hW.c.s2
 have hus:=hW.us
 have hfl:M.fresh.length≤1000000:=by have:=hW.fl;omega
 have hsl:M.seen.length≤1000000:=by have:=hW.sl;have:=hW.c.l2;omega
 refine fC fun rv hv sv fv uv=>(ac (ab (aC aa (dA aa aa) .free aa aa ?_)))
 rintro _ _ ⟨b2,rfl,rfl⟩
 refine aC aa (bx aa) .free aa aa ?_
 rintro _ _ ⟨b3,rfl,rfl⟩
 refine kPa aa aa (kPa aa aa (ad (ac (aO (ac (ab (kPv (ae isAgg30 aa aa) aa (kPv (ak aa) aa (kPv (aj (m:=_) ew aa aa) aa (kPv (ae isAgg4 aa aa) aa (kPv (bF aa) aa ?_)))))))))))
 refine kPa aa aa (ad (ao [9,5,4,3,2] rfl ?_))
 refine aW aa (fun h9=> ?_) (fun h9=> ?_)
 ·have h9':¬ (M.o=true):=by simpa using h9
  have hE:M.allocE w_ r_=2:=by unfold Md.allocE;rw[if_pos h9']
  refine ac (ab (kPa aa aa (kPa aa aa (ad (az ?_)))))
  exact bg results88 aa aa (fun w hw=>⟨_,⟨0,0,0,.nilFunc,.nilFunc,fun h=>absurd h (by rw[hE];exact(by decide)),by rw[ee hE (by decide)],by rw[ee hE (by decide)]⟩,bj (M:=M) (hw.dp [0,0])⟩)
 ·have h9':M.o=true:=by simpa using h9
  refine ac (ab (kPv (aj (m:=_) fp aa aa) aa (kPv (ae isAgg3 aa aa) aa (kPv (an aa aa aa) aa (kPm aa aa ?_)))))
  apply gl (tp:=23) (t:=19) (σ1:=[(19,_),(5,_),(4,_),(3,_),(2,_)]) 4 rfl (aF rfl)
  ·intro hg1
   refine aq aa (aj (m:=_) fp aa aa) (.on aa aa (ah hg1)) aa aa (aq aa (ae isAgg3 aa aa) (.on aa aa (ah hg1)) aa aa (aq aa (an aa aa aa) (.on aa aa (ah hg1)) aa aa (kPv (aL aa hg1 aa) aa ?_)))
   exact ba aa (aF aa) (eZ hg1)
  ·intro hg1
   refine ar aa (.on aa aa (ai hg1)) aa (ar aa (.on aa aa (ai hg1)) aa (ar aa (.on aa aa (ai hg1)) aa (kPv (aH aa hg1 aa) aa ?_)))
   exact ba aa (aF aa) (eY hg1)
  refine kPm aa aa ?_
  apply gl (tp:=28) (t:=24) (σ1:=[(24,_),(5,_),(4,_),(3,_),(2,_)]) 4 rfl (aF rfl)
  ·intro hg2
   refine aq aa (aj (m:=_) fP aa aa) (.on aa aa (ah hg2)) aa aa (aq aa (ae isAgg3 aa aa) (.on aa aa (ah hg2)) aa aa (aq aa (an aa aa aa) (.on aa aa (ah hg2)) aa aa (kPv (aL aa hg2 aa) aa ?_)))
   exact ba aa (aF aa) (eZ hg2)
  ·intro hg2
   refine ar aa (.on aa aa (ai hg2)) aa (ar aa (.on aa aa (ai hg2)) aa (ar aa (.on aa aa (ai hg2)) aa (kPv (aH aa hg2 aa) aa ?_)))
   exact ba aa (aF aa) (eY hg2)
  refine kPm aa aa ?_
  apply gl (tp:=35) (t:=29) (σ1:=[(29,_),(5,_),(4,_),(3,_),(2,_)]) 6 rfl (aF rfl)
  ·intro hg3
   refine aq aa (aj (m:=_) fP aa aa) (.on aa aa (ah hg3)) aa aa (aq aa (ae isAgg3 aa aa) (.on aa aa (ah hg3)) aa aa (aq aa (aj (m:=_) fp aa aa) (.on aa aa (ah hg3)) aa aa (aq aa (ae isAgg3 aa aa) (.on aa aa (ah hg3)) aa aa (aq aa (an aa aa aa) (.on aa aa (ah hg3)) aa aa (kPv (aL aa hg3 aa) aa ?_)))))
   exact ba aa (aF aa) (eZ hg3)
  ·intro hg3
   refine ar aa (.on aa aa (ai hg3)) aa (ar aa (.on aa aa (ai hg3)) aa (ar aa (.on aa aa (ai hg3)) aa (ar aa (.on aa aa (ai hg3)) aa (ar aa (.on aa aa (ai hg3)) aa (kPv (aH aa hg3 aa) aa ?_)))))
   exact ba aa (aF aa) (eY hg3)
  refine kPa aa aa (ad ?_)
  refine aW aa (fun h15=> ?_) (fun h15=> ?_)
  ·have h15':w_<0∨64<w_∨r_<0∨w_<r_:=by simp at h15;omega
   have hE:M.allocE w_ r_=5:=by unfold Md.allocE;rw[if_neg (by simpa using h9'),if_pos h15']
   refine ac (ab (kPa aa aa (kPa aa aa (ad (az ?_)))))
   exact bg results88 aa aa (fun w hw=>⟨_,⟨0,0,0,.nilFunc,.nilFunc,fun h=>absurd h (by rw[hE];exact(by decide)),by rw[ee hE (by decide)],by rw[ee hE (by decide)]⟩,bj (M:=M) (hw.dp [0,0])⟩)
  ·have h15':¬ (w_<0∨64<w_∨r_<0∨w_<r_):=by simp at h15;omega
   refine ac (cK Tryz.mixed (by kernel_rfl) (by kernel_rfl) ?_)
   refine kQv (aj (m:=_) fp aa aa) aa (kQv (ae isAgg3 aa aa) aa (kQv (aS aa aa) aa (kQv (ae isAgg30 aa aa) aa (kQv (ak aa) aa (kQv (aj (m:=_) ge aa aa) aa (kQv (aj (m:=_) dX aa aa) aa (kQv (ae isAgg3 aa aa) aa (kQv (ae isAgg30 aa aa) aa (kQv (ak aa) aa (kQv (aj (m:=_) fO aa aa) aa (kQv (ae isAgg3 aa aa) aa ?_)))))))))))
   refine kQv (cU aa aa) aa (kQv (an aa aa aa) aa (kQa aa aa (bR (ao [36,5,4,3,2] rfl ?_))))
   refine aW aa (fun h36=> ?_) (fun h36=> ?_)
   ·have h36':M.c.space - M.used<w_+1:=by simpa using h36
    have hE:M.allocE w_ r_=4:=by unfold Md.allocE;rw[if_neg (by simpa using h9'),if_neg h15',if_pos h36']
    refine ac (ab (kPa aa aa (kPa aa aa (ad (az ?_)))))
    exact bg results88 aa aa (fun w hw=>⟨_,⟨0,0,0,.nilFunc,.nilFunc,fun h=>absurd h (by rw[hE];exact(by decide)),by rw[ee hE (by decide)],by rw[ee hE (by decide)]⟩,bj (M:=M) (hw.dp [0,0])⟩)
   ·have h36':¬ M.c.space - M.used<w_+1:=by simpa using h36
    have hE:M.allocE w_ r_=(M.note (none, -1)).1:=by unfold Md.allocE;rw[if_neg (by simpa using h9'),if_neg h15',if_neg h36']
    refine ay (ac (ac (ab (kPv (ae isAgg30 aa aa) aa ?_))))
    refine aq aa (aZ aa (jS _ _ (by first | rfl | assumption) rfl)) .free rfl rfl ?_;refine aJ [2,4,4,5] ?_;refine aQ aa (aA call148 aa) (ny B _ bm M _ _ _ _ _ hW.c hfl hW.fi hsl hW.si (none, -1) (fun b h=>by cases h)) .free rfl rfl ?_
    rintro _ _ ⟨sv2,rfl,rfl⟩
    obtain⟨ss,hss⟩:=gz M (none, -1)
    rw[hss]
    refine kPa aa aa (ad (ac (ab (kPm aa aa (kPv (an aa aa aa) aa (ad ?_))))))
    refine aW aa (fun h55=> ?_) (fun h55=> ?_)
    ·have h55':(M.note (none, -1)).1≠0:=by simpa using h55
     have hM:{M with seen:=ss}=M:=hss.symm.trans (ns h55')
     rw[hM]
     refine ac (ab (kPm aa aa (kPa aa aa (kPa aa aa (ad (ao [5,4,3,2] rfl (az ?_)))))))
     exact bg results88 aa aa (fun w hw=>⟨_,⟨0,0,0,.nilFunc,.nilFunc,fun h=>absurd h (by rw[hE];exact h55'),by rw[ee hE h55'],by rw[ee hE h55']⟩,bj (M:=M) ((hw.dp [4,4]).pk [0,3,3,0,0,1])⟩)
    ·have h55':¬ ((M.note (none, -1)).1≠0):=by simpa using h55
     have hz:M.allocE w_ r_=0:=by rw[hE];omega
     refine ay (ac ?_)
     refine lb (.br [0,1,2,4,5] 3 (.fin [6,7,8,9]) 6 (.fin [3,7,8,9])) [3,6,8] [0,1,2,4,5] [3,6] [row b3 [i64 w_,i64 r_] 38] [5,4,2] (G:=Nat×Nat×Nat) (fun (b65,b60,b63)=>[(7,ptr b65)]) (fun (b65,b60,b63)=>row b65 [i64 w_,i64 r_,.slice (some ⟨b60,0,none⟩) r_.toNat r_.toNat,.slice (some ⟨b63,0,none⟩) w_.toNat w_.toNat] 143::row b60 (List.replicate r_.toNat (.pointer none)) 136::row b63 (List.replicate w_.toNat (w64 0)) 26::row b2 [ptr bm] 30::row b3 [i64 w_,i64 r_] 38::cx bm {M with seen:=ss} rv hv sv2 fv uv::VN rv M.roots::VN hv M.hs::VK sv2 ss::VN fv M.fresh::VU uv M.undo::cB M.ids M.g::iZ bm M.undo::Fr) Tryz.mixed (by kernel_rfl) ?_ ?_
     ·skip
      refine wF (al aa aa aa (am isAgg38 sizeOf38 aa aa) .free aa ?_)
      refine al aa aa aa (aj (m:=_) fP aa aa) .free aa (al aa aa aa (ae isAgg3 aa aa) .free aa (al aa aa aa (aj (m:=_) fp aa aa) .free aa (al aa aa aa (ae isAgg3 aa aa) .free aa (cJ ?_))))
      refine qg aa aa ?_ ?_
      ·skip
       refine aC aa (jO (n:=r_.toNat) runUnderlying41 oc sizeOf136 zeroValue136 aa (by rw[show((r_.toNat:Nat):Int)=_ from Int.toNat_of_nonneg (by omega)];rfl) (by rw[show((r_.toNat:Nat):Int)=_ from Int.toNat_of_nonneg (by omega)];rfl) (by omega)) .free aa aa ?_
       rintro _ _ ⟨b60,rfl,rfl⟩
       refine ad (tP (jE (aU aa aa (aC aa (jO (n:=w_.toNat) runUnderlying25 iy sizeOf26 zeroValue26 aa (by rw[show((w_.toNat:Nat):Int)=_ from Int.toNat_of_nonneg (by omega)];rfl) (by rw[show((w_.toNat:Nat):Int)=_ from Int.toNat_of_nonneg (by omega)];rfl) (by omega)) .free aa aa ?_))))
       rintro _ _ ⟨b63,rfl,rfl⟩
       refine ad (cN ?_)
       refine aT aa aa aa (aZ aa (mB _ _ _ _ (by first | rfl | assumption) (by first | rfl | assumption))) .free rfl ?_;refine aU aa aa ?_;refine aC aa (bx aa) .free aa aa ?_
       rintro _ _ ⟨b65,rfl,rfl⟩
       refine ad (c9 aa (aT aa aa aa (bK aa) .free aa (cJ ?_)))
       exact fun a w st_=>⟨(b65,b60,b63),st_.to (aF aa) (fun hh=>(hh.pk [0,1,0,5,4,0,3,3,0,0,1]))⟩
      ·skip
       refine aC aa (jO (n:=w_.toNat) runUnderlying25 iy sizeOf26 zeroValue26 aa (by rw[show((w_.toNat:Nat):Int)=_ from Int.toNat_of_nonneg (by omega)];rfl) (by rw[show((w_.toNat:Nat):Int)=_ from Int.toNat_of_nonneg (by omega)];rfl) (by omega)) .free aa aa ?_
       rintro _ _ ⟨b63,rfl,rfl⟩
       refine ad (tP (jE (aU aa aa (aC aa (jO (n:=r_.toNat) runUnderlying41 oc sizeOf136 zeroValue136 aa (by rw[show((r_.toNat:Nat):Int)=_ from Int.toNat_of_nonneg (by omega)];rfl) (by rw[show((r_.toNat:Nat):Int)=_ from Int.toNat_of_nonneg (by omega)];rfl) (by omega)) .free aa aa ?_))))
       rintro _ _ ⟨b60,rfl,rfl⟩
       refine ad (cN ?_)
       refine aT aa aa aa (aZ aa (mB _ _ _ _ (by first | rfl | assumption) (by first | rfl | assumption))) .free rfl ?_;refine aU aa aa ?_;refine aC aa (bx aa) .free aa aa ?_
       rintro _ _ ⟨b65,rfl,rfl⟩
       refine ad (c9 aa (aT aa aa aa (bK aa) .free aa (cJ ?_)))
       exact fun a w st_=>⟨(b65,b60,b63),st_.to (aF aa) (fun hh=>(hh.pk [0,0,0,5,4,0,3,3,0,0,1]))⟩
     rintro⟨b65,b60,b63⟩
     refine cg (σ':=[(7,ptr b65),(5,_),(4,_),(2,_)]) (aF aa) (ac (aK (fun w hh=>CG hh) (ab (kPv (ae isAgg30 aa aa) aa (kPv (ak aa) aa (kPv (aj (m:=_) fO aa aa) aa (kPv (ae isAgg3 aa aa) aa (aC aa (cA zeroValue3 aa) .free aa aa ?_))))))))
     rintro _ _ ⟨b8,rfl,rfl⟩
     refine aD aa (aR sizeOf3 aa aa aa aa) .free aa ?_
     rintro _ _ rfl
     refine ad (ac (cM [0,1,2,3,4,5,6,7,8,9,10] [6,7,10] [0,1,2,3,4] [6,7] [row b2 [ptr bm] 30,cx bm {M with seen:=ss} rv hv sv2 fv uv] Tryz.mixed (by kernel_rfl) ?_))
     refine al aa aa aa (ae isAgg30 aa aa) .free aa (al aa aa aa (ae isAgg30 aa aa) .free aa (al aa aa aa (ak aa) .free aa (al aa aa aa (aj (m:=_) gb aa aa) .free aa (al aa aa aa (ae isAgg43 aa aa) .free aa (aT aa aa aa (dm aa aa) .free aa (aU aa aa (aC aa (iP m7 (v:=(.used b8 b2 M.used)) runUnderlying43 sizeOf1 zeroValue1 ⟨⟨by decide,by decide⟩,rfl⟩ rfl aa) .free aa aa ?_)))))))
     rintro _ _ ⟨b76,rfl,rfl⟩
     refine ad (cN (aU aa aa (aJ [10,0] (aC aa (dj m7 (ys:=[(.used b8 b2 M.used)]) aa aa runUnderlying43 runUnderlying43 ⟨_,rfl⟩ sizeOf1 zeroValue1 aa Cp aa aa (SlM.row (b:=b76) aa aa) (Nat.succ_pos _) (by have:=hW.ul;simp;omega)) .free aa aa ?_))))
     rintro uv2 _ ⟨huv2,rfl⟩
     refine ad (cN (aT aa aa aa (ak aa) .free aa (aT aa aa aa (aj (m:=_) gb aa aa) .free aa (aU aa aa ?_))))
     refine aD aa (aR sizeOf43 aa aa (by first | rfl | assumption) rfl) .free rfl ?_
     rintro _ _ rfl
     refine ad (c9 aa (cJ (ao [7,5,4,2] rfl (ac (aJ [6] (aK (H':=cx bm {M with seen:=ss} rv hv sv2 fv uv2::_) (fun w hh=>hh) (cD 9 Tryz.mixed (by kernel_rfl) (by kernel_rfl) ?_)))))))
     refine kQv (ae isAgg30 aa aa) aa (kQv (ak aa) aa (kQv (aj (m:=_) fO aa aa) aa (kQv (ae isAgg3 aa aa) aa (kQm aa aa (bH aa (aA call101 aa) (cY [4] [1,1,1,1] (sX B _ b65 _ (show 0≤w_∧w_≤64 by omega))) .free aa ?_)))))
     refine kQv (oP aa aa (gh (show -9223372036854775808≤M.used+(w_+1)∧M.used+(w_+1)≤9223372036854775807 by omega))) aa (kQv (ak aa) aa (kQv (aj (m:=_) fO aa aa) aa (bR (aD aa (aR sizeOf3 aa aa aa aa) .free aa ?_))))
     rintro _ _ rfl
     refine ad (ao [7,5,4,2] rfl (ac (aK (H':=cx bm {M with seen:=ss,used:=M.used+(w_+1)} rv hv sv2 fv uv2::_) (fun w hh=>hh) (cM [0,1,2,3,4,5,6,7,8,9,10] [6,7,10] [0,1,2,3,4] [6,7] [row b2 [ptr bm] 30,cx bm {M with seen:=ss,used:=M.used+(w_+1)} rv hv sv2 fv uv2] Tryz.mixed (by kernel_rfl) ?_))))
     refine al aa aa aa (ae isAgg30 aa aa) .free aa (al aa aa aa (ae isAgg30 aa aa) .free aa (al aa aa aa (ak aa) .free aa (al aa aa aa (aj (m:=_) mj aa aa) .free aa (al aa aa aa (ae isAgg41 aa aa) .free aa (aT aa aa aa (ap aa) .free aa (aU aa aa (aC aa (iP gy (v:=(some b65)) runUnderlying41 sizeOf136 zeroValue136 ⟨⟨by decide,by decide⟩,rfl⟩ rfl aa) .free aa aa ?_)))))))
     rintro _ _ ⟨b95,rfl,rfl⟩
     refine ad (cN (aU aa aa (aJ [11,0] (aC aa (dj gy (ys:=[(some b65)]) aa aa runUnderlying41 runUnderlying41 ⟨_,rfl⟩ sizeOf136 zeroValue136 aa oc aa aa (SlM.row (b:=b95) aa aa) (Nat.succ_pos _) (by simp;omega)) .free aa aa ?_))))
     rintro fv2 _ ⟨hfv2,rfl⟩
     refine ad (cN (aT aa aa aa (ak aa) .free aa (aT aa aa aa (aj (m:=_) mj aa aa) .free aa (aU aa aa ?_))))
     refine aD aa (aR sizeOf41 aa aa (by first | rfl | assumption) rfl) .free rfl ?_
     rintro _ _ rfl
     refine ad (c9 aa (cJ (ao [7,5,4,2] rfl (ac (aJ [6,11] (Ey fun hnew=>(ab (kPv (ae isAgg30 aa aa) aa (kPm aa aa (aJ [3,9,0] (aQ aa (aA call150 aa) (qU B _ bm (({M with seen:=ss}:Md).alloc2 w_ r_ b65 b8 b2 (.slice (some ⟨b60,0,none⟩) r_.toNat r_.toNat) (.slice (some ⟨b63,0,none⟩) w_.toNat w_.toNat)) _ _ _ _ _ hhl (hW.hi.mono fun _ h=>List.mem_cons_of_mem _ h) (some b65) (fun c e=>by cases e;exact List.mem_cons_self ..)) .free aa aa ?_)))))))))))
     rintro _ _ ⟨hv2,rfl,rfl⟩
     refine kPa aa aa (kPa aa aa (ad (az ?_)))
     exact bg results88 aa aa (fun w hw=>⟨_,⟨b65,b8,b2,_,_,fun _=>hnew,by unfold Md.alloc;rw[if_neg (by rw[hz];decide),hss],by unfold Md.alloc;rw[if_neg (by rw[hz];decide),hss]⟩,(by have h9:=((hw.dp [4,5,7]).pk [0,6,0,5,1,1,0,2]);exact bj (M:=((({M with seen:=ss}:Md).alloc2 w_ r_ b65 b8 b2 (.slice (some ⟨b60,0,none⟩) r_.toNat r_.toNat) (.slice (some ⟨b63,0,none⟩) w_.toNat w_.toNat)).take (some b65)).2) (xT h9))⟩)
def Md.setNum(N:Md)(b:Nat)(i v:Int)(c1 c2 c3:Nat):Md:={N with undo:=N.undo++[.num c1 c2 c3 b i ((N.g b).nums.getD i.toNat 0)],g:=dE N.g b {N.g b with nums:=(N.g b).nums.set i.toNat v}}
def Md.setName(N:Md)(b:Nat)(i:Int)(x:Option Nat)(c1 c2 c3:Nat):Md:={N with undo:=N.undo++[.name c1 c2 c3 b i ((N.g b).names.getD i.toNat none)],g:=dE N.g b {N.g b with names:=(N.g b).names.set i.toNat x}}
def Md.setRoot(N:Md)(i:Int)(x:Option Nat)(c1 c2 c3:Nat):Md:={N with undo:=N.undo++[.root c1 c2 c3 i (N.roots.getD i.toNat none)],roots:=N.roots.set i.toNat x}
def Md.write(M:Md)(h i v:Int)(c1 c2 c3:Nat):Int×Md:=if ¬ M.o=true then (2,M) else if (M.node h).2≠0 then ((M.node h).2,M) else if (M.nd h).field i false≠0 then ((M.nd h).field i false,M) else if (M.note ((M.node h).1,i)).1≠0 then ((M.note ((M.node h).1,i)).1,M) else (0,(M.note ((M.node h).1,i)).2.setNum ((M.node h).1.getD 0) i v c1 c2 c3)
def Md.point(M:Md)(h i t:Int)(c1 c2 c3:Nat):Int×Md:=if ¬ M.o=true then (2,M) else if (M.node h).2≠0 then ((M.node h).2,M) else if (M.other t).2≠0 then ((M.other t).2,M) else if (M.nd h).field i true≠0 then ((M.nd h).field i true,M) else if (M.note ((M.node h).1,i)).1≠0 then ((M.note ((M.node h).1,i)).1,M) else (0,(M.note ((M.node h).1,i)).2.setName ((M.node h).1.getD 0) i (M.other t).1 c1 c2 c3)
def Md.set(M:Md)(i t:Int)(c1 c2 c3:Nat):Int×Md:=if ¬ M.o=true then (2,M) else if i<0∨M.c.roots≤i then (1,M) else if (M.other t).2≠0 then ((M.other t).2,M) else if (M.note (none,i)).1≠0 then ((M.note (none,i)).1,M) else (0,(M.note (none,i)).2.setRoot i (M.other t).1 c1 c2 c3)
theorem vj{α:Type}(L R F:List α)(A:α):(L++A::(R++F)).Perm (A::(R++(L++F))):=
 List.perm_middle.trans (.cons A (by rw[←List.append_assoc, ←List.append_assoc];exact(List.perm_append_comm).append_right F))
theorem yq{B:World}{Fr:List HP}{w:World}{bm b:Nat}{N:Md}{x:Nd}{u:Un}{rv hv sv fv uv:Value}(hn:N.ids.Nodup)(hb:b∈N.ids)(h:Holds B (cx bm N rv hv sv fv uv::VN rv N.roots::VN hv N.hs::VK sv N.seen::VN fv N.fresh::VU uv (N.undo++[u])::kj b x::VN x.nv x.names::VW x.vv x.nums::cB (N.ids.erase b) N.g::iZ bm N.undo::(u.rows bm++Fr)) w):Holds B (dI bm {N with undo:=N.undo++[u],g:=dE N.g b x}::Fr) w:=by
 have h1:=qd (u:=u) (Fr:=cx bm N rv hv sv fv uv::VN rv N.roots::VN hv N.hs::VK sv N.seen::VN fv N.fresh::VU uv (N.undo++[u])::kj b x::VN x.nv x.names::VW x.vv x.nums::cB (N.ids.erase b) N.g::Fr) (Holds.perm (l:=[cx bm N rv hv sv fv uv,VN rv N.roots,VN hv N.hs,VK sv N.seen,VN fv N.fresh,VU uv (N.undo++[u]),kj b x,VN x.nv x.names,VW x.vv x.nums,cB (N.ids.erase b) N.g]++iZ bm N.undo::(u.rows bm++Fr)) h (vj _ _ _ _))
 have h2:=qT hn hb (h1.pk [7,7,7,7])
 exact bj (h2.pk [2,2,2,2,2,2,0,0])
theorem A5{B:World}{Fr:List HP}{w:World}{bm:Nat}{N:Md}{l:List (Option Nat)}{u:Un}{rv hv sv fv uv:Value}(h:Holds B (cx bm N rv hv sv fv uv::VN rv l::VN hv N.hs::VK sv N.seen::VN fv N.fresh::VU uv (N.undo++[u])::cB N.ids N.g::iZ bm N.undo::(u.rows bm++Fr)) w):Holds B (dI bm {N with undo:=N.undo++[u],roots:=l}::Fr) w:=by
 have h1:=qd (u:=u) (Fr:=cx bm N rv hv sv fv uv::VN rv l::VN hv N.hs::VK sv N.seen::VN fv N.fresh::VU uv (N.undo++[u])::cB N.ids N.g::Fr) (Holds.perm (l:=[cx bm N rv hv sv fv uv,VN rv l,VN hv N.hs,VK sv N.seen,VN fv N.fresh,VU uv (N.undo++[u]),cB N.ids N.g]++iZ bm N.undo::(u.rows bm++Fr)) h (vj _ _ _ _))
 exact bj (h1.pk [1,1,1,1,1,1,1,0])
theorem MdW.dims{M:Md}{K:Nat}(h:MdW M K):M.hs.length≤1000000∧M.fresh.length≤1000000∧M.seen.length≤1000000:=⟨Nat.le_trans h.hl h.kl,Nat.le_trans h.fl h.kl,by have:=h.sl;have:=h.c.l2;omega⟩
theorem zt(B:World)(Fr:List HP)(bm:Nat)(M:Md)(hW:MdW M 999999)(h i v:Int):
 ∀ w,Holds B (dI bm M::Fr) w→Calls Tryz.prog 91 [ptr bm,i64 h,i64 i,w64 v].toArray w (Ret B (fun r H'=>∃ c1 c2 c3,r=i64 (M.write h i v c1 c2 c3).1∧H'=dI bm (M.write h i v c1 c2 c3).2::Fr) (fun _ _=>False)):=by
 refine au func91 aa ntmps91 aa ?_
 have hdm:=hW.dims
 refine fC fun rv hv sv fv uv=>(ac (ab (aC aa (dA aa aa) .free aa aa ?_)))
 rintro _ _ ⟨b6,rfl,rfl⟩
 refine kPa aa aa (ad (ac (ac (ab (kPm aa aa (kPv (ak aa) aa (kPv (aj (m:=_) ew aa aa) aa (kPv (ae isAgg4 aa aa) aa (kPv (bF aa) aa (ad ?_))))))))))
 refine aW aa (fun h18=> ?_) (fun h18=> ?_)
 ·have q18:¬ M.o=true:=by simpa using h18
  have hE:∀ c1 c2 c3,M.write h i v c1 c2 c3=(2,M):=fun c1 c2 c3=>by unfold Md.write;rw[if_pos q18]
  refine ac (ab (kPa aa aa (ad (az ?_))))
  exact ax results91 aa (fun w hw=>⟨_,⟨0,0,0,by rw[hE]<;>rfl,by rw[hE]⟩,bj (M:=M) (hw.dp [0])⟩)
 ·have q18:¬ (¬ M.o=true):=by simpa using h18
  refine ay (ac (ab (kPm aa aa (kPm aa aa (aE aa (aA call151 aa) (cY [1,2] [2,0,1] (jg B _ bm M _ _ _ _ _ h hdm.1)) .free aa aa ?_)))))
  refine kPm aa aa (kPv (aB aa aa) aa (kPv (aB aa aa) aa (aC aa (cA zeroValue136 aa) .free aa aa ?_)))
  rintro _ _ ⟨b9,rfl,rfl⟩
  refine aD aa (aR sizeOf136 aa aa (lv _) aa) .free aa ?_
  rintro _ _ rfl
  refine kPa aa aa (ad (ao [10,9,8,6,0,3] rfl (ac (ac (ab (kPm aa aa (kPv (an aa aa aa) aa (ad ?_))))))))
  refine aW aa (fun h26=> ?_) (fun h26=> ?_)
  ·have q26:(M.node h).2≠0:=by simpa using h26
   have hE:∀ c1 c2 c3,M.write h i v c1 c2 c3=((M.node h).2,M):=fun c1 c2 c3=>by unfold Md.write;rw[if_neg q18,if_pos q26]
   refine ac (ab (kPm aa aa (kPa aa aa (ad (az ?_)))))
   exact ax results91 aa (fun w hw=>⟨_,⟨0,0,0,by rw[hE]<;>rfl,by rw[hE]⟩,bj (M:=M) (hw.dp [0,0])⟩)
  ·have q26:¬ ((M.node h).2≠0):=by simpa using h26
   obtain⟨b,hbi,hbo,hb1,hb2,hb3⟩:=hW.node q26
   have hnw:=hW.gw b hbi
   have hnd:M.nd h=M.g b:=by unfold Md.nd;rw[hbo];rfl
   rw[hbo]
   refine ay (ac (ac (ab (kPv (ae isAgg136 aa aa) aa (kPv (ae isAgg3 aa aa) aa (aJ [8] (aK (fun w hh=>jf hbi hh) (aE aa (aA call152 aa) (kP B _ b (M.g b) i _) .free aa aa ?_))))))))
   refine aK (fun w hh=>ki hbi hh) (kPa aa aa (ad (ac (ab (kPm aa aa (kPv (an aa aa aa) aa (ad (ao [32,11,9,8,6,0,3] rfl ?_))))))))
   refine aW aa (fun h32=> ?_) (fun h32=> ?_)
   ·have q32:(M.g b).field i false≠0:=by simpa using h32
    have hE:∀ c1 c2 c3,M.write h i v c1 c2 c3=((M.g b).field i false,M):=fun c1 c2 c3=>by unfold Md.write;rw[if_neg q18,if_neg q26,hnd,if_pos q32]
    refine ac (ab (kPm aa aa (kPa aa aa (ad (az ?_)))))
    exact ax results91 aa (fun w hw=>⟨_,⟨0,0,0,by rw[hE]<;>rfl,by rw[hE]⟩,bj (M:=M) ((hw.dp [1,1]).pk [1,1,1,1,1,1])⟩)
   ·have q32:¬ (M.g b).field i false≠0:=by simpa using h32
    have hio:=jI q32
    refine ay (ac (ac (ab (kPm aa aa (kPv (ae isAgg136 aa aa) aa (kPv (ae isAgg3 aa aa) aa ?_))))))
    refine aq aa (aZ aa (jS _ _ (by first | rfl | assumption) rfl)) .free rfl rfl ?_;refine aJ [3,5,5,0] ?_
    refine aQ aa (aA call148 aa) (ny B _ bm M _ _ _ _ _ hW.c hdm.2.1 hW.fi hdm.2.2 hW.si ((some b,i)) (fun c e=>by cases e;exact hbi)) .free aa aa ?_
    rintro _ _ ⟨sv2,rfl,rfl⟩
    obtain⟨ss,hss⟩:=gz M ((some b,i))
    rw[hss]
    refine kPa aa aa (ad (ao [12,9,8,6,0,3] rfl (ac (ab (kPm aa aa (kPv (an aa aa aa) aa (ad ?_)))))))
    refine aW aa (fun h40=> ?_) (fun h40=> ?_)
    ·have q40:(M.note (some b,i)).1≠0:=by simpa using h40
     have hM:{M with seen:=ss}=M:=hss.symm.trans (ns q40)
     have hE:∀ c1 c2 c3,M.write h i v c1 c2 c3=((M.note (some b,i)).1,M):=fun c1 c2 c3=>by unfold Md.write;rw[if_neg q18,if_neg q26,hnd,if_neg q32,hbo,if_pos q40]
     rw[hM]
     refine ac (ab (kPm aa aa (kPa aa aa (ad (az ?_)))))
     exact ax results91 aa (fun w hw=>⟨_,⟨0,0,0,by rw[hE]<;>rfl,by rw[hE]⟩,bj (M:=M) ((hw.dp [4,4]).pk [0,3,3,0,0,1])⟩)
    ·have q40:¬ (M.note (some b,i)).1≠0:=by simpa using h40
     have hE:∀ c1 c2 c3,M.write h i v c1 c2 c3=(0,({M with seen:=ss}:Md).setNum b i v c1 c2 c3):=fun c1 c2 c3=>by unfold Md.write;rw[if_neg q18,if_neg q26,hnd,if_neg q32,hbo,if_neg q40,hss];rfl
     refine ay (ac (aJ [3] (nK hbi (aJ [2] (cI fun qv qvc hqv qvi=> ?_)))))
     have hvl:=hnw.vl
     obtain⟨o1,o2,rfl⟩:=qvi i.toNat (by omega)
     refine aJ [7,7] (aK (H':=row b9 [ptr b] 136::row b6 [i64 i] 3::_) (fun w hh=>hh) (cM [0,1,2,3,4,5,6,7,8] [7,8] [0,1,2,3,4,5,6] [7] [row b9 [ptr b] 136,row b6 [i64 i] 3,kj b (M.g b),VW (M.g b).vv (M.g b).nums] Tryz.mixed (by kernel_rfl) ?_))
     refine al aa aa aa (ae isAgg136 aa aa) .free aa (al aa aa aa (ak aa) .free aa (al aa aa aa (aj (m:=_) nU aa aa) .free aa (al aa aa aa (ae isAgg25 aa aa) .free aa (al aa aa aa (ae isAgg3 aa aa) .free aa (al aa aa aa (bZ runUnderlying25 sizeOf26 (congrArg some hqv) aa (by omega) (by omega)) .free aa ?_)))))
     refine al aa aa aa (bX (v:=w64 ((M.g b).nums.getD i.toNat 0)) isAgg26 (dw (f:=w64) (q:=some ⟨o1,o2,none⟩) (cap:=qvc) (xs:=(M.g b).nums) ER 3 (by rw[←hqv];rfl)) aa (by rw[List.getElem?_map,List.getD_eq_getElem?_getD,List.getElem?_eq_getElem (by omega)];rfl)) .free aa ?_
     refine aU aa aa (aC aa (cA zeroValue26 aa) .free aa aa ?_)
     rintro _ _ ⟨b13,rfl,rfl⟩
     refine ad (cN (aU aa aa (aD aa (aR sizeOf26 aa aa aa aa) .free aa ?_)))
     rintro _ _ rfl
     refine ad (c9 aa (cJ (ao [13,9,8,6,0,3] rfl (ac (ab (kPm aa aa (kPm aa aa (kPv (ak aa) aa (kPv (aj (m:=_) gb aa aa) aa (kPv (ae isAgg43 aa aa) aa (kPv (dm aa aa) aa ?_)))))))))))
     refine aC aa (iP m7 (v:=(.num b13 b9 b6 b i ((M.g b).nums.getD i.toNat 0))) runUnderlying43 sizeOf1 zeroValue1 ⟨⟨by decide,by decide⟩,rfl⟩ rfl aa) .free aa aa ?_
     rintro _ _ ⟨b55,rfl,rfl⟩
     refine aJ [13,0] (aC aa (dj m7 (ys:=[(.num b13 b9 b6 b i ((M.g b).nums.getD i.toNat 0))]) aa aa runUnderlying43 runUnderlying43 ⟨_,rfl⟩ sizeOf1 zeroValue1 aa Cp aa aa (SlM.row (b:=b55) aa aa) (Nat.succ_pos _) (by have:=hW.ul;simp;omega)) .free aa aa ?_)
     rintro uv2 _ ⟨huv2,rfl⟩
     refine kPv (ak aa) aa (kPv (aj (m:=_) gb aa aa) aa ?_)
     refine aD aa (aR sizeOf43 aa aa (by first | rfl | assumption) rfl) .free rfl ?_
     rintro _ _ rfl
     refine ad (ao [9,8,6,3] rfl (ac (cD 7 Tryz.mixed (by kernel_rfl) (by kernel_rfl) ?_)))
     refine kQv (ae isAgg136 aa aa) aa (kQv (ak aa) aa (kQv (aj (m:=_) nU aa aa) aa (kQv (ae isAgg25 aa aa) aa (kQv (ae isAgg3 aa aa) aa (kQm aa aa (kQv (bZ runUnderlying25 sizeOf26 (congrArg some hqv) aa (by omega) (by omega)) aa (bR (aJ [5] (aK (H':=VW (.slice (some ⟨o1,o2,none⟩) (M.g b).nums.length qvc) (M.g b).nums::_) (fun w hh=>by rw[←hqv];exact hh) (aD aa (gF (f:=w64) (v:=v) sizeOf26 aa aa aa aa (by omega)) .free aa ?_))))))))))
     rintro _ _ rfl
     refine ad (ao [8] rfl (ac (ab (kPa aa aa (ad (az ?_))))))
     exact ax results91 aa (fun w hw=>⟨_,⟨b13,b9,b6,by rw[hE],by rw[hE]⟩,(by have h9:=((hw.dp [2]).pk [8,10,10,8,8,1,4,4,0,3,3]);exact yq (N:={M with seen:=ss}) (x:={M.g b with nums:=(M.g b).nums.set i.toNat v}) (u:=(.num b13 b9 b6 b i ((M.g b).nums.getD i.toNat 0))) hW.nd hbi (by rw[←hqv] at h9;exact h9))⟩)
theorem zv(B:World)(Fr:List HP)(bm:Nat)(M:Md)(hW:MdW M 999999)(h i t:Int):
 ∀ w,Holds B (dI bm M::Fr) w→Calls Tryz.prog 93 [ptr bm,i64 h,i64 i,i64 t].toArray w (Ret B (fun r H'=>∃ c1 c2 c3,r=i64 (M.point h i t c1 c2 c3).1∧H'=dI bm (M.point h i t c1 c2 c3).2::Fr) (fun _ _=>False)):=by
 refine au func93 aa ntmps93 aa ?_
 have hdm:=hW.dims
 refine fC fun rv hv sv fv uv=>(ac (ab (aC aa (dA aa aa) .free aa aa ?_)))
 rintro _ _ ⟨b6,rfl,rfl⟩
 refine kPa aa aa (ad (ac (ac (ab (kPm aa aa (kPv (ak aa) aa (kPv (aj (m:=_) ew aa aa) aa (kPv (ae isAgg4 aa aa) aa (kPv (bF aa) aa (ad ?_))))))))))
 refine aW aa (fun h19=> ?_) (fun h19=> ?_)
 ·have q19:¬ M.o=true:=by simpa using h19
  have hE:∀ c1 c2 c3,M.point h i t c1 c2 c3=(2,M):=fun c1 c2 c3=>by unfold Md.point;rw[if_pos q19]
  refine ac (ab (kPa aa aa (ad (az ?_))))
  exact ax results93 aa (fun w hw=>⟨_,⟨0,0,0,by rw[hE]<;>rfl,by rw[hE]⟩,bj (M:=M) (hw.dp [0])⟩)
 ·have q19:¬ (¬ M.o=true):=by simpa using h19
  refine ay (ac (ab (kPm aa aa (kPm aa aa (aE aa (aA call151 aa) (cY [1,2] [2,0,1] (jg B _ bm M _ _ _ _ _ h hdm.1)) .free aa aa ?_)))))
  refine kPm aa aa (kPv (aB aa aa) aa (kPv (aB aa aa) aa (aC aa (cA zeroValue136 aa) .free aa aa ?_)))
  rintro _ _ ⟨b9,rfl,rfl⟩
  refine aD aa (aR sizeOf136 aa aa (lv _) aa) .free aa ?_
  rintro _ _ rfl
  refine kPa aa aa (ad (ao [10,9,8,6,0,3] rfl (ac (ac (ab (kPm aa aa (kPv (an aa aa aa) aa (ad ?_))))))))
  refine aW aa (fun h27=> ?_) (fun h27=> ?_)
  ·have q27:(M.node h).2≠0:=by simpa using h27
   have hE:∀ c1 c2 c3,M.point h i t c1 c2 c3=((M.node h).2,M):=fun c1 c2 c3=>by unfold Md.point;rw[if_neg q19,if_pos q27]
   refine ac (ab (kPm aa aa (kPa aa aa (ad (az ?_)))))
   exact ax results93 aa (fun w hw=>⟨_,⟨0,0,0,by rw[hE]<;>rfl,by rw[hE]⟩,bj (M:=M) (hw.dp [0,0])⟩)
  ·have q27:¬ ((M.node h).2≠0):=by simpa using h27
   obtain⟨b,hbi,hbo,hb1,hb2,hb3⟩:=hW.node q27
   have hnw:=hW.gw b hbi
   have hnd:M.nd h=M.g b:=by unfold Md.nd;rw[hbo];rfl
   rw[hbo]
   refine ay (ac (ab (kPm aa aa (kPm aa aa (aE aa (aA call154 aa) (cY [2,3] [2,2,0,1] (sY B _ bm M _ _ _ _ _ t hdm.1)) .free aa aa ?_)))))
   refine kPm aa aa (kPv (aB aa aa) aa (kPv (aB aa aa) aa (kPa aa aa (kPa aa aa (ad (ao [10,11,9,8,6,0] rfl (ac (ac (ab (kPm aa aa (kPv (an aa aa aa) aa ?_)))))))))))
   refine ad ?_
   refine aW aa (fun h36=> ?_) (fun h36=> ?_)
   ·have q36:(M.other t).2≠0:=by simpa using h36
    have hE:∀ c1 c2 c3,M.point h i t c1 c2 c3=((M.other t).2,M):=fun c1 c2 c3=>by unfold Md.point;rw[if_neg q19,if_neg q27,if_pos q36]
    refine ac (ab (kPm aa aa (kPa aa aa (ad (az ?_)))))
    exact ax results93 aa (fun w hw=>⟨_,⟨0,0,0,by rw[hE]<;>rfl,by rw[hE]⟩,bj (M:=M) (hw.dp [0,0])⟩)
   ·have q36:¬ ((M.other t).2≠0):=by simpa using h36
    refine ay (ac (ac (ab (kPv (ae isAgg136 aa aa) aa (kPv (ae isAgg3 aa aa) aa (aJ [8] (aK (fun w hh=>jf hbi hh) (aE aa (aA call152 aa) (kP B _ b (M.g b) i _) .free aa aa ?_))))))))
    refine aK (fun w hh=>ki hbi hh) (kPa aa aa (ad (ac (ab (kPm aa aa (kPv (an aa aa aa) aa (ad (ao [42,12,11,9,8,6,0] rfl ?_))))))))
    refine aW aa (fun h42=> ?_) (fun h42=> ?_)
    ·have q42:(M.g b).field i true≠0:=by simpa using h42
     have hE:∀ c1 c2 c3,M.point h i t c1 c2 c3=((M.g b).field i true,M):=fun c1 c2 c3=>by unfold Md.point;rw[if_neg q19,if_neg q27,if_neg q36,hnd,if_pos q42]
     refine ac (ab (kPm aa aa (kPa aa aa (ad (az ?_)))))
     exact ax results93 aa (fun w hw=>⟨_,⟨0,0,0,by rw[hE]<;>rfl,by rw[hE]⟩,bj (M:=M) ((hw.dp [1,1]).pk [1,1,1,1,1,1])⟩)
    ·have q42:¬ (M.g b).field i true≠0:=by simpa using h42
     have hio:=jI q42
     refine ay (ac (ac (ab (kPm aa aa (kPv (ae isAgg136 aa aa) aa (kPv (ae isAgg3 aa aa) aa ?_))))))
     refine aq aa (aZ aa (jS _ _ (by first | rfl | assumption) rfl)) .free rfl rfl ?_;refine aJ [3,5,5,0] ?_
     refine aQ aa (aA call148 aa) (ny B _ bm M _ _ _ _ _ hW.c hdm.2.1 hW.fi hdm.2.2 hW.si ((some b,i)) (fun c e=>by cases e;exact hbi)) .free aa aa ?_
     rintro _ _ ⟨sv2,rfl,rfl⟩
     obtain⟨ss,hss⟩:=gz M ((some b,i))
     rw[hss]
     refine kPa aa aa (ad (ao [13,11,9,8,6,0] rfl (ac (ab (kPm aa aa (kPv (an aa aa aa) aa (ad ?_)))))))
     refine aW aa (fun h50=> ?_) (fun h50=> ?_)
     ·have q50:(M.note (some b,i)).1≠0:=by simpa using h50
      have hM:{M with seen:=ss}=M:=hss.symm.trans (ns q50)
      have hE:∀ c1 c2 c3,M.point h i t c1 c2 c3=((M.note (some b,i)).1,M):=fun c1 c2 c3=>by unfold Md.point;rw[if_neg q19,if_neg q27,if_neg q36,hnd,if_neg q42,hbo,if_pos q50]
      rw[hM]
      refine ac (ab (kPm aa aa (kPa aa aa (ad (az ?_)))))
      exact ax results93 aa (fun w hw=>⟨_,⟨0,0,0,by rw[hE]<;>rfl,by rw[hE]⟩,bj (M:=M) ((hw.dp [4,4]).pk [0,3,3,0,0,1])⟩)
     ·have q50:¬ (M.note (some b,i)).1≠0:=by simpa using h50
      have hE:∀ c1 c2 c3,M.point h i t c1 c2 c3=(0,({M with seen:=ss}:Md).setName b i (M.other t).1 c1 c2 c3):=fun c1 c2 c3=>by unfold Md.point;rw[if_neg q19,if_neg q27,if_neg q36,hnd,if_neg q42,hbo,if_neg q50,hss];rfl
      refine ay (ac (aJ [3] (nK hbi (aJ [1] (cI fun qn qnc hqn qni=> ?_)))))
      have hnl:=hnw.nl
      have hir:i<(M.g b).rf:=by simpa using hio.2.2
      obtain⟨o1,o2,rfl⟩:=qni i.toNat (by omega)
      refine aJ [7,7] (aK (H':=row b9 [ptr b] 136::row b6 [i64 i] 3::_) (fun w hh=>hh) (cM [0,1,2,3,4,5,6,7,8] [7,8] [0,1,2,3,4,5,6] [7] [row b9 [ptr b] 136,row b6 [i64 i] 3,kj b (M.g b),VN (M.g b).nv (M.g b).names] Tryz.mixed (by kernel_rfl) ?_))
      refine al aa aa aa (ae isAgg136 aa aa) .free aa (al aa aa aa (ak aa) .free aa (al aa aa aa (aj (m:=_) lV aa aa) .free aa (al aa aa aa (ae isAgg41 aa aa) .free aa (al aa aa aa (ae isAgg3 aa aa) .free aa (al aa aa aa (bZ runUnderlying41 sizeOf136 (congrArg some hqn) aa (by omega) (by omega)) .free aa ?_)))))
      refine al aa aa aa (bX (v:=pn ((M.g b).names.getD i.toNat none)) isAgg136 (dw (f:=pn) (q:=some ⟨o1,o2,none⟩) (cap:=qnc) (xs:=(M.g b).names) gy 3 (by rw[←hqn];rfl)) aa (by rw[List.getElem?_map,List.getD_eq_getElem?_getD,List.getElem?_eq_getElem (by omega)];rfl)) .free aa ?_
      refine aU aa aa (aC aa (cA zeroValue136 aa) .free aa aa ?_)
      rintro _ _ ⟨b14,rfl,rfl⟩
      refine ad (cN (aU aa aa (aD aa (aR sizeOf136 aa aa (lv _) aa) .free aa ?_)))
      rintro _ _ rfl
      refine ad (c9 aa (cJ (ao [14,11,9,8,6,0] rfl (ac (ab (kPm aa aa (kPm aa aa (kPv (ak aa) aa (kPv (aj (m:=_) gb aa aa) aa (kPv (ae isAgg43 aa aa) aa (kPv (dm aa aa) aa ?_)))))))))))
      refine aC aa (iP m7 (v:=(.name b14 b9 b6 b i ((M.g b).names.getD i.toNat none))) runUnderlying43 sizeOf1 zeroValue1 ⟨⟨by decide,by decide⟩,rfl⟩ rfl aa) .free aa aa ?_
      rintro _ _ ⟨b65,rfl,rfl⟩
      refine aJ [13,0] (aC aa (dj m7 (ys:=[(.name b14 b9 b6 b i ((M.g b).names.getD i.toNat none))]) aa aa runUnderlying43 runUnderlying43 ⟨_,rfl⟩ sizeOf1 zeroValue1 aa Cp aa aa (SlM.row (b:=b65) aa aa) (Nat.succ_pos _) (by have:=hW.ul;simp;omega)) .free aa aa ?_)
      rintro uv2 _ ⟨huv2,rfl⟩
      refine kPv (ak aa) aa (kPv (aj (m:=_) gb aa aa) aa ?_)
      refine aD aa (aR sizeOf43 aa aa (by first | rfl | assumption) rfl) .free rfl ?_
      rintro _ _ rfl
      refine ad (ao [11,9,8,6] rfl (ac (cD 7 Tryz.mixed (by kernel_rfl) (by kernel_rfl) ?_)))
      refine kQv (ae isAgg136 aa aa) aa (kQv (ak aa) aa (kQv (aj (m:=_) lV aa aa) aa (kQv (ae isAgg41 aa aa) aa (kQv (ae isAgg3 aa aa) aa (kQm aa aa (kQv (bZ runUnderlying41 sizeOf136 (congrArg some hqn) aa (by omega) (by omega)) aa (bR (aJ [5] (aK (H':=VN (.slice (some ⟨o1,o2,none⟩) (M.g b).names.length qnc) (M.g b).names::_) (fun w hh=>by rw[←hqn];exact hh) (aD aa (gF (f:=pn) (v:=(M.other t).1) sizeOf136 aa aa aa (lv _) (by omega)) .free aa ?_))))))))))
      rintro _ _ rfl
      refine ad (ao [8] rfl (ac (ab (kPa aa aa (ad (az ?_))))))
      exact ax results93 aa (fun w hw=>⟨_,⟨b14,b9,b6,by rw[hE],by rw[hE]⟩,(by have h9:=((hw.dp [2]).pk [8,10,10,8,8,1,4,0,3,3,3]);exact yq (N:={M with seen:=ss}) (x:={M.g b with names:=(M.g b).names.set i.toNat (M.other t).1}) (u:=(.name b14 b9 b6 b i ((M.g b).names.getD i.toNat none))) hW.nd hbi (by rw[←hqn] at h9;exact h9))⟩)
theorem CK(B:World)(Fr:List HP)(bm:Nat)(M:Md)(hW:MdW M 999999)(i t:Int):
 ∀ w,Holds B (dI bm M::Fr) w→Calls Tryz.prog 95 [ptr bm,i64 i,i64 t].toArray w (Ret B (fun r H'=>∃ c1 c2 c3,r=i64 (M.set i t c1 c2 c3).1∧H'=dI bm (M.set i t c1 c2 c3).2::Fr) (fun _ _=>False)):=by
 refine au func95 aa ntmps95 aa ?_
 have hdm:=hW.dims
 have hrl:=hW.rl
 have hr2:=hW.c.r2
 refine fC fun rv hv sv fv uv=>(aJ [1] (cI fun qr qrc hqr qri=> ?_))
 subst hqr
 refine aJ [1] (ac (ab (aC aa (dA aa aa) .free aa aa ?_)))
 rintro _ _ ⟨b3,rfl,rfl⟩
 refine aC aa (dA aa aa) .free aa aa ?_
 rintro _ _ ⟨b4,rfl,rfl⟩
 refine kPa aa aa (ad (ac (aO (ac (ab (kPv (ae isAgg30 aa aa) aa (kPv (ak aa) aa (kPv (aj (m:=_) ew aa aa) aa (kPv (ae isAgg4 aa aa) aa (kPv (bF aa) aa (kPa aa aa ?_)))))))))))
 refine ad (ao [11,6,4,3,2] rfl ?_)
 refine aW aa (fun h11=> ?_) (fun h11=> ?_)
 ·have q11:¬ M.o=true:=by simpa using h11
  have hE:∀ c1 c2 c3,M.set i t c1 c2 c3=(2,M):=fun c1 c2 c3=>by unfold Md.set;rw[if_pos q11]
  refine ac (ab (kPa aa aa (ad (az ?_))))
  exact ax results95 aa (fun w hw=>⟨_,⟨0,0,0,by rw[hE]<;>rfl,by rw[hE]⟩,bj (M:=M) (hw.dp [0,0])⟩)
 ·have q11:¬ (¬ M.o=true):=by simpa using h11
  refine ac (cK Tryz.mixed (by kernel_rfl) (by kernel_rfl) ?_)
  refine kQv (ae isAgg3 aa aa) aa (kQv (an aa aa aa) aa (kQm aa aa ?_))
  apply AM (tp:=28) (t:=20) (σ1:=[(20,_),(6,_),(4,_),(3,_),(2,_)]) 8 rfl (aF rfl)
  ·intro hg1
   refine bA aa (ae isAgg3 aa aa) (.on aa aa (ah hg1)) aa (bA aa (ae isAgg30 aa aa) (.on aa aa (ah hg1)) aa (bA aa (ak aa) (.on aa aa (ah hg1)) aa (bA aa (aj (m:=_) ge aa aa) (.on aa aa (ah hg1)) aa (bA aa (aj (m:=_) fm aa aa) (.on aa aa (ah hg1)) aa (bA aa (ae isAgg3 aa aa) (.on aa aa (ah hg1)) aa (bA aa (an aa aa aa) (.on aa aa (ah hg1)) aa (kQv (aL aa hg1 aa) aa ?_)))))))
   exact eu aa (aF aa) (eZ hg1)
  ·intro hg1
   refine bf aa (.on aa aa (ai hg1)) aa (bf aa (.on aa aa (ai hg1)) aa (bf aa (.on aa aa (ai hg1)) aa (bf aa (.on aa aa (ai hg1)) aa (bf aa (.on aa aa (ai hg1)) aa (bf aa (.on aa aa (ai hg1)) aa (bf aa (.on aa aa (ai hg1)) aa (kQv (aH aa hg1 aa) aa ?_)))))))
   exact eu aa (aF aa) (eY hg1)
  refine kQa aa aa (bR ?_)
  refine aW aa (fun h17=> ?_) (fun h17=> ?_)
  ·have q17:i<0∨M.c.roots≤i:=by simp at h17;omega
   have hE:∀ c1 c2 c3,M.set i t c1 c2 c3=(1,M):=fun c1 c2 c3=>by unfold Md.set;rw[if_neg q11,if_pos q17]
   refine ac (ab (kPa aa aa (ad (az ?_))))
   exact ax results95 aa (fun w hw=>⟨_,⟨0,0,0,by rw[hE]<;>rfl,by rw[hE]⟩,bj (M:=M) (hw.dp [0,0])⟩)
  ·have q17:¬ (i<0∨M.c.roots≤i):=by simp at h17;omega
   refine ay (ac (ab (kPv (ae isAgg30 aa aa) aa (kPm aa aa (aE aa (aA call154 aa) (cY [2,3] [2,2,0,1] (sY B _ bm M _ _ _ _ _ t hdm.1)) .free aa aa ?_)))))
   refine kPm aa aa (kPv (aB aa aa) aa (kPv (aB aa aa) aa (kPa aa aa (kPa aa aa (ad (ao [8,7,6,4,3] rfl (ac (ac (ab (kPm aa aa (kPv (an aa aa aa) aa ?_)))))))))))
   refine ad ?_
   refine aW aa (fun h36=> ?_) (fun h36=> ?_)
   ·have q36:(M.other t).2≠0:=by simpa using h36
    have hE:∀ c1 c2 c3,M.set i t c1 c2 c3=((M.other t).2,M):=fun c1 c2 c3=>by unfold Md.set;rw[if_neg q11,if_neg q17,if_pos q36]
    refine ac (ab (kPm aa aa (kPa aa aa (ad (az ?_)))))
    exact ax results95 aa (fun w hw=>⟨_,⟨0,0,0,by rw[hE]<;>rfl,by rw[hE]⟩,bj (M:=M) (hw.dp [0,0])⟩)
   ·have q36:¬ ((M.other t).2≠0):=by simpa using h36
    refine ay (ac (ac (ab (kPv (ae isAgg30 aa aa) aa (kPv (ae isAgg3 aa aa) aa ?_)))))
    refine aq aa (aZ aa (jS _ _ (by first | rfl | assumption) rfl)) .free rfl rfl ?_;refine aJ [2,4,4,5] ?_;refine aQ aa (aA call148 aa) (ny B _ bm M _ _ _ _ _ hW.c hdm.2.1 hW.fi hdm.2.2 hW.si (none,i) (fun c e=>by cases e)) .free rfl rfl ?_
    rintro _ _ ⟨sv2,rfl,rfl⟩
    obtain⟨ss,hss⟩:=gz M (none,i)
    rw[hss]
    refine kPa aa aa (ad (ao [9,7,6,4,3] rfl (ac (ab (kPm aa aa (kPv (an aa aa aa) aa (ad ?_)))))))
    refine aW aa (fun h43=> ?_) (fun h43=> ?_)
    ·have q43:(M.note (none,i)).1≠0:=by simpa using h43
     have hM:{M with seen:=ss}=M:=hss.symm.trans (ns q43)
     have hE:∀ c1 c2 c3,M.set i t c1 c2 c3=((M.note (none,i)).1,M):=fun c1 c2 c3=>by unfold Md.set;rw[if_neg q11,if_neg q17,if_neg q36,if_pos q43]
     rw[hM]
     refine ac (ab (kPm aa aa (kPa aa aa (ad (az ?_)))))
     exact ax results95 aa (fun w hw=>⟨_,⟨0,0,0,by rw[hE]<;>rfl,by rw[hE]⟩,bj (M:=M) ((hw.dp [4,4]).pk [0,3,3,0,0,1])⟩)
    ·have q43:¬ (M.note (none,i)).1≠0:=by simpa using h43
     have hE:∀ c1 c2 c3,M.set i t c1 c2 c3=(0,({M with seen:=ss}:Md).setRoot i (M.other t).1 c1 c2 c3):=fun c1 c2 c3=>by unfold Md.set;rw[if_neg q11,if_neg q17,if_neg q36,if_neg q43,hss]
     refine ay (ac ?_)
     obtain⟨o1,o2,rfl⟩:=qri i.toNat (by omega)
     refine cM [0,1,2,3,4,5,6,7,8] [7,8] [0,1,2,3,4,5,6] [7] [row b3 [ptr bm] 30,row b4 [i64 i] 3,cx bm {M with seen:=ss} (.slice (some ⟨o1,o2,none⟩) M.roots.length qrc) hv sv2 fv uv,VN (.slice (some ⟨o1,o2,none⟩) M.roots.length qrc) M.roots] Tryz.mixed (by kernel_rfl) ?_
     refine al aa aa aa (ae isAgg30 aa aa) .free aa (al aa aa aa (ak aa) .free aa (al aa aa aa (aj (m:=_) mm aa aa) .free aa (al aa aa aa (ae isAgg41 aa aa) .free aa (al aa aa aa (ae isAgg3 aa aa) .free aa (al aa aa aa (bZ runUnderlying41 sizeOf136 aa aa (by omega) (by omega)) .free aa ?_)))))
     refine al aa aa aa (bX (v:=pn (M.roots.getD i.toNat none)) isAgg136 (dw (f:=pn) (q:=some ⟨o1,o2,none⟩) (cap:=qrc) (xs:=M.roots) gy 3 aa) aa (by rw[List.getElem?_map,List.getD_eq_getElem?_getD,List.getElem?_eq_getElem (by omega)];rfl)) .free aa ?_
     refine aU aa aa (aC aa (cA zeroValue136 aa) .free aa aa ?_)
     rintro _ _ ⟨b10,rfl,rfl⟩
     refine ad (cN (aU aa aa (aD aa (aR sizeOf136 aa aa (lv _) aa) .free aa ?_)))
     rintro _ _ rfl
     refine ad (c9 aa (cJ (ao [10,7,6,4,3] rfl (ac (cM [0,1,2,3,4,5,6,7,8,9,10] [6,7,10] [0,1,2,3,4] [6,7] [row b3 [ptr bm] 30,cx bm {M with seen:=ss} (.slice (some ⟨o1,o2,none⟩) M.roots.length qrc) hv sv2 fv uv] Tryz.mixed (by kernel_rfl) ?_)))))
     refine al aa aa aa (ae isAgg30 aa aa) .free aa (al aa aa aa (ae isAgg30 aa aa) .free aa (al aa aa aa (ak aa) .free aa (al aa aa aa (aj (m:=_) gb aa aa) .free aa (al aa aa aa (ae isAgg43 aa aa) .free aa (aT aa aa aa (dm aa aa) .free aa (aU aa aa (aC aa (iP m7 (v:=(.root b10 b3 b4 i (M.roots.getD i.toNat none))) runUnderlying43 sizeOf1 zeroValue1 ⟨⟨by decide,by decide⟩,rfl⟩ rfl aa) .free aa aa ?_)))))))
     rintro _ _ ⟨b58,rfl,rfl⟩
     refine ad (cN (aU aa aa (aJ [10,0] (aC aa (dj m7 (ys:=[(.root b10 b3 b4 i (M.roots.getD i.toNat none))]) aa aa runUnderlying43 runUnderlying43 ⟨_,rfl⟩ sizeOf1 zeroValue1 aa Cp aa aa (SlM.row (b:=b58) aa aa) (Nat.succ_pos _) (by have:=hW.ul;simp;omega)) .free aa aa ?_))))
     rintro uv2 _ ⟨huv2,rfl⟩
     refine ad (cN (aT aa aa aa (ak aa) .free aa (aT aa aa aa (aj (m:=_) gb aa aa) .free aa (aU aa aa ?_))))
     refine aD aa (aR sizeOf43 aa aa (by first | rfl | assumption) rfl) .free rfl ?_
     rintro _ _ rfl
     refine ad (c9 aa (cJ (ao [7,6,4,3] rfl (ac (cD 7 Tryz.mixed (by kernel_rfl) (by kernel_rfl) ?_)))))
     refine kQv (ae isAgg30 aa aa) aa (kQv (ak aa) aa (kQv (aj (m:=_) mm aa aa) aa (kQv (ae isAgg41 aa aa) aa (kQv (ae isAgg3 aa aa) aa (kQm aa aa (kQv (bZ runUnderlying41 sizeOf136 aa aa (by omega) (by omega)) aa (bR (aJ [9] (aD aa (gF (f:=pn) (v:=(M.other t).1) sizeOf136 aa aa aa (lv _) (by omega)) .free aa ?_)))))))))
     rintro _ _ rfl
     refine ad (ao [6] rfl (ac (ab (kPa aa aa (ad (az ?_))))))
     exact ax results95 aa (fun w hw=>⟨_,⟨b10,b3,b4,by rw[hE],by rw[hE]⟩,(by have h9:=((hw.dp [2]).pk [3,0,7,2,2,0,1,3,0,1]);exact A5 (N:={M with seen:=ss}) (l:=M.roots.set i.toNat (M.other t).1) (u:=(.root b10 b3 b4 i (M.roots.getD i.toNat none))) h9)⟩)
def Un.run(M:Md):Un→Md
 | .used _ _ was=>{M with used:=was}
 | .num _ _ _ n i was=>{M with g:=dE M.g n {M.g n with nums:=(M.g n).nums.set i.toNat was}}
 | .name _ _ _ n i was=>{M with g:=dE M.g n {M.g n with names:=(M.g n).names.set i.toNat was}}
 | .root _ _ _ i was=>{M with roots:=M.roots.set i.toNat was}
def Md.back(M:Md)(k:Nat):Md:=(M.undo.drop k).foldr (fun u m=>u.run m) M
def iU(f:List (Option Nat))(x:Option Nat):Option Nat:=if x∈f∧x≠none then none else x
def Md.abort(M:Md):Int×Md:=if ¬ M.o=true then (2,M) else (0,{M.back 0 with hs:=M.hs.map (iU M.fresh),o:=false,seen:=[]})
theorem NdW.setNum{ids:List Nat}{x:Nd}(h:NdW ids x)(i:Nat){v:Int}(hv:0≤v∧v<18446744073709551616):NdW ids {x with nums:=x.nums.set i v}:=
 ⟨h.r0,h.nl,by simpa using h.vl,h.ni,fun y hy=>by
  rcases List.mem_or_eq_of_mem_set hy with hy | hy
  ·exact h.vb y hy
  ·rw[hy];exact hv⟩
theorem NdW.setName{ids:List Nat}{x:Nd}(h:NdW ids x)(i:Nat){v:Option Nat}(hv:∀ b,v=some b→b∈ids):NdW ids {x with names:=x.names.set i v}:=
 ⟨h.r0,by simpa using h.nl,h.vl,h.ni.set hv i,h.vb⟩
theorem Un.W.congr{M N:Md}{u:Un}(h:u.W M)(hi:∀ b∈M.ids,b∈N.ids)(hr:N.roots.length=M.roots.length)(hg:∀ b∈M.ids,(N.g b).wd=(M.g b).wd∧(N.g b).rf=(M.g b).rf):u.W N:=by
 cases u with
 | used=>exact h
 | num a b c n i was=>obtain⟨h1,h2,h3,h4⟩:=h;exact⟨hi n h1,h2,by rw[(hg n h1).1];exact h3,h4⟩
 | name a b c n i was=>obtain⟨h1,h2,h3,h4⟩:=h;exact⟨hi n h1,h2,by rw[(hg n h1).2];exact h3,fun x hx=>hi x (h4 x hx)⟩
 | root a b c i was=>obtain⟨h1,h2,h4⟩:=h;exact⟨h1,by rw[hr];exact h2,fun x hx=>hi x (h4 x hx)⟩
theorem jZ{g:Nat→Nd}{n:Nat}{x:Nd}(hw:x.wd=(g n).wd∧x.rf=(g n).rf)(b:Nat):(dE g n x b).wd=(g b).wd∧(dE g n x b).rf=(g b).rf:=by
 unfold dE;split
 ·rename_i e;subst e;exact hw
 ·exact⟨rfl,rfl⟩
theorem MdW.upd{M:Md}{K:Nat}(h:MdW M K){n:Nat}{x:Nd}(hx:NdW M.ids x)(hw:x.wd=(M.g n).wd∧x.rf=(M.g n).rf):MdW {M with g:=dE M.g n x} K:=
 {h with
  gw:=fun b hb=>by
   show NdW M.ids (dE M.g n x b)
   unfold dE;split
   ·exact hx
   ·exact h.gw b hb
  uw:=fun u hu=>(h.uw u hu).congr (fun _ e=>e) rfl fun b _=>jZ hw b}
theorem MdW.run{M:Md}{K:Nat}(h:MdW M K){u:Un}(hu:u.W M):MdW (u.run M) K:=by
 cases u with
 | used a b was=>exact {h with us:=hu,uw:=fun u hx=>(h.uw u hx).congr (fun _ e=>e) aa fun _ _=>⟨rfl,rfl⟩}
 | num a b c n i was=>exact h.upd ((h.gw n hu.1).setNum _ ⟨hu.2.2.2.1,hu.2.2.2.2⟩) ⟨rfl,rfl⟩
 | name a b c n i was=>exact h.upd ((h.gw n hu.1).setName _ hu.2.2.2) ⟨rfl,rfl⟩
 | root a b c i was=>exact {h with ri:=h.ri.set hu.2.2 _,rl:=by simpa [Un.run] using h.rl,uw:=fun u hx=>(h.uw u hx).congr (fun _ e=>e) (by simp[Un.run]) fun _ _=>⟨rfl,rfl⟩}
theorem nk(M:Md)(u:Un):(u.run M).undo=M.undo∧(u.run M).ids=M.ids∧(u.run M).hs=M.hs∧(u.run M).fresh=M.fresh∧(u.run M).c=M.c∧(u.run M).seen=M.seen∧(u.run M).o=M.o∧(u.run M).left=M.left∧(u.run M).thn=M.thn∧(u.run M).roots.length=M.roots.length∧∀ b,((u.run M).g b).wd=(M.g b).wd∧((u.run M).g b).rf=(M.g b).rf:=by
 cases u with
 | used=>exact⟨rfl,rfl,rfl,rfl,rfl,rfl,rfl,rfl,rfl,rfl,fun _=>⟨rfl,rfl⟩⟩
 | num _ _ _ n i was=>exact⟨rfl,rfl,rfl,rfl,rfl,rfl,rfl,rfl,rfl,rfl,fun b=>jZ (g:=M.g) (x:={M.g n with nums:=(M.g n).nums.set i.toNat was}) ⟨rfl,rfl⟩ b⟩
 | name _ _ _ n i was=>exact⟨rfl,rfl,rfl,rfl,rfl,rfl,rfl,rfl,rfl,rfl,fun b=>jZ (g:=M.g) (x:={M.g n with names:=(M.g n).names.set i.toNat was}) ⟨rfl,rfl⟩ b⟩
 | root=>exact⟨rfl,rfl,rfl,rfl,rfl,rfl,rfl,rfl,rfl,List.length_set ..,fun _=>⟨rfl,rfl⟩⟩
theorem Co(u:Un)(args:Array Value)(w:World):(callFunc u.fn args).run Tryz.prog w= .ok (.enter u.fn args) w:=by
 cases u
 ·exact call149 args w
 ·exact call153 args w
 ·exact call155 args w
 ·exact call156 args w
theorem D1(B:World)(Fr:List HP)(bm:Nat)(M:Md)(rv hv sv fv uv:Value)(hW:MdW M 999999)(a c:Nat)(was:Int)(hu:(Un.used a c was).W M):
 ∀ w,Holds B (row a [i64 was] 3::row c [ptr bm] 30::cx bm M rv hv sv fv uv::VN rv M.roots::cB M.ids M.g::Fr) w→Calls Tryz.prog 149 [ptr a,ptr c].toArray w (Ret B (fun r H'=>r= .tuple #[]∧H'=row a [i64 was] 3::row c [ptr bm] 30::cx bm ((Un.used a c was).run M) rv hv sv fv uv::VN rv ((Un.used a c was).run M).roots::cB ((Un.used a c was).run M).ids ((Un.used a c was).run M).g::Fr) (fun _ _=>False)):=by
 refine au func149 aa ntmps149 aa ?_
 skip
 refine ab (kPv (ae isAgg30 aa aa) aa (kPv (ae isAgg3 aa aa) aa (kPv (ak aa) aa (kPv (aj (m:=_) fO aa aa) aa (aD aa (aR sizeOf3 aa aa aa aa) .free aa ?_)))))
 rintro _ _ rfl
 refine ad ?_
 exact cS results149 (fun w hw=>⟨_,⟨rfl,rfl⟩,hw⟩)
theorem DZ(B:World)(Fr:List HP)(bm:Nat)(M:Md)(rv hv sv fv uv:Value)(hW:MdW M 999999)(a c d b:Nat)(i was:Int)(hu:(Un.num a c d b i was).W M):
 ∀ w,Holds B (row a [w64 was] 26::row c [ptr b] 136::row d [i64 i] 3::cx bm M rv hv sv fv uv::VN rv M.roots::cB M.ids M.g::Fr) w→Calls Tryz.prog 153 [ptr a,ptr c,ptr d].toArray w (Ret B (fun r H'=>r= .tuple #[]∧H'=row a [w64 was] 26::row c [ptr b] 136::row d [i64 i] 3::cx bm ((Un.num a c d b i was).run M) rv hv sv fv uv::VN rv ((Un.num a c d b i was).run M).roots::cB ((Un.num a c d b i was).run M).ids ((Un.num a c d b i was).run M).g::Fr) (fun _ _=>False)):=by
 refine au func153 aa ntmps153 aa (aJ [5] (nK hu.1 ?_))
 have hnw:=hW.gw b hu.1
 refine aJ [2] (cI fun qv qvc hqv qvi=> ?_)
 have hnl:=hnw.nl
 have hvl:=hnw.vl
 obtain⟨o1,o2,rfl⟩:=qvi i.toNat (by have:=hu.2.1;have:=hu.2.2.1;omega)
 refine cD 7 Tryz.mixed (by kernel_rfl) (by kernel_rfl) ?_
 refine kQv (ae isAgg136 aa aa) aa (kQv (ak aa) aa (kQv (aj (m:=_) nU aa aa) aa (kQv (ae isAgg25 aa aa) aa (kQv (ae isAgg3 aa aa) aa (kQv (ae isAgg26 aa aa) aa (kQv (bZ runUnderlying25 sizeOf26 (congrArg some hqv) aa hu.2.1 (by have:=hu.2.2.1;omega)) aa (bR (aK (H':=VW (.slice (some ⟨o1,o2,none⟩) (M.g b).nums.length qvc) (M.g b).nums::_) (fun w hh=>by rw[←hqv];exact hh) (aD aa (gF (f:=w64) (v:=was) sizeOf26 aa aa aa aa (by have:=hu.2.1;have:=hu.2.2.1;omega)) .free aa ?_)))))))))
 rintro _ _ rfl
 refine ad (ao [] rfl ?_)
 exact cS results153 (fun w hw=>⟨_,⟨rfl,rfl⟩,(by have h9:=(hw.pk [1,1]);rw[←hqv] at h9;exact(qT (x:={M.g b with nums:=(M.g b).nums.set i.toNat was}) hW.nd hu.1 h9).pk [1,1,1,1,1,0])⟩)
theorem DY(B:World)(Fr:List HP)(bm:Nat)(M:Md)(rv hv sv fv uv:Value)(hW:MdW M 999999)(a c d b:Nat)(i:Int)(was:Option Nat)(hu:(Un.name a c d b i was).W M):
 ∀ w,Holds B (row a [pn was] 136::row c [ptr b] 136::row d [i64 i] 3::cx bm M rv hv sv fv uv::VN rv M.roots::cB M.ids M.g::Fr) w→Calls Tryz.prog 155 [ptr a,ptr c,ptr d].toArray w (Ret B (fun r H'=>r= .tuple #[]∧H'=row a [pn was] 136::row c [ptr b] 136::row d [i64 i] 3::cx bm ((Un.name a c d b i was).run M) rv hv sv fv uv::VN rv ((Un.name a c d b i was).run M).roots::cB ((Un.name a c d b i was).run M).ids ((Un.name a c d b i was).run M).g::Fr) (fun _ _=>False)):=by
 refine au func155 aa ntmps155 aa (aJ [5] (nK hu.1 ?_))
 have hnw:=hW.gw b hu.1
 refine aJ [1] (cI fun qn qnc hqn qni=> ?_)
 have hnl:=hnw.nl
 have hvl:=hnw.vl
 obtain⟨o1,o2,rfl⟩:=qni i.toNat (by have:=hu.2.1;have:=hu.2.2.1;omega)
 refine cD 7 Tryz.mixed (by kernel_rfl) (by kernel_rfl) ?_
 refine kQv (ae isAgg136 aa aa) aa (kQv (ak aa) aa (kQv (aj (m:=_) lV aa aa) aa (kQv (ae isAgg41 aa aa) aa (kQv (ae isAgg3 aa aa) aa (kQv (ae isAgg136 aa aa) aa (kQv (bZ runUnderlying41 sizeOf136 (congrArg some hqn) aa hu.2.1 (by have:=hu.2.2.1;omega)) aa (bR (aK (H':=VN (.slice (some ⟨o1,o2,none⟩) (M.g b).names.length qnc) (M.g b).names::_) (fun w hh=>by rw[←hqn];exact hh) (aD aa (gF (f:=pn) (v:=was) sizeOf136 aa aa aa (lv _) (by have:=hu.2.1;have:=hu.2.2.1;omega)) .free aa ?_)))))))))
 rintro _ _ rfl
 refine ad (ao [] rfl ?_)
 exact cS results155 (fun w hw=>⟨_,⟨rfl,rfl⟩,(by have h9:=(hw.pk [1]);rw[←hqn] at h9;exact(qT (x:={M.g b with names:=(M.g b).names.set i.toNat was}) hW.nd hu.1 h9).pk [1,1,1,1,1,0])⟩)
theorem DX(B:World)(Fr:List HP)(bm:Nat)(M:Md)(rv hv sv fv uv:Value)(hW:MdW M 999999)(a c d:Nat)(i:Int)(was:Option Nat)(hu:(Un.root a c d i was).W M):
 ∀ w,Holds B (row a [pn was] 136::row c [ptr bm] 30::row d [i64 i] 3::cx bm M rv hv sv fv uv::VN rv M.roots::cB M.ids M.g::Fr) w→Calls Tryz.prog 156 [ptr a,ptr c,ptr d].toArray w (Ret B (fun r H'=>r= .tuple #[]∧H'=row a [pn was] 136::row c [ptr bm] 30::row d [i64 i] 3::cx bm ((Un.root a c d i was).run M) rv hv sv fv uv::VN rv ((Un.root a c d i was).run M).roots::cB ((Un.root a c d i was).run M).ids ((Un.root a c d i was).run M).g::Fr) (fun _ _=>False)):=by
 refine au func156 aa ntmps156 aa ?_
 have h1:=hu.1
 have h2:=hu.2.1
 refine aJ [4] (cI fun qr qrc hqr qri=> ?_)
 subst hqr
 obtain⟨o1,o2,rfl⟩:=qri i.toNat (by omega)
 refine cD 7 Tryz.mixed (by kernel_rfl) (by kernel_rfl) ?_
 refine kQv (ae isAgg30 aa aa) aa (kQv (ak aa) aa (kQv (aj (m:=_) mm aa aa) aa (kQv (ae isAgg41 aa aa) aa (kQv (ae isAgg3 aa aa) aa (kQv (ae isAgg136 aa aa) aa (kQv (bZ runUnderlying41 sizeOf136 aa aa (by omega) (by omega)) aa (bR (aD aa (gF (f:=pn) (v:=was) sizeOf136 aa aa aa (lv _) (by omega)) .free aa ?_))))))))
 rintro _ _ rfl
 refine ad (ao [] rfl ?_)
 exact cS results156 (fun w hw=>⟨_,⟨rfl,rfl⟩,(hw.pk [1,1,1,1])⟩)
theorem tV{B:World}{H1 H2:List HP}{v:Value}{e:Ending}{w:World}(h:Ret B (fun r H'=>r=v∧H'=H1) (fun _ _=>False) e w)(f:Holds B H1 w→Holds B H2 w):Ret B (fun r H'=>r=v∧H'=H2) (fun _ _=>False) e w:=by
 cases e with
 | returned u=>obtain⟨H,⟨h1,rfl⟩,h2⟩:=h;exact⟨_,⟨h1,rfl⟩,f h2⟩
 | panicked c=>obtain⟨H,h1,_⟩:=h;exact h1.elim
 | _=>exact h
theorem ET(B:World)(Fr:List HP)(bm:Nat)(M:Md)(rv hv sv fv uv:Value)(hW:MdW M 999999)(u:Un)(hu:u.W M):∀ w,Holds B (grp (u.rows bm)::cx bm M rv hv sv fv uv::VN rv M.roots::cB M.ids M.g::Fr) w→Calls Tryz.prog u.fn u.caps.toArray w (Ret B (fun r H'=>r= .tuple #[]∧H'=grp (u.rows bm)::cx bm (u.run M) rv hv sv fv uv::VN rv (u.run M).roots::cB (u.run M).ids (u.run M).g::Fr) (fun _ _=>False)):=by
 intro w hw
 cases u with
 | used a c was=>exact(D1 B Fr bm M rv hv sv fv uv hW a c was hu w hw.grp).mono fun _ _ h=>tV h fun h=>Holds.ungrp (l:=Un.rows bm (.used a c was)) h
 | num a c d b i was=>exact(DZ B Fr bm M rv hv sv fv uv hW a c d b i was hu w hw.grp).mono fun _ _ h=>tV h fun h=>Holds.ungrp (l:=Un.rows bm (.num a c d b i was)) h
 | name a c d b i was=>exact(DY B Fr bm M rv hv sv fv uv hW a c d b i was hu w hw.grp).mono fun _ _ h=>tV h fun h=>Holds.ungrp (l:=Un.rows bm (.name a c d b i was)) h
 | root a c d i was=>exact(DX B Fr bm M rv hv sv fv uv hW a c d i was hu w hw.grp).mono fun _ _ h=>tV h fun h=>Holds.ungrp (l:=Un.rows bm (.root a c d i was)) h
theorem z8{M:Md}{j:Nat}(hj:j<M.undo.length):M.back j=M.undo[j].run (M.back (j+1)):=by
 unfold Md.back;rw[List.drop_eq_getElem_cons hj];rfl
theorem B7(M:Md):M.back M.undo.length=M:=by unfold Md.back;rw[List.drop_length];rfl
theorem tK(M:Md):∀ l:List Un,(l.foldr (fun u m=>u.run m) M).undo=M.undo∧(l.foldr (fun u m=>u.run m) M).ids=M.ids∧(l.foldr (fun u m=>u.run m) M).fresh=M.fresh
 | []=>⟨rfl,rfl,rfl⟩
 | u::l=>by
   have h1:=tK M l
   have h2:=nk (l.foldr (fun u m=>u.run m) M) u
   exact⟨h2.1.trans h1.1,h2.2.1.trans h1.2.1,h2.2.2.2.1.trans h1.2.2⟩
theorem Dz(M:Md)(l:List (Option Nat)):({M.back 0 with hs:=l,o:=false,seen:=[]}:Md)={M.back 0 with hs:=l,o:=false,seen:=[],fresh:=M.fresh,undo:=M.undo}:=by
 have h:=tK M (M.undo.drop 0)
 rw[Md.mk.injEq]
 exact⟨rfl,rfl,rfl,rfl,rfl,rfl,h.2.2,h.1,rfl,rfl,rfl,rfl⟩
def hsk(f:Option Nat→Option Nat)(l:List (Option Nat))(k:Nat):List (Option Nat):=(l.take k).map f++l.drop k
theorem ui(f:Option Nat→Option Nat)(l:List (Option Nat))(k:Nat):(hsk f l k).length=l.length:=by unfold hsk;simp;omega
theorem yC{f:Option Nat→Option Nat}{l:List (Option Nat)}{k:Nat}(hk:k<l.length):(hsk f l k)[k]? =some l[k]:=by
 unfold hsk
 rw[List.getElem?_append_right (by simp;omega),List.getElem?_drop]
 simp[Nat.min_eq_left (Nat.le_of_lt hk),hk]
theorem rg{f:Option Nat→Option Nat}{l:List (Option Nat)}{k:Nat}(hk:k<l.length):hsk f l (k+1)=(hsk f l k).set k (f l[k]):=by
 unfold hsk
 rw[List.drop_eq_getElem_cons hk,List.take_succ_eq_append_getElem hk,List.map_append,List.set_append_right _ _ (by simp;omega)]
 simp[Nat.min_eq_left (Nat.le_of_lt hk)]
 rw[List.drop_eq_getElem_cons hk];rfl
theorem vD{f:Option Nat→Option Nat}{l:List (Option Nat)}{k:Nat}(hk:k<l.length)(e:f l[k]=l[k]):hsk f l (k+1)=hsk f l k:=by
 rw[rg hk,e]
 apply List.ext_getElem?
 intro i
 rw[List.getElem?_set]
 split
 ·rename_i h;subst h
  rw[yC hk];simp[ui,hk]
 ·rfl
theorem CW(f:Option Nat→Option Nat)(l:List (Option Nat)){k:Nat}(hk:l.length≤k):hsk f l k=l.map f:=by unfold hsk;rw[List.take_of_length_le hk,List.drop_eq_nil_of_le hk,List.append_nil]
theorem zD(B:World)(Fr:List HP)(bm:Nat)(M:Md)(hW:MdW M 999999):
 ∀ w,Holds B (dI bm M::Fr) w→Calls Tryz.prog 87 [ptr bm].toArray w (Ret B (fun r H'=>r=i64 M.abort.1∧H'=dI bm M.abort.2::Fr) (fun _ _=>False)):=by
 refine au func87 aa ntmps87 aa ?_
 have hul:=hW.ul
 have hhl:=hW.hl
 have hfl:M.fresh.length≤1000000:=by have:=hW.fl;omega
 refine fC fun rv hv sv fv uv=>(ac (ab (kPa aa aa (ad (ac (ac (ab (kPm aa aa (kPv (ak aa) aa (kPv (aj (m:=_) ew aa aa) aa (kPv (ae isAgg4 aa aa) aa ?_)))))))))))
 refine kPv (bF aa) aa (ad ?_)
 refine aW aa (fun h10=> ?_) (fun h10=> ?_)
 ·have q10:¬ M.o=true:=by simpa using h10
  refine ac (ab (kPa aa aa (ad (az ?_))))
  exact ax results87 aa (fun w hw=>⟨_,⟨by unfold Md.abort;rw[if_pos q10],by unfold Md.abort;rw[if_pos q10]⟩,bj (M:=M) hw⟩)
 ·have q10:¬ ¬ M.o=true:=by simpa using h10
  refine ay (ac (ac (aJ [5] (cI fun qu quc hqu qui=> ?_))))
  subst hqu
  refine aJ [1,1,1,1,1] (ab (kPm aa aa (kPv (ak aa) aa (kPv (aj (m:=_) gb aa aa) aa (kPv (ae isAgg43 aa aa) aa (kPv (bY aa runUnderlying43 ⟨_,rfl⟩ rfl) aa (kPv (cU aa aa) aa (kPa aa aa (ad (ao [3,2,0] rfl (aO ?_)))))))))))
  refine cR (ι:=Nat×Md×Int) [2,0] (fun (k,M1,i)=>(k≤M.undo.length∧i=(k:Int) - 1)∧(M1=M.back k)∧(MdW M1 999999)∧(M1.undo=M.undo∧M1.ids=M.ids)) (fun (k,M1,i)=>[(3,i64 i)]) (fun (k,M1,i)=>cx bm M1 rv hv sv fv (.slice qu M.undo.length quc)::VN rv M1.roots::VN hv M.hs::VK sv M.seen::VN fv M.fresh::VU (.slice qu M.undo.length quc) M.undo::cB M1.ids M1.g::iZ bm M.undo::Fr) (fun (k,M1,i)=>k) (M.undo.length,M,(M.undo.length:Int) - 1) (⟨⟨Nat.le_refl _,rfl⟩,(B7 M).symm,hW,rfl,rfl⟩) (fun a w st=>st.to ⟨rfl,trivial⟩ (fun hh=>hh)) ?_
  rintro⟨k,M1,i⟩ ⟨hk,hM,hW1,hsm⟩
  try simp only at hk hM hW1 hsm ⊢
  refine cg (σ':=[(3,i64 i),(2,_),(0,_)]) (aF aa) (ac (ac (ab (kPm aa aa (kPv (an aa aa aa) aa (ad ?_))))))
  refine aW aa (fun h18=> ?_) (fun h18=> ?_)
  ·have hi0:0≤i:=by simpa using h18
   obtain⟨j,rfl⟩:∃ j,k=j+1:=⟨k - 1,by omega⟩
   have hj:j<M.undo.length:=by omega
   have hju:M.undo[j]? =some M.undo[j]:=List.getElem?_eq_getElem hj
   have huw:M.undo[j].W M1:=hW1.uw _ (by rw[hsm.1];exact List.getElem_mem hj)
   obtain⟨o1,o2,rfl⟩:=qui j hj
   have hrs:=nk M1 M.undo[j]
   have hbs:M.undo[j].run M1=M.back j:=by rw[z8 hj,hM]
   refine ay (ac (aO (ab (kPm aa aa (kPv (ak aa) aa (kPv (aj (m:=_) gb aa aa) aa (kPv (ae isAgg43 aa aa) aa (kPm aa aa (kPv (tE (m:=o2+j) runUnderlying43 sizeOf1 aa aa (by omega) (by omega) (by omega)) aa (kPv (bX (v:= .func (.func M.undo[j].fn) #[] M.undo[j].caps.toArray) isAgg1 (dw (f:=fun u:Un=> .func (.func u.fn) #[] u.caps.toArray) (q:=some ⟨o1,o2,none⟩) (cap:=quc) (xs:=M.undo) m7 5 aa) aa (by simp[hj])) aa (aJ [7] ?_)))))))))))
   refine aK (fun w hh=>Ar hju hh) (aJ [0,1,1,5] ?_)
   refine aY aa (ku (f:=M.undo[j].fn) (fi:=[]) (ca:=M.undo[j].caps) (Co _) aa aa) (ET B _ bm M1 _ _ _ _ _ hW1 M.undo[j] huw) .free aa aa ?_ ?_
   rotate_left
   ·rintro _ _ ⟨⟩
   rintro _ _ ⟨rfl,rfl⟩
   refine aJ [0,3] (aK (fun w hh=>Cl hju hh) (ad (ao [3,2,0] rfl (ab (kPm aa aa (kPv (cU aa aa) aa (kPa aa aa (ad ?_))))))))
   exact fun a w st_=>⟨(j,M.undo[j].run M1,i - 1),⟨⟨by omega,by simp only;omega⟩,hbs,hW1.run huw,hrs.1.trans hsm.1,hrs.2.1.trans hsm.2⟩,by simp only;omega,st_.to (aF aa) (fun hh=>(hh.pk [1,1,2,2,2,2,1]))⟩
  ·have hi0:¬ 0≤i:=by simpa using h18
   have hk0:k=0:=by omega
   subst hk0
   refine bT (ac (ac ?_))
   have hfi:InL M1.ids M.fresh:=by rw[hsm.2];exact hW.fi
   refine aJ [2] (cI fun qh qhc hqh qhi=> ?_)
   subst hqh
   refine aJ [1,1,0] (ab (kPm aa aa (kPv (ak aa) aa (kPv (aj (m:=_) eK aa aa) aa (kPv (ae isAgg41 aa aa) aa (kPv (bY aa runUnderlying41 ⟨_,rfl⟩ rfl) aa (kPm aa aa (ad (aO (cR (ι:=Nat) [33,32,2,0] (fun k=>(k≤M.hs.length)) (fun k=>[(34,i64 k)]) (fun k=>cx bm M1 rv (.slice qh M.hs.length qhc) sv fv (.slice qu M.undo.length quc)::VN rv M1.roots::VN (.slice qh M.hs.length qhc) (hsk (iU M.fresh) M.hs k)::VK sv M.seen::VN fv M.fresh::VU (.slice qu M.undo.length quc) M.undo::cB M1.ids M1.g::iZ bm M.undo::Fr) (fun k=>M.hs.length - k) (0) (Nat.zero_le _) (fun a w st=>st.to ⟨rfl,trivial⟩ (fun hh=>hh)) ?_))))))))))
   rintro k hk3
   try simp only at hk3 ⊢
   refine cg (σ':=[(34,i64 k),(33,_),(32,_),(2,_),(0,_)]) (aF aa) (ac (ab (kPv (an aa aa aa) aa (ad (ac ?_)))))
   refine aW aa (fun h35=> ?_) (fun h35=> ?_)
   ·have hk2:k<M.hs.length:=by simpa using h35
    obtain⟨o3,o4,rfl⟩:=qhi k hk2
    have hx2:∀ b,M.hs[k]=some b→b∈M1.ids:=fun b e=>by rw[hsm.2];exact hW.hi.get hk2 b e
    refine ay (ac (aO (ac (ab (kPm aa aa (kPv (bZ runUnderlying41 sizeOf136 aa aa (by omega) (by omega)) aa ?_))))))
    refine kPv (bX (v:=pn M.hs[k]) isAgg136 (dw (f:=pn) (q:=some ⟨o3,o4,none⟩) (cap:=qhc) (xs:=hsk (iU M.fresh) M.hs k) gy 2 (by rw[ui];rfl)) aa (by rw[Int.toNat_natCast,List.getElem?_map,yC hk2];rfl)) aa ?_
    refine kPa aa aa (kPa aa aa (ad (ac (ab (kPm aa aa (kPv (ak aa) aa (kPv (aj (m:=_) mj aa aa) aa (kPv (ae isAgg41 aa aa) aa (kPm aa aa (aE aa (aA call147 aa) (cY [4,5] [2,2,2,2,0,1] (xz B _ M1.ids M1.g fv M.fresh hfl hfi _ hx2)) .free aa aa ?_))))))))))
    refine kPm aa aa ?_
    apply dr (tp:=48) (t:=45) (σ1:=[(45,_),(4,_),(34,_),(33,_),(32,_),(2,_),(0,_)]) 3 rfl (aF rfl)
    ·intro hg1
     refine aq aa (ap aa) (.on aa aa (ah hg1)) aa aa (aq aa (oM runUnderlying136 aa aa aa) (.on aa aa (ah hg1)) aa aa (kPv (aH aa hg1 aa) aa ?_))
     exact ba aa (aF aa) (cV hg1)
    ·intro hg1
     refine ar aa (.on aa aa (ai hg1)) aa (ar aa (.on aa aa (ai hg1)) aa (kPv (aL aa hg1 aa) aa ?_))
     exact ba aa (aF aa) (cW hg1)
    refine ad ?_
    refine aW aa (fun h48=> ?_) (fun h48=> ?_)
    ·have hd:iU M.fresh M.hs[k]=none:=by
      unfold iU
      rw[if_pos ?_]
      rw[←Option.isSome_iff_ne_none]
      simpa using h48
     refine ab (kPm aa aa (kPv (ak aa) aa (kPv (aj (m:=_) eK aa aa) aa (kPv (ae isAgg41 aa aa) aa (kPm aa aa (kPv (bZ runUnderlying41 sizeOf136 aa aa (by omega) (by omega)) aa (aJ [2] (aD aa (gF (f:=pn) (v:=none) sizeOf136 aa aa aa aa (by rw[ui];omega)) .free aa ?_))))))))
     rintro _ _ rfl
     refine ad (ao [34,33,32,2,0] rfl (ab (kPv (aS aa aa) aa (kPm aa aa (ad ?_)))))
     exact fun a w st_=>⟨k+1,by omega,by omega,st_.to (aF aa) (fun hh=>by first | (rw[rg hk2,hd];exact(hh.pk [1,1])) | (rw[vD hk2 hd];exact(hh.pk [1,1])))⟩
    ·have hd:iU M.fresh M.hs[k]=M.hs[k]:=by
      unfold iU
      rw[if_neg ?_]
      rw[←Option.isSome_iff_ne_none]
      intro ⟨e1,e2⟩
      simp[e1] at h48
      simp[h48] at e2
     refine ay (ab (kPv (aS aa aa) aa (kPm aa aa (ad ?_))))
     exact fun a w st_=>⟨k+1,by omega,by omega,st_.to (aF aa) (fun hh=>by first | (rw[rg hk2,hd];exact hh) | (rw[vD hk2 hd];exact hh))⟩
   ·have hk2:¬ k<M.hs.length:=by simpa using h35
    refine bT (ac (ab (kPm aa aa (kPm aa aa (kPv (ak aa) aa (kPv (aj (m:=_) ew aa aa) aa (aD aa (aR sizeOf4 aa aa aa aa) .free aa ?_)))))))
    rintro _ _ rfl
    refine kPv (ak aa) aa (kPv (aj (m:=_) iY aa aa) aa ?_)
    refine aD aa (aR sizeOf42 aa aa (by first | rfl | assumption) rfl) .free rfl ?_
    rintro _ _ rfl
    refine ad (ao [2] rfl (ac (ab (kPa aa aa (ad (az ?_))))))
    exact ax results87 aa (fun w hw=>⟨_,⟨by unfold Md.abort;rw[if_neg q10],by unfold Md.abort;rw[if_neg q10]⟩,(by have h9:=(hw.dp [3]);rw[CW _ _ (by omega)] at h9;have h8:=(fX (T:=198) (m:=2) (enc:=mP) h9).pk [1,1,1];subst hM;rw[Dz];exact bj h8)⟩)
def mkC(l r s:Int):Cfg:=⟨1+r%6+2+l%12,1+r%6,8+s%90⟩
theorem vq{l r s:Int}(hl:0≤l)(hr:0≤r)(hs:0≤s):bC (mkC l r s):=⟨by simp only[mkC];omega,by simp only[mkC];omega,by simp only[mkC];omega,by simp only[mkC];omega,by simp only[mkC];omega,by simp only[mkC];omega⟩
abbrev u16(x:Int):Value:= .int .u16 x
theorem nn{a:Int}(k:Int)(h:0≤a):a.tmod k=a%k:=Int.tmod_eq_emod_of_nonneg h
theorem yr(B:World)(H:List HP)(l r s:Int)(hl:0≤l)(hr:0≤r)(hs:0≤s):
 ∀ w,Holds B H w→Calls Tryz.prog 48 [.agg #[u16 l,u16 r,u16 s]].toArray w (bB B H (eO (mkC l r s))):=by
 refine au func48 aa ntmps48 aa (ac (ab (aC aa (bx aa) .free aa aa ?_)))
 rintro _ _ ⟨b1,rfl,rfl⟩
 refine aC aa (aN zeroValue40 aa) .free aa aa ?_
 rintro _ _ ⟨b2,rfl,rfl⟩
 refine ad (ac (ab (kPv (aj (m:=_) Dl aa aa) aa (kPv (ae isAgg22 aa aa) aa (kPv (im (c:=r%6) aa aa (by decide) (nn 6 (by omega))) aa (kPv (bP runUnderlying22 runUnderlying3 aa) aa (kPv (aS aa aa) aa (kPa aa aa (ad (ac (ab ?_)))))))))))
 refine kPm aa aa (kPm aa aa (kPv (aS aa aa) aa (kPv (aj (m:=_) Dm aa aa) aa (kPv (ae isAgg22 aa aa) aa (kPv (im (c:=l%12) aa aa (by decide) (nn 12 (by omega))) aa (kPv (bP runUnderlying22 runUnderlying3 aa) aa (kPv (aS aa aa) aa (kPv (aj (m:=_) Dk aa aa) aa (kPv (ae isAgg22 aa aa) aa (kPv (im (c:=s%90) aa aa (by decide) (nn 90 (by omega))) aa (kPv (bP runUnderlying22 runUnderlying3 aa) aa ?_)))))))))))
 refine kPv (aS aa aa) aa (kPv (aZ aa (uG _ _ _ aa aa aa)) aa (aD aa (aI (vs:=_) sizeOf40 aa aa aa aa aa) .free aa ?_))
 rintro _ _ rfl
 refine ad (ao [2] rfl (az ?_))
 exact sQ results48 (.cellA aa isAgg40 sizeOf40 aa aa) (fun w hw=>⟨rfl,hw.tail.tail⟩)
theorem A7(B:World)(H:List HP)(l r s:Int)(c:Cfg)(hc:c=mkC l r s)(hl:0≤l)(hr:0≤r)(hs:0≤s):∀ w,Holds B H w→Calls Tryz.prog 48 [.agg #[u16 l,u16 r,u16 s]].toArray w (bB B H (eO c)):=by subst hc;exact yr B H l r s hl hr hs
abbrev dy(b:Nat)(x:Value×List Int):HP:=eP 26 w64 b x
theorem gK{a b:Int}{sv:Value}(h:aV sv=true):([i64 a,i64 b,sv]:List Value).all aV=true:=by
 simp only[List.all_cons,List.all_nil,h];rfl
theorem Fh{v f:Int}(h:decide (v≥f)=true)(h1:0≤f)(h2:v<18446744073709551616):IntKind.u64.wrap (v - f)=v - f:=by
 have h9:f≤v:=by simpa using h
 exact fW (by omega)
abbrev mW(b:Blk)(sv:Value):Value:= .agg #[i64 b.act,i64 b.used,sv]
theorem je(B:World)(H:List HP)(c:Cfg)(hc:bC c)(b:Blk)(sv:Value)(hb:fg c b)(hsv:aV sv=true)(i:Int)(hi: -1000000000000≤i∧i≤1000000000000):
 ∀ w,Holds B H w→Calls Tryz.prog 112 [mW b sv,eO c,i64 i].toArray w (bB B H (i64 (b.place c i))):=by
 refine au func112 aa ntmps112 aa ?_
 have hb1:=hb.act
 have hb2:=hb.used
 have hfb:=gE hc (k:=b.act) (by omega)
 have hcs:=hc.s2
 refine ac (ab (aC aa (bx aa) .free aa aa ?_))
 rintro _ _ ⟨b3,rfl,rfl⟩
 refine aC aa (bx aa) .free aa aa ?_
 rintro _ _ ⟨b4,rfl,rfl⟩
 refine kPa aa aa (ad (ac (ab (kPv (am isAgg40 sizeOf40 aa aa) aa ?_))))
 refine kPv (aj (m:=_) lj aa aa) aa (kPv (ae isAgg3 aa aa) aa (aE aa (aA call140 aa) (lh _ _ c hc b.act hb.act.1 (by have:=hb.act.2;omega)) .free aa aa ?_))
 refine kPm aa aa (kPv (aS aa aa) aa (kPa aa aa (ad (ao [6] rfl (az ?_)))))
 exact ax results112 aa (fun w hh=>⟨rfl,hh.tail.tail⟩)
theorem rq(B:World)(H:List HP)(c:Cfg)(hc:bC c)(b:Blk)(sv:Value)(hb:fg c b)(hsv:aV sv=true)(v:Int)(hv:0≤v∧v<18446744073709551616):
 ∀ w,Holds B H w→Calls Tryz.prog 135 [mW b sv,eO c,w64 v].toArray w (bB B H (.bool (b.has c v))):=by
 refine au func135 aa ntmps135 aa ?_
 have hb1:=hb.act
 have hb2:=hb.used
 have hfb:=gE hc (k:=b.act) (by omega)
 have hcs:=hc.s2
 refine ac (ab (aC aa (bx aa) .free aa aa ?_))
 rintro _ _ ⟨b3,rfl,rfl⟩
 refine aC aa (bx aa) .free aa aa ?_
 rintro _ _ ⟨b4,rfl,rfl⟩
 refine kPa aa aa (ad (ac (ab (kPv (am isAgg40 sizeOf40 aa aa) aa ?_))))
 refine kPv (aj (m:=_) lj aa aa) aa (kPv (ae isAgg3 aa aa) aa (aE aa (aA call140 aa) (lh _ _ c hc b.act hb.act.1 (by have:=hb.act.2;omega)) .free aa aa ?_))
 refine kPv (bP runUnderlying3 runUnderlying26 aa) aa (kPa aa aa (ad (ao [7,6,3,2] rfl (ac (ab (kPm aa aa (kPm aa aa (kPv (an aa aa aa) aa (kPm aa aa ?_)))))))))
 apply dr (tp:=24) (t:=16) (σ1:=[(16,_),(6,_)]) 8 rfl ⟨rfl,rfl,trivial⟩
 ·intro hg1
  refine aq aa (ap aa) (.on aa aa (ah hg1)) aa aa (aq aa (ap aa) (.on aa aa (ah hg1)) aa aa (aq aa (rH (c:=v - c.frm b.act) aa aa (Fh hg1 (by omega) (by omega))) (.on aa aa (ah hg1)) aa aa (aq aa (aj (m:=_) fj aa aa) (.on aa aa (ah hg1)) aa aa (aq aa (ae isAgg3 aa aa) (.on aa aa (ah hg1)) aa aa (aq aa (bP runUnderlying3 runUnderlying26 aa) (.on aa aa (ah hg1)) aa aa (aq aa (an aa aa aa) (.on aa aa (ah hg1)) aa aa (kPv (aH aa hg1 aa) aa ?_)))))))
  exact ba aa ⟨rfl,rfl,trivial⟩ (cV hg1)
 ·intro hg1
  refine ar aa (.on aa aa (ai hg1)) aa (ar aa (.on aa aa (ai hg1)) aa (ar aa (.on aa aa (ai hg1)) aa (ar aa (.on aa aa (ai hg1)) aa (ar aa (.on aa aa (ai hg1)) aa (ar aa (.on aa aa (ai hg1)) aa (ar aa (.on aa aa (ai hg1)) aa (kPv (aL aa hg1 aa) aa ?_)))))))
  exact ba aa ⟨rfl,rfl,trivial⟩ (cW hg1)
 refine kPa aa aa (ad (az ?_))
 exact ax results135 aa (fun w hh=>⟨by rfl,hh.tail.tail⟩)
theorem Av{α:Type}{n:Nat}{f:Nat→α}:tab (n+1) f=tab n f++[f n]:=by simp[tab,List.range_succ]
theorem Ce{c:Cfg}(hc:bC c):24≤c.active∧c.active+2+c.roots≤c.words∧c.words≤20000:=by
 have h1:=gE hc (k:=0) (by decide)
 have h2:=hc.act
 have:=hc.r1
 have:=hc.l1
 omega
theorem gL(B:World)(Fr:List HP)(bd:Nat)(s:Dev)(c:Cfg)(hc:bC c)(hu:U64 s):
 ∀ w,Holds B (aG bd s::Fr) w→Calls Tryz.prog 111 [ptr bd,eO c].toArray w (Ret B (fun rv H'=>∃ sv,aV sv=true∧rv= .tuple #[mW (s.block c).1 sv,i64 (s.block c).2]∧H'=dy 0 (sv,(s.block c).1.rts)::aG bd s::Fr) (fun _ _=>False)):=by
 refine au func111 aa ntmps111 aa ?_
 obtain⟨hA1,hA2,hA3⟩:=Ce hc
 have hl1:=hu.load c.active
 have hl2:=hu.load (c.active+1)
 have hr1:=hc.r1
 have hr2:=hc.r2
 have hs2:=hc.s2
 have hs1:=hc.s1
 obtain⟨nr,hnr⟩:∃ nr:Nat,(nr:Int)=c.roots:=⟨c.roots.toNat,by omega⟩
 have hnr2:c.roots.toNat=nr:=by omega
 refine ac (ab (aC aa (bx aa) .free aa aa ?_))
 rintro _ _ ⟨b3,rfl,rfl⟩
 refine aC aa (aN zeroValue95 aa) .free aa aa ?_
 rintro _ _ ⟨b4,rfl,rfl⟩
 refine kPa aa aa (ad (ac (cK Tryz.mixed (by kernel_rfl) (by kernel_rfl) ?_)))
 refine kQm aa aa (kQv (am isAgg40 sizeOf40 aa aa) aa ?_)
 refine bH aa (aA call117 aa) (gI _ _ c hc) .free aa ?_
 refine bH aa (aA call71 aa) (bU (q:=aG) (fun Fr=>cH _ Fr _ _ _)) .free aa ?_
 refine kQm aa aa (kQv (am isAgg40 sizeOf40 aa aa) aa ?_)
 refine bH aa (aA call115 aa) (wc _ _ c hc) .free aa ?_
 refine bH aa (aA call71 aa) (bU (q:=aG) (fun Fr=>cH _ Fr _ _ _)) .free aa ?_
 refine kQa aa aa (kQa aa aa (bR (ao [7,6,5,4,3,0] rfl (ac (ac (ab (kPm aa aa (kPv (an aa aa aa) aa (kPm aa aa ?_)))))))))
 apply gl (tp:=26) (t:=20) (σ1:=[(20,_),(7,_),(6,_),(5,_),(4,_),(3,_),(0,_)]) 6 rfl (aF rfl)
 ·intro hg1
  refine aq aa (ap aa) (.on aa aa (ah hg1)) aa aa (aq aa (aj (m:=_) dX aa aa) (.on aa aa (ah hg1)) aa aa (aq aa (ae isAgg3 aa aa) (.on aa aa (ah hg1)) aa aa (aq aa (bP runUnderlying3 runUnderlying26 aa) (.on aa aa (ah hg1)) aa aa (aq aa (an aa aa aa) (.on aa aa (ah hg1)) aa aa (kPv (aL aa hg1 aa) aa ?_)))))
  exact ba aa (aF aa) (eZ hg1)
 ·intro hg1
  refine ar aa (.on aa aa (ai hg1)) aa (ar aa (.on aa aa (ai hg1)) aa (ar aa (.on aa aa (ai hg1)) aa (ar aa (.on aa aa (ai hg1)) aa (ar aa (.on aa aa (ai hg1)) aa (kPv (aH aa hg1 aa) aa ?_)))))
  exact ba aa (aF aa) (eY hg1)
 refine ad ?_
 refine aW aa (fun h26=> ?_) (fun h26=> ?_)
 ·have hbad:1<s.load c.active∨c.space<s.load (c.active+1):=by simpa using h26
  have hblk:s.block c=(⟨0,0,[]⟩,10):=by unfold Dev.block;rw[if_pos hbad]
  refine ac (ab (kPv (aZ aa (EI)) aa ?_))
  refine aD aa (aI (vs:=_) sizeOf95 aa aa aa (by first | rfl | exact gK (by assumption)) rfl) .free rfl ?_
  rintro _ _ rfl
  refine kPa aa aa (ad (az ?_))
  exact iR results111 (.cellA aa isAgg95 sizeOf95 aa aa) (.tmp aa) (fun w hh=>⟨_,⟨.slice none 0 0,rfl,by rw[hblk];rfl,rfl⟩,by rw[hblk];exact kG hh.tail.tail⟩)
 ·have hgd:¬(1<s.load c.active∨c.space<s.load (c.active+1)):=by simpa using h26
  have hblk:s.block c=(⟨s.load c.active,s.load (c.active+1),tab nr fun i=>s.load (c.root i)⟩,0):=by unfold Dev.block;rw[if_neg hgd,hnr2]
  refine ay (ac (ab (kPm aa aa (kPv (bP runUnderlying26 runUnderlying3 aa) aa (kPm aa aa (kPv (bP runUnderlying26 runUnderlying3 aa) aa (kPv (aZ aa (rT _ _ aa aa)) aa (aC aa (aN zeroValue95 aa) .free aa aa ?_))))))))
  rintro _ _ ⟨b8,rfl,rfl⟩
  refine aD aa (aI (vs:=_) sizeOf95 aa aa aa (by first | rfl | exact gK (by assumption)) rfl) .free rfl ?_
  rintro _ _ rfl
  refine ad (ao [8,5,4,3,0] rfl (ac (ac (ab (kPv (aj (m:=_) fm aa aa) aa (kPv (ae isAgg3 aa aa) aa (kPm aa aa (ad (aO (dY (ι:=Nat×Value) (fun i=>i.1≤nr∧aV i.2=true) (fun i=>[(0,ptr bd),(3,ptr b3),(4,ptr b4),(5,i64 0),(8,ptr b8),(34,i64 c.roots),(35,i64 i.1)]) (fun i=>dy 0 (i.2,tab i.1 fun j=>s.load (c.root j))::row b8 [i64 (s.load c.active),i64 (s.load (c.active+1)),i.2] 95::row b4 [i64 0,i64 0,.slice none 0 0] 95::row b3 [i64 c.log,i64 c.roots,i64 c.space] 40::aG bd s::Fr) (fun i=>nr - i.1) (0,.slice none 0 0) ⟨Nat.zero_le _,rfl⟩ (fun a w st=>st.to ⟨rfl,rfl,rfl,rfl,rfl,rfl,rfl,trivial⟩ (fun hh=>kG hh)) ?_))))))))))
  rintro⟨k,sv⟩ ⟨hk0,hsv⟩
  simp only at hk0 hsv ⊢
  refine ac (ab (kPv (an aa aa aa) aa (ad (ac ?_))))
  refine aW aa (fun h36=> ?_) (fun h36=> ?_)
  ·have hk:k<nr:=by simp at h36;omega
   refine ay (ac (aO (ac (ab (kPm aa aa (kPa aa aa (ad (cM [0,1,2,3,4,5,6,7,8,9,10] [5,6,7,8,10] [0,1,2] [5,6,7] [row b8 [i64 (s.load c.active),i64 (s.load (c.active+1)),sv] 95] Tryz.mixed (by kernel_rfl) ?_))))))))
   refine al aa aa aa (aj (m:=_) gM aa aa) .free aa (al aa aa aa (ae isAgg25 aa aa) .free aa (al aa aa aa (ap aa) .free aa (aT aa aa aa (am isAgg40 sizeOf40 aa aa) .free aa ?_)))
   refine aT aa aa aa (ap aa) .free aa (aU aa aa (aE aa (aA call59 aa) (kN _ _ c hc _ (by omega) (by omega)) .free aa aa ?_))
   refine ad (cN (aU aa aa (aE aa (aA call71 aa) (bU (q:=aG) (fun Fr=>cH _ Fr _ _ _)) .free aa aa ?_)))
   refine ad (cN (aU aa aa (aC aa (iQ runUnderlying25 sizeOf26 zeroValue26 aa aa aa) .free aa aa ?_)))
   rintro _ _ ⟨b1,rfl,rfl⟩
   refine dT 1 aa ?_
   simp only[List.eraseIdx_cons_succ,List.eraseIdx_cons_zero]
   refine ad (cN (aU aa aa (aC aa (iw aa aa runUnderlying25 runUnderlying25 ⟨_,rfl⟩ sizeOf26 zeroValue26 aa (fun _=>rfl) iy aa aa (by rw[bu];omega)) .free aa aa ?_)))
   rintro sv2 _ ⟨hsv2,rfl⟩
   refine ad (c9 aa (aT aa aa aa (aj (m:=_) gM aa aa) .free aa (aU aa aa (aD aa (aR sizeOf25 aa aa hsv2 aa) .free aa ?_))))
   rintro _ _ rfl
   refine ad (c9 aa (cJ (ao [35,34,8,5,4,3,0] rfl (ab (kPv (aS aa aa) aa (kPm aa aa (ad ?_)))))))
   exact fun a w st=>⟨(k+1,sv2),⟨by simp only;omega,hsv2⟩,by simp only;omega,st.to ⟨rfl,rfl,rfl,rfl,rfl,rfl,rfl,trivial⟩ (fun hh=>by rw[←Av] at hh;exact hh)⟩
  ·have hk:¬ k<nr:=by simp at h36;omega
   obtain rfl:k=nr:=by omega
   refine bT (ac (ab (kPv (am isAgg95 sizeOf95 aa aa) aa ?_)))
   refine aD aa (aI (vs:=[i64 (s.load c.active),i64 (s.load (c.active+1)),sv]) sizeOf95 aa aa aa (gK hsv) aa) .free aa ?_
   rintro _ _ rfl
   refine kPa aa aa (ad (ao [5,4] rfl (az ?_)))
   exact iR results111 (.cellA aa isAgg95 sizeOf95 aa aa) (.tmp aa) (fun w hh=>⟨_,⟨sv,hsv,by rw[hblk];rfl,rfl⟩,by rw[hblk];exact(((hh.front 3 aa).front 3 aa).front 3 aa).tail.tail.tail⟩)
abbrev iF(o:du):Value:= .agg #[i64 o.1,i64 o.2.1,i64 o.2.2]
theorem E1{x:Int}(h:decide (x<0)=false):0≤x:=by simpa using h
theorem xB{w r:Int}(h:lA w r=0):0≤w∧w≤64∧0≤r∧r≤w:=by
 unfold lA at h
 split at h
 ·assumption
 ·cases h
theorem sE(v:Int):0≤(unp v).1∧(unp v).1≤64∧0≤(unp v).2.1∧(unp v).2.1≤(unp v).1:=by
 unfold unp
 split
 ·rename_i h;exact xB h.1
 ·exact⟨by decide,by decide,by decide,by decide⟩
theorem lL(B:World)(Fr:List HP)(bd:Nat)(s:Dev)(c:Cfg)(hc:bC c)(b:Blk)(sv:Value)(hb:fg c b)(hsv:aV sv=true)(at_:Int)(hat: -9223372036854775808≤at_∧at_≤9223372036854775807):
 ∀ w,Holds B (aG bd s::Fr) w→Calls Tryz.prog 122 [ptr bd,eO c,mW b sv,i64 at_].toArray w (bB B (aG bd s::Fr) (.tuple #[iF (s.objOf c b at_).1,i64 (s.objOf c b at_).2])):=by
 refine au func122 aa ntmps122 aa ?_
 have hb1:=hb.act
 have hb2:=hb.used
 have hcs:=hc.s2
 have hub:=sE (s.load at_)
 have hfb:=gE hc (k:=b.act) (by omega)
 refine ac (ab (aC aa (bx aa) .free aa aa ?_))
 rintro _ _ ⟨b5,rfl,rfl⟩
 refine aC aa (bx aa) .free aa aa ?_
 rintro _ _ ⟨b6,rfl,rfl⟩
 refine aC aa (aN zeroValue105 aa) .free aa aa ?_
 rintro _ _ ⟨b8,rfl,rfl⟩
 refine kPa aa aa (ad (ac (ac (ab (kPm aa aa (kPv (an aa aa aa) aa (kPm aa aa ?_)))))))
 apply gl (tp:=21) (t:=14) (σ1:=[(14,_),(9,_),(8,_),(6,_),(5,_),(0,_),(3,_)]) 7 rfl (aF rfl)
 ·intro hg1
  refine aq aa (am isAgg95 sizeOf95 aa aa) (.on aa aa (ah hg1)) aa aa ?_
  refine aq aa (am isAgg40 sizeOf40 aa aa) (.on aa aa (ah hg1)) aa aa ?_
  refine aq aa (ap aa) (.on aa aa (ah hg1)) aa aa (aq aa (dh runUnderlying3 runUnderlying26 aa (fW ⟨E1 hg1,by omega⟩)) (.on aa aa (ah hg1)) aa aa (aE aa (aA call135 aa) (rq _ _ c hc b sv hb hsv _ ⟨E1 hg1,by omega⟩) (.on aa aa (ah hg1)) aa aa ?_))
  refine aq aa (bF aa) (.on aa aa (ah hg1)) aa aa (kPv (aL aa hg1 aa) aa ?_)
  exact ba aa (aF aa) (eZ hg1)
 ·intro hg1
  refine ar aa (.on aa aa (ai hg1)) aa (ar aa (.on aa aa (ai hg1)) aa (ar aa (.on aa aa (ai hg1)) aa (ar aa (.on aa aa (ai hg1)) aa (ar aa (.on aa aa (ai hg1)) aa (ar aa (.on aa aa (ai hg1)) aa (kPv (aH aa hg1 aa) aa ?_))))))
  exact ba aa (aF aa) (eY hg1)
 refine ad ?_
 refine aW aa (fun h21=> ?_) (fun h21=> ?_)
 ·have hbad:at_<0∨b.has c at_=false:=by simpa using h21
  have hres:s.objOf c b at_=((0,0,0),6):=by unfold Dev.objOf;rw[if_pos hbad]
  refine ac (ab (kPv (aZ aa (uH)) aa (aD aa (aI (vs:=_) sizeOf105 aa aa aa aa aa) .free aa ?_)))
  rintro _ _ rfl
  refine kPa aa aa (ad (az ?_))
  exact iR results122 (.cellA aa isAgg105 sizeOf105 aa aa) (.tmp aa) (fun w hh=>⟨by rw[hres];rfl,hh.tail.tail.tail⟩)
 ·have hgd:¬(at_<0∨b.has c at_=false):=by simpa using h21
  have hat2:=jX hc hb (w:=at_) (by cases hh:b.has c at_ with
   | true=>rfl
   | false=>exact absurd (.inr hh) hgd)
  have hplace:b.place c b.used=c.frm b.act+b.used:=rfl
  refine ay (ac (ab (kPm aa aa (kPm aa aa (aE aa (aA call71 aa) (bU (q:=aG) (fun Fr=>cH _ Fr _ _ _)) .free aa aa ?_)))))
  refine aE aa (aA call158 aa) (j0 _ _ _) .free aa aa ?_
  refine kPm aa aa (kPv (aB aa aa) aa (kPv (aB aa aa) aa (aC aa (aN zeroValue38 aa) .free aa aa ?_)))
  rintro _ _ ⟨b10,rfl,rfl⟩
  refine aD aa (aI (vs:=_) sizeOf38 aa aa aa aa aa) .free aa ?_
  rintro _ _ rfl
  refine kPa aa aa (ad (ao [11,10,9,8,6,5,3] rfl (ac (ac (cK Tryz.mixed (by kernel_rfl) (by kernel_rfl) ?_)))))
  refine kQm aa aa (kQv (bF aa) aa (kQm aa aa ?_))
  apply AM (tp:=43) (t:=32) (σ1:=[(32,_),(10,_),(9,_),(8,_),(3,_)]) 11 rfl (aF rfl)
  ·intro hg2
   refine bA aa (am isAgg38 sizeOf38 aa aa) (.on aa aa (ah hg2)) aa ?_
   refine bH aa (aA call114 aa) (fB _ _ _ _ (by omega)) (.on aa aa (ah hg2)) aa ?_
   refine bA aa (am isAgg95 sizeOf95 aa aa) (.on aa aa (ah hg2)) aa ?_
   refine bA aa (am isAgg40 sizeOf40 aa aa) (.on aa aa (ah hg2)) aa ?_
   refine bA aa (aj (m:=_) fj aa aa) (.on aa aa (ah hg2)) aa (bA aa (ae isAgg3 aa aa) (.on aa aa (ah hg2)) aa (bH aa (aA call112 aa) (je _ _ c hc b sv hb hsv _ (by omega)) (.on aa aa (ah hg2)) aa ?_))
   refine bA aa (ap aa) (.on aa aa (ah hg2)) aa (bA aa (cU aa aa) (.on aa aa (ah hg2)) aa (bA aa (an aa aa aa) (.on aa aa (ah hg2)) aa (kQv (aL aa hg2 aa) aa ?_)))
   exact eu aa (aF aa) (eZ hg2)
  ·intro hg2
   refine bf aa (.on aa aa (ai hg2)) aa (bf aa (.on aa aa (ai hg2)) aa (bf aa (.on aa aa (ai hg2)) aa (bf aa (.on aa aa (ai hg2)) aa (bf aa (.on aa aa (ai hg2)) aa (bf aa (.on aa aa (ai hg2)) aa (bf aa (.on aa aa (ai hg2)) aa (bf aa (.on aa aa (ai hg2)) aa (bf aa (.on aa aa (ai hg2)) aa (bf aa (.on aa aa (ai hg2)) aa (kQv (aH aa hg2 aa) aa ?_))))))))))
   exact eu aa (aF aa) (eY hg2)
  refine bR ?_
  refine aW aa (fun h43=> ?_) (fun h43=> ?_)
  ·have hbad:(unp (s.load at_)).2.2=false∨b.place c b.used - at_<(unp (s.load at_)).1+1:=by simpa using h43
   have hres:s.objOf c b at_=((0,0,0),8):=by unfold Dev.objOf;rw[if_neg hgd,if_pos hbad]
   refine ac (ab (kPv (aZ aa (uH)) aa (aD aa (aI (vs:=_) sizeOf105 aa aa aa aa aa) .free aa ?_)))
   rintro _ _ rfl
   refine kPa aa aa (ad (az ?_))
   exact iR results122 (.cellA aa isAgg105 sizeOf105 aa aa) (.tmp aa) (fun w hh=>⟨by rw[hres];rfl,hh.tail.tail.tail.tail⟩)
  ·have hgd2:¬((unp (s.load at_)).2.2=false∨b.place c b.used - at_<(unp (s.load at_)).1+1):=by simpa using h43
   have hres:s.objOf c b at_=(((unp (s.load at_)).1,(unp (s.load at_)).2.1,at_),0):=by unfold Dev.objOf;rw[if_neg hgd,if_neg hgd2]
   refine ay (ac (ab (kPv (am isAgg38 sizeOf38 aa aa) aa ?_)))
   refine kPm aa aa (kPv (aZ aa (wr _ _ _ aa)) aa (aD aa (aI (vs:=_) sizeOf105 aa aa aa aa aa) .free aa ?_))
   rintro _ _ rfl
   refine kPa aa aa (ad (ao [9,8] rfl (az ?_)))
   exact iR results122 (.cellA aa isAgg105 sizeOf105 aa aa) (.tmp aa) (fun w hh=>⟨by rw[hres];rfl,hh.tail.tail.tail.tail⟩)
structure mu(o:du):Prop where
 w:0≤o.1∧o.1≤64
 r:0≤o.2.1∧o.2.1≤o.1
 at_:0≤o.2.2∧o.2.2≤1000000
theorem nM(B:World)(H:List HP)(o:du)(ho:mu o)(i:Int)(ref:Bool):
 ∀ w,Holds B H w→Calls Tryz.prog 123 [iF o,i64 i,.bool ref].toArray w (bB B H (.tuple #[i64 (bS o i ref).1,i64 (bS o i ref).2])):=by
 refine au func123 aa ntmps123 aa ?_
 have h1:=ho.w
 have h2:=ho.r
 have h3:=ho.at_
 refine ac (ab (aC aa (bx aa) .free aa aa ?_))
 rintro _ _ ⟨b3,rfl,rfl⟩
 refine kPa aa aa (kPa aa aa (ad (ac (aO (ac (ab (kPm aa aa (kPv (an aa aa aa) aa (kPm aa aa ?_)))))))))
 apply gl (tp:=17) (t:=11) (σ1:=[(11,_),(7,_),(6,_),(3,_),(1,_),(2,_)]) 6 rfl (aF rfl)
 ·intro hg1
  refine aq aa (ap aa) (.on aa aa (ah hg1)) aa aa (aq aa (aj (m:=_) fD aa aa) (.on aa aa (ah hg1)) aa aa (aq aa (aj (m:=_) fp aa aa) (.on aa aa (ah hg1)) aa aa (aq aa (ae isAgg3 aa aa) (.on aa aa (ah hg1)) aa aa (aq aa (an aa aa aa) (.on aa aa (ah hg1)) aa aa (kPv (aL aa hg1 aa) aa ?_)))))
  exact ba aa (aF aa) (eZ hg1)
 ·intro hg1
  refine ar aa (.on aa aa (ai hg1)) aa (ar aa (.on aa aa (ai hg1)) aa (ar aa (.on aa aa (ai hg1)) aa (ar aa (.on aa aa (ai hg1)) aa (ar aa (.on aa aa (ai hg1)) aa (kPv (aH aa hg1 aa) aa ?_)))))
  exact ba aa (aF aa) (eY hg1)
 refine kPa aa aa (ad ?_)
 refine aW aa (fun h8=> ?_) (fun h8=> ?_)
 ·have hbad:i<0∨o.1≤i:=by simpa using h8
  have hres:bS o i ref=(0,1):=by unfold bS;rw[if_pos hbad]
  refine ac (ab (kPa aa aa (kPa aa aa (ad (az ?_)))))
  exact bg results123 aa aa (fun w hh=>⟨by rw[hres],hh.tail⟩)
 ·have hgd:¬(i<0∨o.1≤i):=by simpa using h8
  refine ac (ab (kPm aa aa (kPv (aj (m:=_) fD aa aa) aa (kPv (aj (m:=_) fP aa aa) aa (kPv (ae isAgg3 aa aa) aa (kPv (an aa aa aa) aa (kPm aa aa (kPv (rN runUnderlying4 aa aa aa) aa (kPa aa aa (ad (ao [18,7,6,3,1] rfl ?_)))))))))))
  refine aW aa (fun h18=> ?_) (fun h18=> ?_)
  ·have hk:decide (i<o.2.1)≠ref:=by simpa using h18
   have hres:bS o i ref=(0,5):=by unfold bS;rw[if_neg hgd,if_pos hk]
   refine ac (ab (kPa aa aa (kPa aa aa (ad (az ?_)))))
   exact bg results123 aa aa (fun w hh=>⟨by rw[hres],hh.tail⟩)
  ·have hk:¬ decide (i<o.2.1)≠ref:=by simpa using h18
   have hres:bS o i ref=(o.2.2+1+i,0):=by unfold bS;rw[if_neg hgd,if_neg hk]
   refine ay (ac (ab (kPv (aj (m:=_) lY aa aa) aa (kPv (ae isAgg3 aa aa) aa (kPv (aS aa aa) aa (kPm aa aa (kPv (aS aa aa) aa (kPa aa aa (kPa aa aa (ad (ao [7,6] rfl ?_)))))))))))
   refine az ?_
   exact bg results123 aa aa (fun w hh=>⟨by rw[hres],hh.tail⟩)
theorem qP(B:World)(Fr:List HP)(bd:Nat)(s:Dev)(o:du)(ho:mu o)(i:Int):
 ∀ w,Holds B (aG bd s::Fr) w→Calls Tryz.prog 72 [iF o,ptr bd,i64 i].toArray w (bB B (aG bd s::Fr) (.tuple #[w64 (s.objRead o i).1,i64 (s.objRead o i).2])):=by
 refine au func72 aa ntmps72 aa (ac (ab (aC aa (bx aa) .free aa aa ?_)))
 rintro _ _ ⟨b3,rfl,rfl⟩
 refine kPa aa aa (kPa aa aa (ad (ac (ab (kPv (am isAgg105 sizeOf105 aa aa) aa ?_)))))
 refine kPm aa aa (aE aa (aA call123 aa) (nM _ _ o ho i _) .free aa aa ?_)
 refine kPm aa aa (kPv (aB aa aa) aa (kPv (aB aa aa) aa (kPa aa aa (kPa aa aa (ad (ao [9,8,7,6,1] rfl (ac (ac (ab (kPm aa aa (kPv (an aa aa aa) aa ?_)))))))))))
 refine ad ?_
 refine aW aa (fun h17=> ?_) (fun h17=> ?_)
 ·have hk:(bS o i false).2≠0:=by simpa using h17
  have hres:s.objRead o i=(0,(bS o i false).2):=by unfold Dev.objRead;rw[if_pos hk]
  refine ac (ab (kPm aa aa (kPa aa aa (kPa aa aa (ad (az ?_))))))
  exact bg results72 aa aa (fun w hh=>⟨by rw[hres]<;>rfl,hh.tail⟩)
 ·have hk:¬ (bS o i false).2≠0:=by simpa using h17
  have hres:s.objRead o i=(s.load (bS o i false).1,0):=by unfold Dev.objRead;rw[if_neg hk]
  refine ay (ac (ab (kPm aa aa (kPm aa aa (aE aa (aA call71 aa) (bU (q:=aG) (fun Fr=>cH _ Fr _ _ _)) .free aa aa ?_)))))
  refine kPa aa aa (kPa aa aa (ad (ao [7,6] rfl (az ?_))))
  exact bg results72 aa aa (fun w hh=>⟨by rw[hres]<;>rfl,hh.tail⟩)
end Go.Proofs.YtlcibdhmgclfjaaGreat
