/- Part of a law's texts. Conditions: none. -/
import Derived.Test.YtipdhkmphngmoaaGreatDoorQL19Fo
import Derived.LaidLaws
import Derived.Lib.LaidTab
import Derived.Stop.LaidErr
import Derived.Shelf.Vars
import Derived.MakeChecks
import Derived.ChangeSame
import Derived.Deep.Slices
import Derived.SizedLaws
import Derived.Stop.Joined
import Derived.Lay
open Go.Proofs.Tryz
set_option linter.all false
namespace Go.Proofs.YtipdhkmphngmoaaGreatDoor
open Go
abbrev eH(bm br n:Nat)(c:Cfg):HP:=row bm [i64 c.log,i64 c.roots,i64 c.space,.slice (some ⟨br,0,none⟩) n n,i64 0,.slice none 0 0,.bool false,.slice none 0 0,.slice none 0 0,.slice none 0 0,i64 (-1),i64 0] 75
abbrev eG(br n:Nat):HP:=row br (List.replicate n (.pointer none)) 284
theorem Bb(B:World)(H:List HP)(c:Cfg)(hc:bx c)(n:Nat)(hn:(n:Int)=c.roots):
 ∀ w,Holds B H w→Calls Tryz.prog 71 [dU c].toArray w (Ret B (fun rv H'=>∃ bm br,rv=ptr bm∧H'=eH bm br n c::eG br n::H) (fun _ _=>False)):=by
 refine ak func71 aa ntmps71 aa ?_
 have hr2:=hc.r2
 refine ac (ab (kPb (aY aa) aa fun b1=>(kPa aa aa (ad (ac (cQ [0,1,2,3,4,5,6] [3,5] [0] [3] [row b1 [i64 c.log,i64 c.roots,i64 c.space] 39] Tryz.mixed (by kernel_rfl) ?_))))))
 refine an aa aa aa (ah isAgg39 sizeOf39 aa aa) .free aa ?_
 refine aT aa aa aa (aC (m:=_) gc aa aa) .free aa (aT aa aa aa (ag isAgg3 aa aa) .free aa (aS aa aa (kPb (kX (n:=n) runUnderlying71 Ck sizeOf284 zeroValue284 aa (by rw[hn];rfl) (by rw[hn];rfl) (by omega)) aa fun br=>(ad (cL ?_)))))
 refine aT aa aa aa (aR aa (rR _ _ _ _ _ (by first | rfl | assumption) rfl)) .free rfl ?_;refine aS aa aa ?_;refine kPb (aY aa) aa fun b8=> ?_;refine ad ?_;refine cZ aa ?_;refine aT aa aa aa (bE aa) .free aa ?_;refine cM ?_;refine aj [2] rfl ?_;refine au ?_
 exact aq results71 aa (fun w hw=>⟨_,⟨b8,br,rfl,rfl⟩,(hw.dp [2])⟩)
theorem zg(B:World)(Fr:List HP)(c3:Nat):
 ∀ w,Holds B (row c3 [.slice none 0 0] 71::Fr) w→Calls Tryz.prog 232 [.pointer none,ptr c3].toArray w (aZ B (row c3 [.slice none 0 0] 71::Fr) (.tuple #[])):=by
 refine ak func232 aa ntmps232 aa (ac (ab (kPm aa aa (kPv (cV runUnderlying284 aa aa aa) aa (kPm aa aa ?_)))))
 apply dS (tp:=10) (t:=5) (σ1:=[(5,_),(0,_),(1,_)]) 5 rfl (aG rfl)
 ·intro hg1
  refine ao aa (ag isAgg71 aa aa) (.on aa aa (ae hg1)) aa aa (ao aa (al aa) (.on aa aa (ae hg1)) aa aa (ap aa (ar call233 aa) ((False.elim (by cases hg1):∀ w,Holds B (row c3 [.slice none 0 0] 71::Fr) w→Calls Tryz.prog 233 [.slice none 0 0,.pointer none].toArray w (aZ B (row c3 [.slice none 0 0] 71::Fr) (.bool true)))) (.on aa aa (ae hg1)) aa aa ?_))
  refine ao aa (bu aa) (.on aa aa (ae hg1)) aa aa (kPv (aB aa hg1 aa) aa ?_)
  exact bf aa (aG aa) (dj hg1)
 ·intro hg1
  refine ay aa (.on aa aa (ai hg1)) aa (ay aa (.on aa aa (ai hg1)) aa (ay aa (.on aa aa (ai hg1)) aa (ay aa (.on aa aa (ai hg1)) aa (kPv (aJ aa hg1 aa) aa ?_))))
  exact bf aa (aG aa) (dl hg1)
 refine ad (bH aa (rfl) (aw ?_))
 exact cG results232 (fun w hw=>⟨rfl,hw⟩)
theorem rz(B:World)(Fr:List HP)(bm br n:Nat)(c:Cfg)(hn:n≤1000):
 ∀ w,Holds B (eH bm br n c::eG br n::Fr) w→Calls Tryz.prog 210 [ptr bm].toArray w (aZ B (eH bm br n c::eG br n::Fr) (.slice none 0 0)):=by
 refine ak func210 aa ntmps210 aa (ac (ab (kPa aa aa (ad (ac (ab (kPb (cm zeroValue71 aa) aa fun b3=>(ad (ac (ab (kPv (c7 aa aa) aa ?_)))))))))))
 refine kPa aa aa (ad (ac (ac (ab (kPf BE isAgg71 aa aa aa aa (kPv (bS aa runUnderlying71 ⟨_,rfl⟩ rfl) aa (kPm aa aa (ad (aI (df (ι:=Nat) [17,16,4,3,2,0] (fun k=>(k≤n)) (fun k=>[(18,i64 k)]) (fun k=>row b3 [.slice none 0 0] 71::eH bm br n c::eG br n::Fr) (fun k=>n - k) (0) (Nat.zero_le _) (fun a w st=>st.to ⟨rfl,trivial⟩ (fun hh=>hh)) ?_))))))))))
 rintro k hk0
 try simp only at hk0 ⊢
 refine cE (σ':=[(18,i64 k),(17,_),(16,_),(4,_),(3,_),(2,_),(0,_)]) (aG aa) (ac (ab (kPv (am aa aa aa) aa (ad (ac ?_)))))
 refine aV aa (fun h19=> ?_) (fun h19=> ?_)
 ·have hk:k<n:=by simpa using h19
  refine aw (ac (aI (ac (ab (kPv (cC runUnderlying71 sizeOf284 aa aa (by omega) (by omega)) aa ?_)))))
  refine kPv (cf (v:= .pointer none) isAgg284 (show SlR B _ (Value.slice (some (⟨br,0,none⟩:Addr)) n n) (List.replicate n (Value.pointer none)) from SlR.row (b:=br) (by simp) (by simp)) aa (by simp[List.getElem?_replicate,hk])) aa ?_
  refine kPa aa aa (ad (ab (kPm aa aa (kPm aa aa ?_))))
  refine ap aa (fa call232 aa aa) (zg B _ b3) .free aa aa ?_
  refine ad (aj [18,17,16,4,3,2,0] rfl (ab (kPv (aP aa aa) aa (kPm aa aa (ad ?_)))))
  exact fun a w st_=>⟨k+1,by omega,by omega,st_.to (aG aa) (fun hh=>hh)⟩
 ·skip
  refine bJ (ac (ac (ab (kPf wB isAgg71 aa aa aa aa (kPv (bS aa runUnderlying71 ⟨_,rfl⟩ rfl) aa (kPm aa aa (ad (aj [31,30,29,4,3,2] rfl (aI (df (ι:=Nat) [30,29,4,3,2] (fun k2=>(k2≤0)) (fun k2=>[(31,i64 k2)]) (fun k2=>row b3 [.slice none 0 0] 71::eH bm br n c::eG br n::Fr) (fun k2=>0) (0) (Nat.zero_le _) (fun a w st=>st.to ⟨rfl,trivial⟩ (fun hh=>hh)) ?_))))))))))
  rintro k2 hk20
  try simp only at hk20 ⊢
  refine cE (σ':=[(31,i64 k2),(30,_),(29,_),(4,_),(3,_),(2,_)]) (aG aa) (ac (ab (kPv (am aa aa aa) aa (ad (ac (bH aa ((by simp)) (bJ (ac (ac (ab (kPa aa aa ?_)))))))))))
  refine ad (aI (df (ι:=Nat) [4,3,2] (fun k3=>(k3≤0)) (fun k3=>[(9,i64 k3)]) (fun k3=>row b3 [.slice none 0 0] 71::eH bm br n c::eG br n::Fr) (fun k3=>0) (0) (Nat.zero_le _) (fun a w st=>st.to ⟨rfl,trivial⟩ (fun hh=>hh)) ?_))
  rintro k3 hk30
  try simp only at hk30 ⊢
  refine cE (σ':=[(9,i64 k3),(4,_),(3,_),(2,_)]) (aG aa) (ac (ac (ab (kPm aa aa (kPv (ag isAgg71 aa aa) aa (kPv (bS aa runUnderlying71 ⟨_,rfl⟩ rfl) aa (kPv (am aa aa aa) aa (ad (bH aa ((by simp)) (bJ (ac ?_)))))))))))
  refine ab (kPv (ag isAgg71 aa aa) aa (kPa aa aa (ad (aj [2] rfl (au ?_)))))
  exact aq results210 aa (fun w hw=>⟨rfl,(hw.dp [0])⟩)
theorem xy(B:World)(Fr:List HP)(bm br n:Nat)(c:Cfg)(hn:n≤1000):
 ∀ w,Holds B (eH bm br n c::eG br n::Fr) w→Calls Tryz.prog 192 [ptr bm].toArray w (aZ B (eH bm br n c::eG br n::Fr) (i64 0)):=by
 refine ak func192 aa ntmps192 aa (ac (ab (kPa aa aa (ad (ac (ab (kPa aa aa (ad (ac (ac (ab ?_)))))))))))
 refine kPm aa aa (ap aa (ar call210 aa) (rz B _ bm br n c hn) .free aa aa ?_)
 refine kPv (bS aa runUnderlying71 ⟨_,rfl⟩ rfl) aa (kPm aa aa (ad (aI (df (ι:=Nat) [8,7,3,2] (fun k=>(k≤0)) (fun k=>[(9,i64 k)]) (fun k=>eH bm br n c::eG br n::Fr) (fun k=>0) (0) (Nat.zero_le _) (fun a w st=>st.to ⟨rfl,trivial⟩ (fun hh=>hh)) ?_))))
 rintro k hk0
 try simp only at hk0 ⊢
 refine cE (σ':=[(9,i64 k),(8,_),(7,_),(3,_),(2,_)]) (aG aa) (ac (ab (kPv (am aa aa aa) aa (ad (ac (bH aa ((by simp)) (bJ (ac (ab (kPm aa aa (kPa aa aa ?_)))))))))))
 refine ad (au ?_)
 exact aq results192 aa (fun w hw=>⟨rfl,hw⟩)
theorem xz(B:World)(Fr:List HP)(bm br n:Nat)(c:Cfg)(hn:n≤1000):
 ∀ w,Holds B (eH bm br n c::eG br n::Fr) w→Calls Tryz.prog 193 [ptr bm].toArray w (aZ B (eH bm br n c::eG br n::Fr) (i64 0)):=by
 refine ak func193 aa ntmps193 aa (ac (ab (kPa aa aa (ad (ac (ab (kPa aa aa (ad (ac (ac (ab ?_)))))))))))
 refine kPf wB isAgg71 aa aa aa aa (kPv (bS aa runUnderlying71 ⟨_,rfl⟩ rfl) aa (kPm aa aa (ad (aI (df (ι:=Nat) [10,9,3,2] (fun k=>(k≤0)) (fun k=>[(11,i64 k)]) (fun k=>eH bm br n c::eG br n::Fr) (fun k=>0) (0) (Nat.zero_le _) (fun a w st=>st.to ⟨rfl,trivial⟩ (fun hh=>hh)) ?_)))))
 rintro k hk0
 try simp only at hk0 ⊢
 refine cE (σ':=[(11,i64 k),(10,_),(9,_),(3,_),(2,_)]) (aG aa) (ac (ab (kPv (am aa aa aa) aa (ad (ac (bH aa ((by simp)) (bJ (ac (ab (kPm aa aa (kPa aa aa ?_)))))))))))
 refine ad (au ?_)
 exact aq results193 aa (fun w hw=>⟨rfl,hw⟩)
theorem Bc(B:World)(Fr:List HP)(bm br n:Nat)(c:Cfg)(hn:n≤1000)(bh:Nat)(h:HpS)(s:Dev)(hW:db h s)(hst:h.stats s=⟨0,0,0,0,false⟩)(hck:s.check h.c=0):
 ∀ w,Holds B (bZ bh h::ax h.bd s::eH bm br n c::eG br n::Fr) w→Calls Tryz.prog 163 [ptr bm,ptr bh].toArray w (aZ B (bZ bh h::ax h.bd s::eH bm br n c::eG br n::Fr) (.bool true)):=by
 refine ak func163 aa ntmps163 aa (ac (ab (kPa aa aa (ad (ac (ab (kPm aa aa (ap aa (ar call35 aa) (mJ B _ bh h s hW) .free aa aa ?_))))))))
 rw[hst]
 refine kPb (aD zeroValue67 aa) aa fun b5=>(kPs (aA (vs:=_) sizeOf67 aa aa aa aa aa) aa (ad (ac (aK (H':=row b5 [i64 0,i64 0,i64 0,i64 0,.bool false] 67::_) (fun w hh=>hh) (aM [3,3,1,1,0] (cN Tryz.mixed (by kernel_rfl) (by kernel_rfl) ?_))))))
 refine kQv (aC (m:=_) wG aa aa) aa (kQv (ag isAgg3 aa aa) aa (kQm aa aa (kQv (aF aa) aa (kQv (aC (m:=_) BD aa aa) aa (kQv (ag isAgg3 aa aa) aa (kQv (am aa aa aa) aa (kQm aa aa ?_)))))))
 apply nl (tp:=21) (t:=15) (σ1:=[(15,_),(5,_),(4,_),(0,_),(1,_)]) 6 rfl (aG rfl)
 ·intro hg1
  refine bg aa (aC (m:=_) wF aa aa) (.on aa aa (ae hg1)) aa (bg aa (ag isAgg3 aa aa) (.on aa aa (ae hg1)) aa (bg aa (al aa) (.on aa aa (ae hg1)) aa (bj aa (ar call192 aa) (xy B _ bm br n c hn) (.on aa aa (ae hg1)) aa ?_)))
  refine bg aa (am aa aa aa) (.on aa aa (ae hg1)) aa (kQv (aB aa hg1 aa) aa ?_)
  exact fp aa (aG aa) (dj hg1)
 ·intro hg1
  refine ba aa (.on aa aa (ai hg1)) aa (ba aa (.on aa aa (ai hg1)) aa (ba aa (.on aa aa (ai hg1)) aa (ba aa (.on aa aa (ai hg1)) aa (ba aa (.on aa aa (ai hg1)) aa (kQv (aJ aa hg1 aa) aa ?_)))))
  exact fp aa (aG aa) (dl hg1)
 refine kQm aa aa ?_
 apply nl (tp:=28) (t:=22) (σ1:=[(22,_),(5,_),(4,_),(0,_),(1,_)]) 6 rfl (aG rfl)
 ·intro hg2
  refine bg aa (aC (m:=_) wE aa aa) (.on aa aa (ae hg2)) aa (bg aa (ag isAgg3 aa aa) (.on aa aa (ae hg2)) aa (bg aa (al aa) (.on aa aa (ae hg2)) aa (bj aa (ar call193 aa) (xz B _ bm br n c hn) (.on aa aa (ae hg2)) aa ?_)))
  refine bg aa (am aa aa aa) (.on aa aa (ae hg2)) aa (kQv (aB aa hg2 aa) aa ?_)
  exact fp aa (aG aa) (dj hg2)
 ·intro hg2
  refine ba aa (.on aa aa (ai hg2)) aa (ba aa (.on aa aa (ai hg2)) aa (ba aa (.on aa aa (ai hg2)) aa (ba aa (.on aa aa (ai hg2)) aa (ba aa (.on aa aa (ai hg2)) aa (kQv (aJ aa hg2 aa) aa ?_)))))
  exact fp aa (aG aa) (dl hg2)
 refine kQm aa aa ?_
 apply nl (tp:=38) (t:=29) (σ1:=[(29,_),(5,_),(4,_),(0,_),(1,_)]) 9 rfl (aG rfl)
 ·intro hg3
  refine bg aa (aC (m:=_) wD aa aa) (.on aa aa (ae hg3)) aa (bg aa (ag isAgg3 aa aa) (.on aa aa (ae hg3)) aa (bg aa (al aa) (.on aa aa (ae hg3)) aa (bg aa (aF aa) (.on aa aa (ae hg3)) aa (bg aa (aC (m:=_) BB aa aa) (.on aa aa (ae hg3)) aa (bg aa (ag isAgg72 aa aa) (.on aa aa (ae hg3)) aa (bg aa (bS aa runUnderlying72 ⟨_,rfl⟩ rfl) (.on aa aa (ae hg3)) aa (bg aa (am aa aa aa) (.on aa aa (ae hg3)) aa (kQv (aB aa hg3 aa) aa ?_))))))))
  exact fp aa (aG aa) (dj hg3)
 ·intro hg3
  refine ba aa (.on aa aa (ai hg3)) aa (ba aa (.on aa aa (ai hg3)) aa (ba aa (.on aa aa (ai hg3)) aa (ba aa (.on aa aa (ai hg3)) aa (ba aa (.on aa aa (ai hg3)) aa (ba aa (.on aa aa (ai hg3)) aa (ba aa (.on aa aa (ai hg3)) aa (ba aa (.on aa aa (ai hg3)) aa (kQv (aJ aa hg3 aa) aa ?_))))))))
  exact fp aa (aG aa) (dl hg3)
 refine kQm aa aa ?_
 apply nl (tp:=47) (t:=39) (σ1:=[(39,_),(4,_),(1,_)]) 8 rfl (aG rfl)
 ·intro hg4
  refine bg aa (aC (m:=_) wC aa aa) (.on aa aa (ae hg4)) aa (bg aa (ag isAgg4 aa aa) (.on aa aa (ae hg4)) aa (bg aa (al aa) (.on aa aa (ae hg4)) aa (bg aa (aF aa) (.on aa aa (ae hg4)) aa (bg aa (aC (m:=_) BC aa aa) (.on aa aa (ae hg4)) aa (bg aa (ag isAgg4 aa aa) (.on aa aa (ae hg4)) aa (bg aa (Aa runUnderlying4 aa aa aa) (.on aa aa (ae hg4)) aa (kQv (aB aa hg4 aa) aa ?_)))))))
  exact fp aa (aG aa) (dj hg4)
 ·intro hg4
  refine ba aa (.on aa aa (ai hg4)) aa (ba aa (.on aa aa (ai hg4)) aa (ba aa (.on aa aa (ai hg4)) aa (ba aa (.on aa aa (ai hg4)) aa (ba aa (.on aa aa (ai hg4)) aa (ba aa (.on aa aa (ai hg4)) aa (ba aa (.on aa aa (ai hg4)) aa (kQv (aJ aa hg4 aa) aa ?_)))))))
  exact fp aa (aG aa) (dl hg4)
 refine kQm aa aa ?_
 apply nl (tp:=52) (t:=48) (σ1:=[(48,_),(4,_)]) 4 rfl ⟨rfl,rfl,trivial⟩
 ·intro hg5
  refine bg aa (al aa) (.on aa aa (ae hg5)) aa (bj aa (ar call52 aa) (lS [2,2] [2,2] (pd B _ bh h s hW)) (.on aa aa (ae hg5)) aa ?_)
  refine bg aa (am aa aa aa) (.on aa aa (ae hg5)) aa (kQv (aB aa hg5 aa) aa ?_)
  exact fp aa ⟨rfl,rfl,trivial⟩ (dj hg5)
 ·intro hg5
  refine ba aa (.on aa aa (ai hg5)) aa (ba aa (.on aa aa (ai hg5)) aa (ba aa (.on aa aa (ai hg5)) aa (kQv (aJ aa hg5 aa) aa ?_)))
  exact fp aa ⟨rfl,rfl,trivial⟩ (dl hg5)
 refine kQa aa aa (bM (au ?_))
 exact aq results163 aa (fun w hw=>⟨by rw[hck];rfl,((hw.dp [4]).pk [2,2])⟩)
theorem xt(B:World)(Fr:List HP)(x0 x1 x2:Int)(hx:0≤x0∧0≤x1∧0≤x2)(c:Cfg)(hcm:c=mkC x0 x1 x2):
 ∀ w,Holds B Fr w→Calls Tryz.prog 28 [.agg #[u16 x0,u16 x1,u16 x2],.slice none 0 0].toArray w (Ret B (fun rv H'=>∃ (bd bh bm br N:Nat) (s:Dev),(N:Int)=c.words∧HC True c N bd (cz bd c s) s 0 0 []∧rv= .tuple #[ptr bd,ptr bh,ptr bm]∧H'=bZ bh (cz bd c s)::ax bd s::eH bm br c.roots.toNat c::eG br c.roots.toNat::Fr) (fun _ _=>False)):=by
 refine ak func28 aa ntmps28 aa ?_
 have hc:bx c:=by rw[hcm];exact vT hx.1 hx.2.1 hx.2.2
 have hA:=jk hc
 have hr1:=hc.r1
 refine ac (ab (kPb (aY aa) aa fun b2=>(kPa aa aa (kPa aa aa (kPa aa aa (ad (ac (ab (kPv (ah isAgg48 sizeOf48 aa aa) aa ?_)))))))))
 refine ap aa (ar call24 aa) (vU _ _ x0 x1 x2 hx.1 hx.2.1 hx.2.2) .free aa aa ?_
 refine kPb (aD zeroValue39 aa) aa fun b7=>(kPs (aA (vs:=_) sizeOf39 aa aa aa aa aa) aa (ad (ac ?_)))
 rw[←hcm]
 refine ab (kPv (ah isAgg39 sizeOf39 aa aa) aa ?_)
 refine kPm aa aa (aE aa (ar call70 aa) (dZ _ _ c hc none 0 [] (by decide) (fun _ h=>absurd h (Nat.not_lt_zero _)) SlR.nil) .free aa aa ?_)
 rintro _ _ ⟨bd,pa,N,s0,hN,hf,rfl,rfl⟩
 have hfm:=mN hc hN hf
 have hu0:=gx (jh pa N) hc hf
 have hOk:=hfm.okd hc hN hu0
 have hHC:=hfm.hc hc hN hu0 bd
 have hsn:=hfm.n
 refine kPm aa aa (kPv (az aa aa) aa (kPv (az aa aa) aa (kPa aa aa (kPa aa aa (ad (aj [9,8,7,6,5,4] rfl (ac (ac (ab (kPm aa aa (kPv (bu aa) aa ?_)))))))))))
 refine ad (bH aa (rfl) (aw (ac (ab (kPm aa aa ?_)))))
 refine aQ aa (ar call48 aa) (qE B _ bd s0 hu0 (by omega)) .free aa aa ?_ ?_
 rotate_left
 ·rintro _ _ ⟨s9,hE,hun,rfl,rfl⟩
  exact(hOk.noff hun).elim
 rintro _ _ hor
 rcases hor with ⟨e,he,hE,_,_⟩ | ⟨bh,L',s',hE,hun,rfl,rfl⟩
 ·exact absurd (hOk.open_ hc hE) he
 obtain rfl:=hOk.undo hun
 rw[show s'.readC.1=c by rw[hOk.rc]]
 refine kPm aa aa (kPv (az aa aa) aa (kPv (az aa aa) aa (kPa aa aa (kPa aa aa (ad (aj [11,10,8,7,6,5,4] rfl (ac (ac (ab (kPm aa aa (kPv (am aa aa aa) aa ?_)))))))))))
 refine kPm aa aa ?_
 apply gJ (tp:=32) (t:=29) (σ1:=[(29,_),(10,_),(8,_),(7,_),(6,_),(5,_),(4,_)]) 3 rfl (aG rfl)
 ·intro hg1
  refine ao aa (al aa) (.on aa aa (ae hg1)) aa aa (ao aa (cV runUnderlying54 aa aa aa) (.on aa aa (ae hg1)) aa aa (kPv (aJ aa hg1 aa) aa ?_))
  exact bf aa (aG aa) (ga hg1)
 ·intro hg1
  refine ay aa (.on aa aa (ai hg1)) aa (ay aa (.on aa aa (ai hg1)) aa (kPv (aB aa hg1 aa) aa ?_))
  exact bf aa (aG aa) (f9 hg1)
 refine ad (bH aa (rfl) (aw (ac (ab (kPm aa aa (kPm aa aa (kPv (ah isAgg39 sizeOf39 aa aa) aa ?_)))))))
 refine aE aa (ar call71 aa) (Bb B _ c hc c.roots.toNat (by omega)) .free aa aa ?_
 rintro _ _ ⟨bm,br,rfl,rfl⟩
 refine kPa aa aa (kPa aa aa (kPa aa aa (ad (aj [6,5,4] rfl (au ?_)))))
 exact vK results28 (.tmp aa) (.tmp aa) (.tmp aa) (fun w hw=>⟨_,⟨bd,bh,bm,br,N,_,hN,hHC,rfl,rfl⟩,((hw.dp [4,4]).pk [2,2])⟩)
theorem mW{B:World}{P:Program}{f:FuncId}{vs:Array Value}{bh bd:Nat}{Fr:List HP}{α:Type}{m:Out (α×HpS)}{enc:α→Value}{a:α}{h':HpS}{s':Dev}(e:m= .ok (a,h') s'){w:World}(h:Calls P f vs w (Ret B (fun rv H'=>∃ a h' s',m= .ok (a,h') s'∧rv=enc a∧H'=bZ bh h'::ax bd s'::Fr) (fun ch H'=>∃ s',m= .off s'∧ch=dh∧H'=ax bd s'::Fr))):
 Calls P f vs w (Ret B (fun rv H'=>rv=enc a∧H'=bZ bh h'::ax bd s'::Fr) (fun _ _=>False)):=
 h.mono (Ret.mono (fun rv H' ⟨a1,h1,s1,e1,e2,e3⟩=>by rw[e] at e1;cases e1;exact⟨e2,e3⟩) (fun ch H' ⟨s1,e1,_⟩=>by rw[e] at e1;cases e1))
theorem BW{h h':HpS}{s s':Dev}{room:Int}(ho:h.o=false)(hb:h.begR s room 0 h' s'):h'.X=none:=by
 rcases hb with ⟨h1,_⟩ | ⟨_,_,h1,_⟩ | ⟨_,_,a1,h1,s1,hor,hor2⟩
 ·rw[ho] at h1;cases h1
 ·cases h1
 rcases hor2 with ⟨h3,h4,_⟩ | ⟨_,_,h4,_⟩ | ⟨rfl,_,_,rfl,_⟩
 ·exact absurd h4.symm h3
 ·cases h4
 ·rcases hor with ⟨_,h2⟩ | ⟨_,_,rfl,_⟩
  ·rcases h2 with ⟨h5,_⟩ | ⟨_,X,s2,_,S',_,hor3⟩
   ·rw[show h.o=true from h5] at ho;cases ho
   ·rcases hor3 with ⟨_,rfl⟩ | ⟨_,ord,_,rfl⟩<;>rfl
  ·rfl
section
variable {B:World} {Fr:List HP} {bh bd:Nat} {h h':HpS} {s s':Dev}
theorem Ch(hW:db h s)(hb:h.bd=bd){n i v x:Int}(hv:0≤v∧v<18446744073709551616)(e:h.write s n i v= .ok (x,h') s'):∀ w,Holds B (bZ bh h::ax bd s::Fr) w→Calls Tryz.prog 38 [ptr bh,i64 n,i64 i,w64 v].toArray w (Ret B (fun rv H'=>rv=i64 x∧H'=bZ bh h'::ax bd s'::Fr) (fun _ _=>False)):=by
 subst hb;exact fun w hw=>mW e (qD B Fr bh h s hW n i v hv w hw)
theorem BO(hW:db h s)(hb:h.bd=bd){x:Int}(e:h.commit s= .ok (x,h') s'):∀ w,Holds B (bZ bh h::ax bd s::Fr) w→Calls Tryz.prog 33 [ptr bh].toArray w (Ret B (fun rv H'=>rv=i64 x∧H'=bZ bh h'::ax bd s'::Fr) (fun _ _=>False)):=by
 subst hb;exact fun w hw=>mW e (pi B Fr bh h s hW w hw)
theorem Dl(hW:db h s)(hb:h.bd=bd){w_ r at_ x:Int}(e:h.alloc s w_ r= .ok ((at_,x),h') s'):∀ w,Holds B (bZ bh h::ax bd s::Fr) w→Calls Tryz.prog 30 [ptr bh,.agg #[i64 w_,i64 r]].toArray w (Ret B (fun rv H'=>rv= .tuple #[i64 at_,i64 x]∧H'=bZ bh h'::ax bd s'::Fr) (fun _ _=>False)):=by
 subst hb;exact fun w hw=>mW (enc:=fun a:Int×Int=> .tuple #[i64 a.1,i64 a.2]) e (pf B Fr bh h s hW w_ r w hw)
theorem Cq(hW:db h s)(hb:h.bd=bd):∀ w,Holds B (bZ bh h::ax bd s::Fr) w→Calls Tryz.prog 35 [ptr bh].toArray w (aZ B (bZ bh h::ax bd s::Fr) (B3 (h.stats s))):=by
 subst hb;exact mJ B Fr bh h s hW
theorem Df{kp:Prop}{c:Cfg}(hc:bx c){N:Nat}{a u:Int}{L:List Int}(H:HC kp c N bd h s a u L){room:Int}(h0:0≤room)(hr:¬ c.space - u<room):∀ w,Holds B (bZ bh h::ax bd s::Fr) w→Calls Tryz.prog 29 [ptr bh,i64 room].toArray w (Ret B (fun rv H'=>∃ h',h'.X=none∧h'.T=h.T∧HO kp c N bd s.now [] h' s a u u L∧rv=i64 0∧H'=bZ bh h'::ax bd s::Fr) (fun _ _=>False)):=by
 have hb:=H.hbd
 subst hb
 refine fun w hw=>(qL B Fr bh h s H.hw H.bok room w hw).mono (Ret.mono ?_ ?_)
 ·rintro rv H' ⟨x,h',s',hb,rfl,rfl⟩
  obtain⟨rfl,rfl,hT,HO'⟩:=H.begin hc h0 hr hb
  have hx:h'.X=none:=BW H.ho hb
  exact⟨h',hx,hT,HO',rfl,rfl⟩
 ·rintro ch H' ⟨s',⟨_,h1,_⟩,_⟩
  rw[H.blk,H.hcc] at h1
  exact absurd h1 hr
end
theorem Dx{s:Dev}{c:Cfg}{b:Blk}(h0:b.has c 0=false):∀ (ws:List Int) (x:gZ),(∀ v∈ws,v=0)→ws.foldl (s.see c b) x=x
 | [],_,_=>rfl
 | v::t,x,h=>by
   have hv:=h v (List.mem_cons_self ..)
   subst hv
   simp only[List.foldl_cons]
   rw[show s.see c b x 0=x from by unfold Dev.see;rw[if_pos (.inr h0)]]
   exact Dx h0 t x fun v hv=>h v (List.mem_cons_of_mem _ hv)
theorem lR{s:Dev}{c:Cfg}(hc:bx c){b:Blk}(hb:fU c b){ws:List Int}(h:∀ v∈ws,v=0):s.reachSize c b ws=0:=by
 have h1:=hb.act
 have h4:=iI hc (k:=b.act) (by omega)
 have h0:b.has c 0=false:=by unfold Blk.has;simp;omega
 unfold Dev.reachSize Dev.reach
 rw[Dx h0 ws _ h]
 unfold Dev.reachL
 rfl
theorem xP{kp:Prop}{c:Cfg}(hc:bx c){N bd:Nat}{h:HpS}{s:Dev}{a:Int}(H:HC kp c N bd h s a 0 [])(hT:h.T.at_=[]):h.stats s=⟨0,0,0,0,false⟩:=by
 have hz:∀ v∈h.words++(h.blk s).rts,v=0:=fun v hv=>by
  rcases List.mem_append.1 hv with hv | hv
  ·unfold HpS.words at hv
   rw[hT] at hv
   simp[cq] at hv
  ·rw[H.blk] at hv
   exact(H.hm.heap.roots v hv).resolve_right fun h=>by cases h
 unfold HpS.stats
 rw[hT,H.sk.ln,H.ho,lR H.hw.c (dB H.hw.c H.hw.u) hz,H.blk]
 rfl
theorem isW{B:World}{Fr:List HP}{bm br n bh bd:Nat}{c:Cfg}{h:HpS}{s:Dev}(hn:n≤1000)(hW:db h s)(hb:h.bd=bd)(hst:h.stats s=⟨0,0,0,0,false⟩)(hck:s.check h.c=0):∀ w,Holds B (bZ bh h::ax bd s::eH bm br n c::eG br n::Fr) w→Calls Tryz.prog 163 [ptr bm,ptr bh].toArray w (aZ B (bZ bh h::ax bd s::eH bm br n c::eG br n::Fr) (.bool true)):=by
 subst hb;exact Bc B Fr bm br n c hn bh h s hW hst hck
theorem HC.check{kp:Prop}{c:Cfg}(hc:bx c){N bd:Nat}{h:HpS}{s:Dev}{a u:Int}{L:List Int}(H:HC kp c N bd h s a u L):s.check h.c=0:=by
 rw[H.hcc];exact ph hc H.hw.u H.hm.block H.hm.heap
theorem uk{p:Int}(hp:p≠0):(⟨[],[],0⟩:eT).take p=(1,⟨[(1,p)],[(p,1)],1⟩):=by
 unfold eT.take
 rw[if_neg hp,if_neg (by simp[bG])]
 rfl
theorem A7{m:Int→Int}{k w r:Int}(h:0≤r∧r≤w∧w≤64)(e:m k=eA w r):orf m k=r∧osz m k=w+1:=by
 unfold orf osz
 rw[e,r6 h];exact⟨rfl,rfl⟩
theorem vi(B:World)(Fr:List HP):
 ∀ w,Holds B Fr w→Calls Tryz.prog 117 [].toArray w (aZ B Fr (.bool true)):=by
 refine ak func117 aa ntmps117 aa ?_
 obtain⟨c,hcm,hcs,hcl,hcr⟩:∃ c,c=mkC 0 0 40∧c.space=48∧c.log=3∧c.roots=1:=⟨_,rfl,rfl,rfl,rfl⟩
 have hc:bx c:=by rw[hcm];exact vT (by decide) (by decide) (by decide)
 have hA:=jk hc
 have hf0:=uU hc (a:=0) (by decide)
 refine ac (ab (kPa aa aa (ad (ac (ac (ab (ap aa (ar call162 aa) (vj _ _) .free aa aa ?_)))))))
 refine kPv (bu aa) aa (ad (bH aa (rfl) (aw (ac (ab (kPv (aR aa (jj _ aa)) aa (aE aa (ar call28 aa) (xt B _ 0 0 40 (by decide) c hcm) .free aa aa ?_)))))))
 rintro _ _ ⟨bd,bh,bm,br,N,s,hN,H0,rfl,rfl⟩
 obtain⟨h0,hh0⟩:∃ h0:HpS,h0=cz bd c s:=⟨_,rfl⟩
 rw[←hh0] at H0 ⊢
 have hT0:h0.T=⟨[],[],0⟩:=by rw[hh0];rfl
 refine kPm aa aa (kPv (az aa aa) aa (kPv (az aa aa) aa (kPv (az aa aa) aa (kPa aa aa (kPa aa aa (kPa aa aa (ad (aj [3,2,0] rfl (ac (ac (ab ?_)))))))))))
 refine kPm aa aa (kPv (cV runUnderlying54 aa aa aa) aa (kPm aa aa (ao aa (al aa) (.on aa aa (ae aa)) aa aa (ao aa (al aa) (.on aa aa (ae aa)) aa aa (ap aa (ar call163 aa) (isW (by omega) H0.hw H0.hbd (xP hc H0 (by rw[hT0])) (H0.check hc)) (.on aa aa (ae aa)) aa aa ?_)))))
 refine ao aa (bu aa) (.on aa aa (ae aa)) aa aa (kPv (aJ aa aa aa) aa (ad (aj [22,2,0] rfl (bH aa (rfl) (aw (ac (ab (kPm aa aa (aE aa (ar call29 aa) (Df hc H0 (by decide) (by omega)) .free aa aa ?_)))))))))
 rintro _ _ ⟨h1,hx1,hT1,H1,rfl,rfl⟩
 have hk1:h1.T.take (c.frm 0+0)=(1,⟨[(1,c.frm 0+0)],[(c.frm 0+0,1)],1⟩):=by rw[hT1,hT0];exact uk (by omega)
 obtain⟨h2,s2,js2,e2,H2,hx2,hT2,_,hjl2,hl2⟩:=H1.alloc hc hx1 (w:=2) (r:=1) ⟨by decide,by decide,by decide⟩ (by omega) (.inr (by simp;omega)) (by rw[hT1,hT0];decide) (by rw[hT1,hT0];decide)
 rw[hk1] at e2 hT2
 have hk2:=A7 (m:=s2.load) (k:=c.frm 0+0) (w:=2) (r:=1) ⟨by decide,by decide,by decide⟩ (by rw[hl2 _ (by omega),if_pos (by omega),if_pos rfl])
 obtain⟨h3,s3,js3,e3,H3,hx3,hT3,_⟩:=H2.write hc hx2 (n:=1) (k:=c.frm 0+0) (i:=1) (v:=7) (by rw[hT2];rfl) (by simp) (by omega) (by decide) (.inl (by rw[H2.ff,H2.ft];omega))
 obtain⟨h4,s4,e4,H4,hx4,hT4,_⟩:=H3.commit hc hx3
 have hu4:(h4.stats s4).used=3:=by
  show(h4.blk s4).used=3
  rw[H4.blk];rfl
 refine kPa aa aa (ad (ac (ab (kPm aa aa (kPv (aR aa (lD _ _ aa aa)) aa (de aa (ar call30 aa) (Dl H1.hw H1.hbd e2) .free aa aa ?_))))))
 refine kPm aa aa (kPv (az aa aa) aa (kPv (az aa aa) aa (kPa aa aa (kPa aa aa (ad (aj [6,5,4,2,0] rfl (ac (ab (kPm aa aa (kPv (am aa aa aa) aa (kPm aa aa ?_)))))))))))
 refine ao aa (al aa) (.on aa aa (ae aa)) aa aa (ao aa (am aa aa aa) (.on aa aa (ae aa)) aa aa (kPv (aB aa aa aa) aa (kPm aa aa (ao aa (al aa) (.on aa aa (ae aa)) aa aa (ao aa (am aa aa aa) (.on aa aa (ae aa)) aa aa (kPv (aB aa aa aa) aa (kPm aa aa (ao aa (al aa) (.on aa aa (ae aa)) aa aa (de aa (ar call38 aa) (Ch H2.hw H2.hbd (by decide) e3) (.on aa aa (ae aa)) aa aa ?_)))))))))
 refine ao aa (am aa aa aa) (.on aa aa (ae aa)) aa aa (kPv (aB aa aa aa) aa (kPm aa aa (ao aa (al aa) (.on aa aa (ae aa)) aa aa (de aa (ar call33 aa) (BO H3.hw H3.hbd e4) (.on aa aa (ae aa)) aa aa ?_))))
 refine ao aa (am aa aa aa) (.on aa aa (ae aa)) aa aa (kPv (aB aa aa aa) aa (kPm aa aa (ao aa (al aa) (.on aa aa (ae aa)) aa aa (ap aa (ar call35 aa) (Cq H4.hw H4.hbd) (.on aa aa (ae aa)) aa aa ?_))))
 refine ao aa (ie runUnderlying67 (t:=3) (off:=0) aa isAgg3 aa aa) (.on aa aa (ae aa)) aa aa (ao aa (am aa aa aa) (.on aa aa (ae aa)) aa aa (kPv (aB aa aa aa) aa (kPa aa aa (ad (aj [0] rfl (au ?_))))))
 exact aq results117 aa (fun w hw=>⟨by simp[hu4],(hw.dp [0,0,0,0])⟩)
theorem getD_some{α:Type}{l:List (Option α)}{n:Nat}{b:α}(h:l.getD n none=some b):l[n]? =some (some b):=by
 rw[List.getD_eq_getElem?_getD] at h
 cases e:l[n]? with
 | none=>rw[e] at h;cases h
 | some x=>rw[e] at h;simp at h;rw[h]
theorem Cf{c:Cfg}(h:bx c):chk c=0:=by unfold chk;rw[if_pos h]
theorem Ar{c:Cfg}(h:¬ bx c):chk c=1:=by unfold chk;rw[if_neg h]
theorem yG{B:World}{H:List HP}{b N:Nat}{T:TypeId}{U:List Value→List HP}[fK H b (List.replicate N (.int .u64 0)) T U]:SlR B H (.slice (some ⟨b,0,none⟩) N N) ((tab N (jC [])).map w64):=by
 have e:(tab N (jC [])).map w64=List.replicate N (.int .u64 0):=by
  rw[←tz,qO [] N]
  refine eV fun j hj=> ?_
  simp[jC]
 rw[e]
 exact SlR.row (by rw[List.drop_zero,List.take_of_length_le (by simp)]) (by simp)
theorem sE(B:World)(Fr:List HP)(c:Cfg)(hc:bx c):
 ∀ w,Holds B Fr w→Calls Tryz.prog 21 [dU c].toArray w (Ret B (fun rv H'=>∃ (bp bd bh N:Nat) (s:Dev),(N:Int)=c.words∧s.n=N∧HC True c N bd (cz bd c s) s 0 0 []∧rv= .tuple #[ptr bp,i64 0]∧H'=bZ bh (cz bd c s)::ax bd s::cu bp bd (ptr bh) 0::Fr) (fun _ _=>False)):=by
 refine ak func21 aa ntmps21 aa ?_
 have hwb:=words_b hc
 obtain⟨N,hN⟩:∃ N:Nat,(N:Int)=c.words:=⟨c.words.toNat,by omega⟩
 refine ac (ab (kPb (aY aa) aa fun b1=>(kPa aa aa (kPa aa aa (ad (ac (ac (ab (kPv (ah isAgg39 sizeOf39 aa aa) aa ?_)))))))))
 refine ap aa (ar call22 aa) (iA _ _ c) .free aa aa ?_
 refine kPa aa aa (ad (ac (ab (kPm aa aa (kPv (am aa aa aa) aa (ad (bH aa ((by rw[Cf hc];rfl)) (aw (ac (ab (kPv (ah isAgg39 sizeOf39 aa aa) aa ?_)))))))))))
 refine ap aa (ar call23 aa) (gy _ _ c hc) .free aa aa ?_
 rw[←hN]
 refine kPb (kX runUnderlying22 gh sizeOf24 zeroValue24 aa aa aa (by omega)) aa fun b13=>(aE aa (ar call16 aa) (yY B _ (.slice (some ⟨b13,0,none⟩) N N) (tab N (jC [])) (by rw[aW];omega) (by rw[aW];omega) yG) .free aa aa ?_)
 rintro _ _ ⟨bp,bd,pa,rfl,rfl⟩
 rw[wM (by omega)]
 refine kPa aa aa (ad (aj [5,3,2,1] rfl (ac (cH 5 Tryz.mixed (by kernel_rfl) (by kernel_rfl) ?_))))
 refine kQm aa aa (kQv (aF aa) aa (kQv (aC (m:=_) jg aa aa) aa (kQv (ag isAgg53 aa aa) aa (kQv (ah isAgg39 sizeOf39 aa aa) aa ?_))))
 refine bM ?_
 refine aQ aa (ar call47 aa) (lx _ _ bd _ c) .free aa aa ?_ ?_
 rotate_left
 ·rintro _ _ ⟨s9,hm9,rfl,rfl⟩
  exact(wy hc hN hm9).elim
 rintro _ _ ⟨a,s1,hm1,rfl,rfl⟩
 obtain rfl:=uY hc hN hm1
 have hfm:=mN hc hN hm1
 have hu0:=gx (jh pa N) hc hm1
 have hOk:=hfm.okd hc hN hu0
 have hHC:=hfm.hc hc hN hu0 bd
 have hsn:=hfm.n
 refine ad (aj [5,3,2] rfl (ac (ab (kPm aa aa (kPm aa aa ?_)))))
 refine aQ aa (ar call64 aa) (y2 hu0 (by omega)) .free aa aa ?_ ?_
 rotate_left
 ·rintro _ _ ⟨s9,hE,hun,rfl,rfl⟩
  exact(hOk.noff hun).elim
 rintro _ _ ⟨e9,Z,rfl,rfl,hE9,hor⟩
 obtain rfl:e9=0:=hOk.open_ hc hE9
 obtain⟨bh,L',s9,_,hun,rfl⟩:=hor.resolve_left fun g=>g.1 rfl
 obtain rfl:=hOk.undo hun
 refine aK (H':=bZ bh (cz bd s9.readC.1 s9)::ax bd s9::cu bp bd (ptr bh) 0::row b13 (List.replicate N (.int .u64 0)) 24::row b1 [i64 c.log,i64 c.roots,i64 c.space] 39::Fr) (fun w hh=>hh.grp) ?_
 rw[show s9.readC.1=c by rw[hOk.rc]]
 refine kPa aa aa (kPa aa aa (ad (au ?_)))
 exact bz results21 aa aa (fun w hh=>⟨_,⟨bp,bd,bh,N,s9,by first | exact hN | rfl,hsn,hHC,rfl,rfl⟩,(hh.dp [3,3])⟩)
theorem xm(B:World)(Fr:List HP)(c:Cfg)(hc:¬ bx c):
 ∀ w,Holds B Fr w→Calls Tryz.prog 21 [dU c].toArray w (aZ B Fr (.tuple #[.pointer none,i64 1])):=by
 refine ak func21 aa ntmps21 aa (ac (ab (kPb (aY aa) aa fun b1=>(kPa aa aa (kPa aa aa (ad (ac (ac (ab (kPv (ah isAgg39 sizeOf39 aa aa) aa ?_))))))))))
 refine ap aa (ar call22 aa) (iA _ _ c) .free aa aa ?_
 refine kPa aa aa (ad (ac (ab (kPm aa aa (kPv (am aa aa aa) aa (ad (li aa ((by rw[Ar hc];rfl)) (ac (ab (kPm aa aa (kPa aa aa ?_)))))))))))
 refine kPa aa aa (ad (aj [3,2,1] rfl (au ?_)))
 exact bz results21 aa aa (fun w hh=>⟨by rw[Ar hc],(hh.dp [0])⟩)
def DvZ(b:Nat):HP:=hex fun (x:Nat×Nat×Nat×Nat×List Value)=>grp [row b [.pointer (some ⟨x.1,0,none⟩),.slice (some ⟨x.2.1,0,none⟩) 0 0,.slice (some ⟨x.2.2.1,0,none⟩) 0 (0+x.2.2.2.2.length),.map (some x.2.2.2.1)] 161,row x.2.2.1 x.2.2.2.2 24]
theorem xV{B:World}{Fr:List HP}{w:World}{b pa bn bk bq:Nat}{rest:List Value}(h:Holds B (row b [.pointer (some ⟨pa,0,none⟩),.slice (some ⟨bn,0,none⟩) 0 0,.slice (some ⟨bk,0,none⟩) 0 (0+rest.length),.map (some bq)] 161::row bk rest 24::Fr) w):Holds B (DvZ b::Fr) w:=
 Holds.unhex (pa,bn,bk,bq,rest) (Holds.ungrp (l:=[row b [.pointer (some ⟨pa,0,none⟩),.slice (some ⟨bn,0,none⟩) 0 0,.slice (some ⟨bk,0,none⟩) 0 (0+rest.length),.map (some bq)] 161,row bk rest 24]) h)
theorem zd(B:World)(Fr:List HP)(pa:Nat)(pw:Pow)(sv:Value)(hr:SlR B Fr sv []):
 ∀ w,Holds B (iY pa pw::Fr) w→Calls Tryz.prog 55 [ptr pa,sv].toArray w (Ret B (fun rv H'=>∃ b,rv=ptr b∧H'=DvZ b::Fr) (fun _ _=>False)):=by
 refine ak func55 aa ntmps55 aa ?_
 obtain⟨qa,qc,rfl,hqc⟩:=hr.ex
 have hr9:SlR B Fr (.slice qa 0 qc) []:=hr
 simp only[List.length_nil]
 refine ac (ab (kPa aa aa (ad (ac (ab (kPm aa aa (kPv (bS aa runUnderlying22 ⟨_,rfl⟩ rfl) aa (kPv (iT (c:=8) aa aa aa) aa (kPv (mP (c:=7) aa aa aa) aa (kPv (ly (c:=0) aa aa (by decide) aa) aa (kPv (mR (c:=((0:Nat):Int)) aa aa aa) aa ?_)))))))))))
 refine kPa aa aa (ad (ac (ab (kPm aa aa (kPb (kX (n:=0) runUnderlying22 gh sizeOf24 zeroValue24 aa aa aa (by decide)) aa fun b14=>(kPa aa aa (ad (aj [6,4,0,1] rfl (ac (ab (kPm aa aa ?_)))))))))))
 refine kPm aa aa (cX aa (nW (n:=0) (cs:=[]) aa runUnderlying22 sizeOf24 aa aa ((hr9.cons _).cons _) aa (by simp) aa) .free aa aa ?_)
 rintro _ _ ⟨rfl,rfl⟩
 refine ad (ac (ab (kPm aa aa (kPm aa aa (kPm aa aa (aE aa (ar call120 aa) (iz _ _ _ _ _ [] (by simp) (by simp) aa (SlR.row (b:=b14) (off:=0) (cs:=[]) (by simp) aa)) .free aa aa ?_))))))
 rintro _ _ ⟨bk,rest,rfl,rfl⟩
 refine kPb (dP .i64 pY) aa fun bq=> ?_
 refine ao aa (aR aa (jZ _ _ _ _ (by first | rfl | assumption) (by first | rfl | assumption) (by first | rfl | assumption) (by first | rfl | assumption))) .free rfl rfl ?_;refine kPb (aY aa) aa fun b24=> ?_;refine kPa aa aa ?_;refine ad ?_;refine aj [4] rfl ?_;refine au ?_
 exact aq results55 aa (fun w hh=>⟨_,⟨_,rfl,rfl⟩,xV (hh.dp [1,2,2])⟩)
theorem xl(B:World)(Fr:List HP)(sv:Value)(hr:SlR B Fr sv []):
 ∀ w,Holds B Fr w→Calls Tryz.prog 16 [sv].toArray w (Ret B (fun rv H'=>∃ bp bd,rv=ptr bp∧H'=DvZ bd::cu bp bd (.pointer none) 0::Fr) (fun _ _=>False)):=by
 refine ak func16 aa ntmps16 aa (ac (ab (kPa aa aa (ad (ac (ab (aE aa (ar call56 aa) (jA _ _ _) .free aa aa ?_)))))))
 rintro _ _ ⟨pb,rfl,rfl⟩
 refine kPm aa aa (aE aa (ar call55 aa) (zd B _ pb ⟨-1,0⟩ sv hr.up) .free aa aa ?_)
 rintro _ _ ⟨bd,rfl,rfl⟩
 refine ao aa (aR aa (q6 _ (by first | rfl | assumption))) .free rfl rfl ?_;refine kPb (aY aa) aa fun b7=> ?_;refine kPa aa aa ?_;refine ad ?_;refine au ?_
 exact aq results16 aa (fun w hh=>⟨_,⟨_,bd,rfl,rfl⟩,(hh.pk [1])⟩)
theorem Bg{l:List UInt8}{c:UInt8}(h:¬ Lib.indexByte l c<0):∃ i:Nat,Lib.indexByte l c=i∧i<l.length:=by
 rcases qC l c with h1 | h1
 ·omega
 ·exact h1
theorem AN(B:World)(Fr:List HP)(s:List UInt8):
 ∀ w,Holds B Fr w→Calls Tryz.prog 194 [str s,.string ⟨#[10]⟩,i64 0].toArray w (Ret B (fun v H'=>∃ b1 b2 b3,v= .func (.func 212) [].toArray [ptr b2,ptr b1,ptr b3].toArray∧H'=row b3 [i64 0] 3::row b2 [.string ⟨#[10]⟩] 9::row b1 [str s] 9::Fr) (fun _ _=>False)):=by
 refine ak func194 aa ntmps194 aa (ac (ab (kPb (dA aa aa) aa fun b3=>(kPb (dA aa aa) aa fun b4=>(kPb (dA aa aa) aa fun b5=>(kPa aa aa (ad (ac (ab (kPv (c7 aa aa) aa (kPa aa aa ?_)))))))))))
 refine ad (aj [6] rfl (au ?_))
 exact aq results194 aa (fun w hw=>⟨_,⟨_,_,_,rfl,rfl⟩,hw⟩)
theorem yA(B:World)(Fr:List HP)(s:List UInt8):
 ∀ w,Holds B Fr w→Calls Tryz.prog 164 [str s,.string ⟨#[10]⟩].toArray w (Ret B (fun v H'=>∃ b1 b2 b3,v= .func (.func 212) [].toArray [ptr b2,ptr b1,ptr b3].toArray∧H'=row b3 [i64 0] 3::row b2 [.string ⟨#[10]⟩] 9::row b1 [str s] 9::Fr) (fun _ _=>False)):=by
 refine ak func164 aa ntmps164 aa (ac (ab (kPa aa aa (ad (ac (ab (kPm aa aa (kPm aa aa (aE aa (ar call194 aa) (AN _ _ s) .free aa aa ?_)))))))))
 rintro _ _ ⟨b1,b2,b3,rfl,rfl⟩
 refine kPa aa aa (ad (au ?_))
 exact aq results164 aa (fun w hw=>⟨_,⟨_,_,_,rfl,rfl⟩,hw⟩)
theorem yB(B:World)(E:List HP)[cF E B](l f b1 b2 b3 N:Nat)(s:List UInt8)(hs:s.length≤N)(hN:N≤1000000)(ι:Type)(r:Loop)(hrf:r.fn=f)(hrp:r.params.size=1)(I:ι→Prop)(Hx:ι→List HP)(cd:ι→Code)(st:List UInt8→ι→Bool×ι)(x0:ι)(h0:I x0)(hround:∀ (p:List UInt8) (x:ι),p.length≤N→I x→I (st p x).2∧∀ (E:List HP) [cF E B] w,Holds B (blk l (.loop r)::(Hx x++E)) w→RoundIn (Wd (cxF f)) 0 Tryz.prog l f ((r.params.zip [str p].toArray).foldl (fun tmps (t,a)=>tmps.setIfInBounds t a) r.tmps) r.assign r.body w (Ret B (fun rv H'=>rv= .bool (st p x).1∧H'=blk l (.loop (lst r cd (st p x)))::(Hx (st p x).2++E)) (fun _ _=>False))):
 ∀ w,Holds B (row b1 [str s] 9::row b2 [.string ⟨#[10]⟩] 9::row b3 [i64 0] 3::blk l (.loop r)::(Hx x0++E)) w→Calls Tryz.prog 212 [.func (.yield l) #[] #[],ptr b2,ptr b1,ptr b3].toArray w (Ret B (fun _ H'=>I (itl st (spl 10 s) x0).2∧H'=blk l (.loop (lst r cd (itl st (spl 10 s) x0)))::(Hx (itl st (spl 10 s) x0).2++E)) (fun _ _=>False)):=by
 refine ak func212 aa ntmps212 aa (ac (ac (ab (kPv (ag isAgg9 aa aa) aa (kPv (nS aa runUnderlying9 aa) aa (kPv (am aa aa aa) aa (ad (bH aa (rfl) (aw (ac (aI ?_)))))))))))
 refine df (ι:=List UInt8×ι) [0,1,2,3] (fun (q,x)=>(q.length≤s.length)∧(I x)∧(itl st (spl 10 s) x0=itl st (spl 10 q) x)) (fun (q,x)=>[]) (fun (q,x)=>row b1 [str q] 9::row b2 [.string ⟨#[10]⟩] 9::row b3 [i64 0] 3::blk l (.loop r)::(Hx x++E)) (fun (q,x)=>q.length) (s,x0) (⟨Nat.le_refl _,h0,rfl⟩) (fun a w st=>st.to trivial (fun hh=>hh)) ?_
 rintro⟨q,x⟩ ⟨hq,hIx,hinv⟩
 try simp only at hq hIx hinv ⊢
 refine cE (σ':=[(0,_),(1,_),(2,_),(3,_)]) (aG aa) (aI (ac (ab (kPv (ag isAgg9 aa aa) aa (kPv (ag isAgg9 aa aa) aa (ap aa (ar call214 aa) (AP _ q 10) .free aa aa ?_))))))
 refine kPa aa aa (ad (ac (ac (ab (kPm aa aa (kPv (am aa aa aa) aa (ad ?_)))))))
 refine aV aa (fun h33=> ?_) (fun h33=> ?_)
 ·have hneg:Lib.indexByte q 10= -1:=wg (by simpa using h33)
  refine bJ (ab (kPm aa aa (kPv (ag isAgg9 aa aa) aa ?_)))
  refine fZ (f:=f) (r:=r) (H1:=Hx x++(row b1 [str q] 9::row b2 [.string ⟨#[10]⟩] 9::row b3 [i64 0] 3::E)) aa aa (fun w hh=>hh.perm (vP (Hx x) E)) (by rw[hrp];rfl) hrf ((hround q x (by omega) hIx).2 (row b1 [str q] 9::row b2 [.string ⟨#[10]⟩] 9::row b3 [i64 0] 3::E)) .free aa ?_ ?_
  rotate_left
  ·rintro _ _ ⟨⟩
  rintro _ _ ⟨rfl,rfl⟩
  refine aK (fun w hh=>hh.perm (vP (Hx (st q x).2) E).symm) (ad (aj [] rfl ?_))
  exact cG results212 (fun w hh=>⟨_,⟨by rw[hinv,sn hneg,Bf];exact(hround q x (by omega) hIx).1,by rw[hinv,sn hneg,Bf]⟩,(hh.dp [0,0,0])⟩)
 ·obtain⟨i,hi,hil⟩:=Bg (show ¬ Lib.indexByte q 10<0 by simpa using h33)
  rw[hi]
  refine aw (ac (ab (kPv (ag isAgg9 aa aa) aa (kPm aa aa (kPv (ag isAgg3 aa aa) aa (kPv (iT aa aa (show IntKind.i64.wrap ((i:Int)+0)=i by rw[Int.add_zero];exact hG (by omega))) aa (kPv (qW runUnderlying9 aa aa (by omega) (by omega)) aa (kPa aa aa (ad (aj [8,7,0,1,2,3] rfl (ac ?_)))))))))))
  refine ac (ab (kPm aa aa (kPm aa aa ?_)))
  refine fZ (f:=f) (r:=r) (H1:=Hx x++(row b1 [str q] 9::row b2 [.string ⟨#[10]⟩] 9::row b3 [i64 0] 3::E)) aa aa (fun w hh=>hh.perm (vP (Hx x) E)) (by rw[hrp];rfl) hrf ((hround (q.take i) x (by rw[List.length_take];omega) hIx).2 (row b1 [str q] 9::row b2 [.string ⟨#[10]⟩] 9::row b3 [i64 0] 3::E)) .free aa ?_ ?_
  rotate_left
  ·rintro _ _ ⟨⟩
  rintro _ _ ⟨rfl,rfl⟩
  refine aK (fun w hh=>hh.perm (vP (Hx (st (q.take i) x).2) E).symm) (kPv (bu aa) aa (ad ?_))
  refine aV aa (fun h42=> ?_) (fun h42=> ?_)
  ·have hg:(st (q.take i) x).1=false:=by simpa using h42
   have hres:itl st (spl 10 s) x0=st (q.take i) x:=by rw[hinv,sm hi];exact zs hg
   refine au ?_
   exact ja results212 (fun w hh=>⟨_,⟨by rw[hres];exact(hround (q.take i) x (by rw[List.length_take];omega) hIx).1,by rw[hres]⟩,(hh.dp [0,0,0])⟩)
  ·have hg:(st (q.take i) x).1=true:=by simpa using h42
   have hlr:lst r cd (st (q.take i) x)=r:=by unfold lst;rw[if_pos hg]
   refine aw (ab (kPv (ag isAgg9 aa aa) aa (kPm aa aa (kPv (ag isAgg9 aa aa) aa (kPv (nS aa runUnderlying9 aa) aa (kPv (iT aa aa (show IntKind.i64.wrap ((i:Int)+(([10]:List UInt8).length:Int))=((i+1:Nat):Int) by simp only[List.length_cons,List.length_nil];rw[hG (by omega)];omega)) aa (kPv (qV (i:=((i+1:Nat):Int)) runUnderlying9 aa aa (by omega) (by omega)) aa ?_)))))))
   refine kPs (aO sizeOf9 aa aa (by first | rfl | assumption) rfl) rfl ?_;refine ad ?_;refine aj [0,1,2,3] rfl ?_
   exact fun a w st_=>⟨(q.drop (i+1),(st (q.take i) x).2),⟨by rw[List.length_drop];omega,(hround (q.take i) x (by rw[List.length_take];omega) hIx).1,by rw[hinv,sm hi];simp only[itl];rw[if_pos hg]⟩,by rw[List.length_drop];omega,st_.to (aG aa) (fun hh=>(by have hh:=hh;rw[hlr] at hh;exact hh))⟩
theorem lI:∀ (l:List UInt8) (st:Option (List UInt8)),(tok l st).length≤l.length+1∧∀ p∈tok l st,p.length≤l.length+(st.getD []).length
 | [],st=>by cases st<;>simp[tok]
 | x::t,st=>by
   have h1:=lI t none
   have h2:=lI t (some (st.getD []++[x]))
   unfold tok
   split
   ·cases st with
    | none=>exact⟨by simp only[List.length_cons];omega,fun p hp=>by have:=h1.2 p hp;simp at this ⊢;omega⟩
    | some c=>
      refine⟨by simp only[List.length_cons];omega,fun p hp=> ?_⟩
      rcases List.mem_cons.1 hp with rfl | hp
      ·simp
      ·have:=h1.2 p hp;simp at this ⊢;omega
   ·exact⟨by simp only[List.length_cons];omega,fun p hp=>by have:=h2.2 p hp;simp at this ⊢;omega⟩
theorem w5{p:List UInt8}(hp:p.length≤100000)(i:Nat):((tok (ee p) none).getD i []).length≤1000000:=by
 have h:=(lI (ee p) none).2
 have h2:=pD p
 rw[List.getD_eq_getElem?_getD]
 cases e:(tok (ee p) none)[i]? with
 | none=>simp
 | some q=>have:=h q (List.mem_of_getElem? e);simp at this ⊢;omega
theorem AJ{p:List UInt8}(hp:p.length≤100000):(tok (ee p) none).length≤1000000:=by
 have h:=(lI (ee p) none).1
 have h2:=pD p
 omega
theorem y5(B:World)(Fr:List HP)[cF Fr B](gl:GL B)(fg:FG B)(s:List UInt8):
 ∀ w,Holds B Fr w→Calls Tryz.prog 118 [str s].toArray w (Ret B (fun rv H'=>∃ sv,aN sv=true∧rv= .tuple #[sv,i64 (gW s).2.1,i64 (gW s).2.2]∧H'=mu 0 (sv,(gW s).1)::Fr) (fun _ _=>False)):=by
 refine eK func118 aa ntmps118 aa (ac (ab (kPb (cm zeroValue164 aa) aa fun b2=>(kPb (cm zeroValue3 aa) aa fun b3=>(kPb (cm zeroValue40 aa) aa fun b4=>(ad (wu (ac (ac (ab (kPm aa aa ?_)))))))))))
 refine kPv (nS aa runUnderlying9 aa) aa (kPv (am aa aa aa) aa (ad ?_))
 refine aV aa (fun h13=> ?_) (fun h13=> ?_)
 ·have hsl:65536<s.length:=by simp at h13;omega
  have hres:gW s=([],0,11):=by unfold gW;rw[if_pos hsl]
  refine ac (ab ?_)
  refine kPs (aO sizeOf164 aa aa (by first | rfl | assumption) rfl) rfl ?_;refine kPs (aO sizeOf3 aa aa aa aa) aa ?_;refine kPs (aO sizeOf40 aa aa aa aa) aa ?_;refine ad ?_;refine au ?_
  exact rm results118 (.nil) (.aN aa isAgg164 aa) (.aN aa isAgg3 aa) (.aN aa isAgg40 aa) (fun w hh=>⟨_,⟨.slice none 0 0,rfl,by rw[hres],rfl⟩,by rw[hres];exact pE ((hh.dp [0,0,0]))⟩)
 ·have hsl:s.length≤65536:=by simp at h13;omega
  refine aw (ac (ab (kPb (cm zeroValue164 aa) aa fun b5=>(ad (ac (ab (kPb (cm zeroValue3 aa) aa fun b6=>(kPs (aO sizeOf3 aa aa aa aa) aa (ad (ac (ww ?_)))))))))))
  refine ac (ac (ab (kPm aa aa (aE aa (ar call164 aa) (yA B _ s) .free aa aa ?_))))
  rintro _ _ ⟨c1,c2,c3,rfl,rfl⟩
  refine ad (aI (kU aa call212 ?_))
  intro l m tmps hts hkn w hh
  have hk2:=hkn 2 _ rfl
  have hk3:=hkn 3 _ rfl
  have hk4:=hkn 4 _ rfl
  have hk5:=hkn 5 _ rfl
  have hk6:=hkn 6 _ rfl
  refine(yB B (blk m (.deferred (some []))::Fr) l 118 c1 c2 c3 65536 s hsl (by decide) PSt _ aa aa (fun x=>x.2.1.length≤400) (fun x=>[row b6 [i64 x.1] 3,Dm b5 x.2.1,row b2 [.slice none 0 0] 164,row b3 [i64 x.2.2.2.1] 3,row b4 [i64 x.2.2.2.2] 40]) (fun _=> .ret) stP p0 (Nat.zero_le _) ?_ w (by have h1:=(hh.pk [6,4,3,2,0,1,3,2,1]);exact(jr aa ((pE h1).pk [1])).pk [1,1,1,1,1])).mono (Ret.mono ?_ fun _ _ h=>h.elim)
  ·intro p x hpl hxl
   refine⟨?_,fun E hE=> ?_⟩
   ·unfold stP;simp only;split
    ·exact hxl
    ·split
     ·exact hxl
     ·split
      ·exact hxl
      ·simp only[List.length_append,List.length_cons,List.length_nil];omega
   simp only[List.cons_append,List.nil_append]
   refine gI (n:=42) (σ:=[(16,str p),(2,ptr b2),(3,ptr b3),(4,ptr b4),(5,ptr b5),(6,ptr b6)]) func118 (by simp[fT,hts]) (KnA.knows (by simp[KnA,fT,hts];exact⟨(Array.getElem?_eq_some_iff.1 hk2).2,(Array.getElem?_eq_some_iff.1 hk3).2,(Array.getElem?_eq_some_iff.1 hk4).2,(Array.getElem?_eq_some_iff.1 hk5).2,(Array.getElem?_eq_some_iff.1 hk6).2⟩)) aa ?_
   refine ab (kPa aa aa (ad (kr (aI (ac (ab (kPv (ag isAgg3 aa aa) aa (kPv (iT aa aa aa) aa (kPs (aO sizeOf3 aa aa aa aa) aa (ad (ac ?_)))))))))))
   refine ab (kPm aa aa (aE aa (ar call165 aa) (ym _ _ p (by omega)) .free aa aa ?_))
   rintro sv _ rfl
   refine kPa aa aa (ad (ac (ac (Bn fun q cap hq hcap hqi=> ?_))))
   subst hq
   refine ab (kPm aa aa (kPv (bS aa runUnderlying230 ⟨_,rfl⟩ rfl) aa (kPv (am aa aa aa) aa (ad (aj [23,8,2,3,4,5,6] rfl ?_)))))
   refine aV aa (fun h23=> ?_) (fun h23=> ?_)
   ·have hws:(tok (ee p) none)=[]:=List.eq_nil_of_length_eq_zero (by simp at h23;simpa using h23)
    refine bJ ?_
    have hst:stP p x=(true,IntKind.i64.wrap (x.1+1),x.2.1,x.2.2):=by unfold stP;simp only;rw[if_pos hws]
    refine aM [1] ?_
    exact kq fun w hh=>⟨_,⟨by rw[hst],rfl⟩,by rw[hst];exact(hh.dp [1])⟩
   ·have hws:¬ (tok (ee p) none)=[]:=fun e=>by simp[e] at h23
    refine aw (ac (ac (aM [3] (wo fun rv hrv=>(aM [1] (wr fun rs hrs=>(pl fun q2 cap2 hq2 hqi2=> ?_)))))))
    subst hq2
    have hrl:rs.length=x.2.1.length:=by rw[←hrs.1,List.length_map]
    refine ab (kPv (ag isAgg164 aa aa) aa (kPv (bS aa runUnderlying164 ⟨_,rfl⟩ rfl) aa (kPv (am aa aa aa) aa (ad ?_))))
    refine aV aa (fun h26=> ?_) (fun h26=> ?_)
    ·have h400:x.2.1.length=400:=by simp at h26;omega
     refine ac (cQ [0,1,2,3] [1,2,3] [0] [1] [row b6 ([i64 x.1].set 0 (i64 (IntKind.i64.wrap (x.1+1)))) 3] Tryz.mixed (by kernel_rfl) ?_)
     refine an aa aa aa (ag isAgg3 aa aa) .free aa (aS aa aa ?_)
     refine kPs (aO sizeOf164 aa aa (by first | rfl | assumption) rfl) rfl ?_;refine ad ?_;refine cL ?_;refine aS aa aa ?_;refine kPs (aO sizeOf3 aa aa aa aa) aa ?_;refine ad ?_
     refine cZ aa (aS aa aa (kPs (aO sizeOf40 aa aa aa aa) aa (ad (cZ aa (cM (au ?_))))))
     have hst:stP p x=(false,IntKind.i64.wrap (x.1+1),x.2.1,[],IntKind.i64.wrap (x.1+1),11):=by unfold stP;simp only;rw[if_neg hws,if_pos (by omega)]
     refine aM [4] ?_
     exact wp fun w hh=>⟨_,⟨by rw[hst],rfl⟩,by rw[hst];exact(by have h1:=((hh.dp [4]).pk [1,1,1]);exact(jr hrv ((jS hrs h1).pk [1])).pk [1,1])⟩
    ·have h400:¬ x.2.1.length=400:=by simp at h26;omega
     refine aw (ac ?_)
     obtain⟨bq,oq,rfl⟩:=hqi (by cases h:(tok (ee p) none) with | nil=>exact absurd h hws | cons a t=>simp)
     have hwl0:0<(tok (ee p) none).length:=by cases h:(tok (ee p) none) with | nil=>exact absurd h hws | cons a t=>simp
     refine ab (kPm aa aa (aM [3] (aE aa (ar call166 aa) (zn B _ gl fg (tok (ee p) none) (by omega) (AJ (by omega)) (w5 (by omega)) _ _ _ hcap (yw 0 aa)) .free aa aa ?_)))
     rintro _ _ ⟨sv9,hsv9,rfl,rfl⟩
     refine kPm aa aa (kPv (az aa aa) aa (kPv (az aa aa) aa (kPb (aD zeroValue33 aa) aa fun b9=>(kPs (aA (vs:=[i64 (di (tok (ee p) none)).1.1,sv9]) sizeOf33 aa aa aa (show([i64 (di (tok (ee p) none)).1.1,sv9]:List Value).all aN=true by simp only[List.all_cons,List.all_nil,hsv9];rfl) aa) aa (kPa aa aa (ad (aj [10,9,2,3,4,5,6] rfl (ac (ac (ab (kPm aa aa ?_)))))))))))
     refine kPv (am aa aa aa) aa (ad ?_)
     refine aV aa (fun h34=> ?_) (fun h34=> ?_)
     ·have he0:(di (tok (ee p) none)).2≠0:=by simpa using h34
      refine ac (cQ [0,1,2,3,4] [2,3,4] [0,1] [2,3] [row b6 ([i64 x.1].set 0 (i64 (IntKind.i64.wrap (x.1+1)))) 3] Tryz.mixed (by kernel_rfl) ?_)
      refine an aa aa aa (ag isAgg3 aa aa) .free aa (an aa aa aa (al aa) .free aa (aS aa aa ?_))
      refine kPs (aO sizeOf164 aa aa (by first | rfl | assumption) rfl) rfl ?_;refine ad ?_;refine cL ?_;refine aS aa aa ?_
      refine kPs (aO sizeOf3 aa aa aa aa) aa (ad (cL (aS aa aa (kPs (aO sizeOf40 aa aa aa aa) aa (ad (cZ aa (cM (au ?_))))))))
      have hst:stP p x=(false,IntKind.i64.wrap (x.1+1),x.2.1,[],IntKind.i64.wrap (x.1+1),(di (tok (ee p) none)).2):=by unfold stP;simp only;rw[if_neg hws,if_neg (by omega),if_pos he0]
      refine aM [6] ?_
      exact wp fun w hh=>⟨_,⟨by rw[hst],rfl⟩,by rw[hst];exact(by have h1:=((hh.dp [1,1,1]).pk [1,1,1]);exact(jr hrv ((jS hrs h1).pk [1])).pk [1,1])⟩
     ·have he0:(di (tok (ee p) none)).2=0:=by simpa using h34
      refine aw (aM [1] (zF fun q3 c3 hq3=> ?_))
      subst hq3
      refine ab (kPv (ag isAgg164 aa aa) aa (kPv (ah isAgg33 sizeOf33 aa aa) aa ?_))
      refine kPb (pG tO (v:=((di (tok (ee p) none)).1.1,(q3,(di (tok (ee p) none)).1.2.length,c3),(di (tok (ee p) none)).1.2)) runUnderlying164 sizeOf33 zeroValue33 ⟨⟨by decide,by decide⟩,rfl⟩ rfl aa) aa fun b39=>(aM [4,0] (cX aa (kH tO (ys:=[((di (tok (ee p) none)).1.1,(q3,(di (tok (ee p) none)).1.2.length,c3),(di (tok (ee p) none)).1.2)]) aa aa runUnderlying164 runUnderlying164 ⟨_,rfl⟩ sizeOf33 zeroValue33 aa Dt aa aa (SlM.row (b:=b39) aa aa) (Nat.succ_pos _) (by simp;omega)) .free aa aa ?_))
      rintro rv2 _ ⟨hrv2,rfl⟩
      refine kPs (aO sizeOf164 aa aa (by first | rfl | assumption) rfl) rfl ?_;refine ad ?_;refine aj [2,3,4] rfl ?_
      have hst:stP p x=(true,IntKind.i64.wrap (x.1+1),x.2.1++[(di (tok (ee p) none)).1],x.2.2):=by unfold stP;simp only;rw[if_neg hws,if_neg (by omega),if_neg (by simpa using he0)]
      refine aM [7] ?_
      exact kq fun w hh=>⟨_,⟨by rw[hst],rfl⟩,by rw[hst];exact(by have h1:=((hh.dp [2,3,3]).pk [3,2,1,1]);have h2:=xw (t:=((di (tok (ee p) none)).1.1,(q3,(di (tok (ee p) none)).1.2.length,c3),(di (tok (ee p) none)).1.2)) h1;exact(jr hrv2 ((jS (hrs.push aa) (h2.pk [1])).pk [1])).pk [1,1])⟩
  rintro _ _ ⟨_,rfl⟩
  simp only[List.cons_append,List.nil_append]
  refine⟨_,_,fun w hh=>hh,kh (by simp[fT]),fun hp=> ?_,fun c' hc'=> ?_⟩
  rotate_left
  ·obtain⟨h1,rfl⟩:=kg rfl hc'
   refine au ?_
   have hres:gW s=(itl stP (spl 10 s) p0).2.2.2:=by unfold gW;rw[if_neg (by omega),if_neg (by rw[h1];decide)]
   have hbad:=vD _ _ h1
   exact rm results118 (.at 6 .nil) (.aN aa isAgg164 aa) (.aN aa isAgg3 aa) (.aN aa isAgg40 aa) fun w hh=>⟨_,⟨.slice none 0 0,rfl,by rw[hres],rfl⟩,by rw[hres,hbad];exact pE ((hh.dp [0,0,0,0,0,0,0]))⟩
  have hres:gW s=((itl stP (spl 10 s) p0).2.2.1,0,0):=by unfold gW;rw[if_neg (by omega),if_pos (sZ hp)]
  refine aM [2] (wo fun rv hrv=>(ac (ab (kPv (ag isAgg164 aa aa) aa ?_))))
  refine kPs (aO sizeOf164 aa aa (by first | rfl | assumption) rfl) rfl ?_;refine kPs (aO sizeOf3 aa aa aa aa) aa ?_;refine kPs (aO sizeOf40 aa aa aa aa) aa ?_;refine ad ?_;refine aj [4,3,2] rfl ?_;refine au ?_
  exact rm results118 (.at 7 (.nil)) (.aN aa isAgg164 aa) (.aN aa isAgg3 aa) (.aN aa isAgg40 aa) (fun w hh=>⟨_,⟨rv,hrv,by rw[hres],rfl⟩,by rw[hres];exact(hh.dp [0,1,1,1,1,1,1])⟩)
theorem CQ{l:List (List UInt8)}{p:List UInt8}{x:PSt}(h:(stP p x).1=true):itl stP (p::l) x=itl stP l (stP p x).2:=by
 rw[itl,if_pos h]
theorem xr{s:List UInt8}{y:List Cmd×Int×Int}{a:Int}{o:List Cmd}(hs:s.length≤65536)(h:itl stP (spl 10 s) p0=(true,a,o,y)):gW s=(o,0,0):=by
 unfold gW;rw[if_neg (by omega),if_pos (by rw[h]),h]
def awS:List UInt8:=[97,108,108,111,99,32,49,32,50,32,35,32,97,32,110,111,100,101]
theorem D7:num [49]=some 1:=by rw[←wK];rfl
theorem D6:num [50]=some 2:=by rw[←wK];rfl
theorem Aw:gW awS=([(3,[1,2])],0,0):=by
 have h1:spl 10 awS=[awS]:=by decide
 have h2:tok (ee awS) none=[[97,108,108,111,99],[49],[50]]:=by decide
 have h3:di [[97,108,108,111,99],[49],[50]]=((3,[1,2]),0):=vX (ws:=[[97,108,108,111,99],[49],[50]]) (k:=3) (by decide) rfl (by simp[jb,D7,D6])
 have h4:stP awS p0=(true,1,[(3,[1,2])],[],0,0):=by
  unfold stP p0
  simp only
  rw[h2,h3]
  rfl
 exact xr (by decide) (by rw[h1,CQ (by rw[h4]),h4];rfl)
theorem Ao{rs:List CR}(h:rO rs [(3,[1,2])]):∃ q c,rs=[(3,(q,2,c),[1,2])]:=by
 obtain⟨h1,h2⟩:=h
 match rs,h1 with
 | [(k,(q,n,c),l)],h1=>
   simp only[List.map_cons,List.map_nil,crC,List.cons.injEq,Prod.mk.injEq,and_true] at h1
   obtain⟨rfl,rfl⟩:=h1
   have h3:n=2:=h2 _ (List.mem_cons_self ..)
   subst h3
   exact⟨q,c,rfl⟩
theorem qX{B:World}{P:Program}{σ:Env}{H:List HP}{d:Option Tmp}{ty:TypeId}{p:String}{af:Array Edge}{g:Option (Nat×Bool)}{t:TypeId}{x:Operand}{b off k i j m cap:Nat}{cs:List (List Value)}{c:List Value}{v:Value}(ht:∀ w,(isAgg t).run P w= .ok false w)(hr:SlN B H (.slice (some ⟨b,off,none⟩) k cap) m cs)(hx:evO σ x=some (.pointer (some ⟨b,off+i*m+j,none⟩)))(hi:cs[i]? =some c)(hj:c[j]? =some v):
 Evs P B σ H ⟨d,.load t x,ty,p,af,g⟩ v:=by
 intro a w kn hh
 obtain⟨q,cp,e,hc⟩:=hr.ex
 obtain⟨b',off',e',hl,h2⟩:=hc w hh i c hi
 cases e
 cases e'
 have h3:=h2 j (by rw[←hl];exact(List.getElem?_eq_some_iff.1 hj).1)
 rw[hj, ←Nat.add_assoc] at h3
 simp[execOp,kn.eval hx,Instr.loadAt,Instr.sureAddr,loadVar,ht,load,Sem.run,h3]
theorem C6{B:World}{H:List HP}{q:Option Addr}{c b:Nat}(h:SlR B H (.slice q 2 c) [w64 1,w64 2])(g:SlR B H (.slice (some ⟨b,0,none⟩) 2 2) [w64 1,w64 2]):
 ∀ w,Holds B H w→Calls Tryz.prog 20 [.slice q 2 c,.slice (some ⟨b,0,none⟩) 2 2].toArray w (aZ B H (.bool true)):=fun w hw=>
 Ab B H q (some ⟨b,0,none⟩) c 2 [1,2] [1,2] (by decide) (by decide) (fun i hi=>B4 h hw i hi) (fun _ _=>⟨_,_,rfl⟩) h g w hw
theorem BY:o7 (3,[1,2])=[97,108,108,111,99,32,49,32,50]:=by
 unfold o7
 rw[if_neg (by decide)]
 show([97,108,108,111,99]++([32]++Lib.decDigits 1))++([32]++Lib.decDigits 2)=_
 rw[iV (by decide),iV (by decide)]
 rfl
theorem Di{B:World}{H:List HP}[cF H B](gl:GL B)(fg:FG B){q:Option Addr}{c:Nat}(h:SlR B H (.slice q 2 c) [w64 1,w64 2]):
 ∀ w,Holds B H w→Calls Tryz.prog 119 [.agg #[i64 3,.slice q 2 c]].toArray w (aZ B H (str [97,108,108,111,99,32,49,32,50])):=fun w hw=>by
 rw[←BY]
 exact An B H gl fg 3 q c [1,2] (by decide) (by decide) h (fun i hi=>B4 h hw i hi) w hw
theorem vh(B:World)(Fr:List HP)[cF Fr B](gl:GL B)(fg:FG B):
 ∀ w,Holds B Fr w→Calls Tryz.prog 54 [].toArray w (aZ B Fr (.bool true)):=by
 refine ak func54 aa ntmps54 aa (ac (ab (kPa aa aa (ad (ac (ac (ab (ap aa (ar call117 aa) (vi _ _) .free aa aa ?_))))))))
 refine kPv (bu aa) aa (ad (bH aa (rfl) (aw (ac (ab (aE aa (ar call118 aa) (y5 B Fr gl fg awS) .free aa aa ?_))))))
 rintro _ _ ⟨sv,hsv,rfl,rfl⟩
 rw[Aw]
 refine kPm aa aa (kPv (az aa aa) aa (kPv (az aa aa) aa (kPv (az aa aa) aa (kPa aa aa (kPa aa aa (kPa aa aa (ad (aj [3,2,1,0] rfl (ac (wr fun rs hrs=> ?_))))))))))
 obtain⟨qa,ca,hrs1⟩:=Ao hrs
 subst hrs1
 refine pl fun q4 cap4 hq4 hqi4=> ?_
 subst hq4
 obtain⟨b4,o4,rfl⟩:=hqi4 0 (Nat.zero_lt_succ _)
 refine ab (kPm aa aa (kPv (am aa aa aa) aa (kPm aa aa (ao aa (al aa) (.on aa aa (ae aa)) aa aa (ao aa (am aa aa aa) (.on aa aa (ae aa)) aa aa (kPv (aB aa aa aa) aa (kPm aa aa (ao aa (al aa) (.on aa aa (ae aa)) aa aa (ao aa (bS aa runUnderlying164 ⟨_,rfl⟩ rfl) (.on aa aa (ae aa)) aa aa (ao aa (am aa aa aa) (.on aa aa (ae aa)) aa aa (kPv (aB aa aa aa) aa ?_)))))))))))
 refine kPm aa aa (ao aa (al aa) (.on aa aa (ae aa)) aa aa (ao aa (qY (sz:=2) (m:=o4+0*2) runUnderlying164 sizeOf33 aa aa (by decide) (by simp) aa) (.on aa aa (ae aa)) aa aa (ao aa (aC (m:=_) jO aa aa) (.on aa aa (ae aa)) aa aa (ao aa (qX (i:=0) (j:=0) (c:=crE (3,(qa,2,ca),[1,2])) (v:=i64 3) isAgg31 (lH tO 0 aa) aa aa aa) (.on aa aa (ae aa)) aa aa (ao aa (am aa aa aa) (.on aa aa (ae aa)) aa aa (kPv (aB aa aa aa) aa (kPm aa aa (ao aa (al aa) (.on aa aa (ae aa)) aa aa (ao aa (qY (sz:=2) (m:=o4+0*2) runUnderlying164 sizeOf33 aa aa (by decide) (by simp) aa) (.on aa aa (ae aa)) aa aa (ao aa (aC (m:=_) iL aa aa) (.on aa aa (ae aa)) aa aa (ao aa (qX (i:=0) (j:=1) (c:=crE (3,(qa,2,ca),[1,2])) (v:= .slice qa 2 ca) isAgg22 (lH tO 0 aa) aa aa aa) (.on aa aa (ae aa)) aa aa ?_)))))))))))
 refine cX aa (vc runUnderlying22 sizeOf24 zeroValue24 aa aa aa aa aa) (.on aa aa (ae aa)) aa aa ?_
 rintro _ _ ⟨b34,rfl,rfl⟩
 refine ap aa (ar call20 aa) (C6 (sP 2 aa (t:=(3,(qa,2,ca),[1,2])) (List.mem_cons_self ..) aa) (SlR.row (b:=b34) (n:=2) (cap:=2) (off:=0) (cs:=[w64 1,w64 2]) aa aa)) (.on aa aa (ae aa)) aa aa ?_
 refine kPv (aB aa aa aa) aa (kPm aa aa (ao aa (al aa) (.on aa aa (ae aa)) aa aa (ao aa (qY (sz:=2) (m:=o4+0*2) runUnderlying164 sizeOf33 aa aa (by decide) (by simp) aa) (.on aa aa (ae aa)) aa aa (ao aa (mj (i:=0) (c:=crE (3,(qa,2,ca),[1,2])) isAgg33 sizeOf33 (lH tO 1 aa) aa aa) (.on aa aa (ae aa)) aa aa (ap aa (ar call119 aa) (Di gl fg (sP 2 aa (t:=(3,(qa,2,ca),[1,2])) (List.mem_cons_self ..) aa)) (.on aa aa (ae aa)) aa aa ?_)))))
 refine ao aa (py aa aa aa) (.on aa aa (ae aa)) aa aa (kPv (aB aa aa aa) aa (kPa aa aa (ad (aj [0] rfl (au ?_)))))
 exact aq results54 aa (fun w hw=>⟨by rfl,(hw.dp [0,0,0])⟩)
theorem qA{P:Program}{n:String}{d:DataW Unit}{r:List (String×DataW Unit)}{W:World}{g:Nat}{t:TypeId}(h:laidMet P ((n,d)::r) W)(hg:P.globalNamed n=some g)(ht:(P.globals[g]?).map (·.type)=some t):
 ∃ cs fuel p,W.var? P n=some cs∧DataW.trod (fun _=>()) P W 0 (fun _=>true) false fuel t cs.toList=some (d,p):=by
 obtain⟨ps,⟨g',t',cs,fuel,p,q,hg',ht',hv,hd,_⟩,_⟩:=h
 obtain rfl:=Option.some.inj (hg.symm.trans hg')
 obtain rfl:=Option.some.inj (ht.symm.trans ht')
 exact⟨cs,fuel,p,hv,hd⟩
theorem Co(s:ByteArray):str s.data.toList= .string s:=by
 show Value.string ⟨s.data.toList.toArray⟩=_
 rw[Array.toArray_toList]
theorem uW{H:Type}{enc:TypeId×Value→H}{P:Program}{W:World}{base fuel:Nat}{sp:Nat→Bool}{held:Bool}{TE:TypeId}{cs:List Value}{f0 f1:Field}{l:List UInt8}{n:Int}{p:List MemPlace}
 (ht:P.underlying TE=some (.struct #[f0,f1])) (o0:f0.offset=0) (o1:f1.offset=1) (c0:P.cellsOf f0.type=1) (c1:P.cellsOf f1.type=1) (cT:P.cellsOf TE=2) (h0:P.underlying f0.type=some .string) (h1:P.underlying f1.type=some (.int .i64))
 (h:DataW.trod enc P W base sp held fuel TE cs=some (.agg [.lit (.string l),.lit (.int .i64 n)],p)):cs=[str l,.int .i64 n]:=by
 obtain⟨y0,y1,m,e,hl,g0,g1⟩:=Go.ChangeShapes.trod_struct2 ht h
 rw[o0,c0] at g0
 rw[o1,c1] at g1
 rw[cT] at hl
 match cs,hl with
 | [u,v],_=>
   obtain⟨s,es,ey,_⟩:=DataW.trod_string h0 g0
   obtain⟨k,ek,ez,_⟩:=DataW.trod_int h1 g1
   have es:[u]=[Value.string s]:=es
   have ek:[v]=[Value.int .i64 k]:=ek
   cases es;cases ek
   rw[ey,ez] at e
   simp only[Prod.mk.injEq,DataW.agg.injEq,List.cons.injEq,DataW.lit.injEq,Lit.string.injEq,Lit.int.injEq,true_and,and_true] at e
   obtain⟨⟨rfl,rfl⟩,_⟩:=e
   rw[Co]
theorem rk{H:Type}{enc:TypeId×Value→H}{C:Checked}{os:Os}{f:FuncId}{fn:Func}{s:ChangeSpec}{conds:List PathCond}{apart fresh handsOn again:Bool}{laid:List (String×DataW Unit)}
 (own:ownKnob C.prog.godebug=none) (started:os.Started) (noInit:C.prog.inits.idxOf? f=none) (hfn:C.prog.funcs[f]? =some fn)
 (witness:∃ (w:World) (tape:Tape) (i:Input),w.os=os∧(w.forCall tape i).Shaped C.prog∧i.vars=[]∧Input.okWide C.prog (w.forCall tape i) .any w.heap.size f i∧
  ((s.pre enc C.prog fn conds apart (w.forCall tape i).memory i.args∧laidMetH C.prog laid (w.forCall tape i).memory)∧sizedMet enc C.prog fn (OpenSpec.ofChange s) apart (w.forCall tape i).memory i.args)∧({}:Assume).holds C.prog (lone (Frame.enter C.prog f i.args .normal) [] (w.forCall tape i)))
 (contract:∀ (W:World) (base:Nat) (args:Array Value) (ds gs:List (DataW H)) (before:List MemPlace),(∀ (j:Nat) t v,fn.params[j]? =some t→args[j]? =some v→Value.okWide C.prog W .any base t v)→
  DataW.Whole enc C.prog fn.params.toList s.vars apart W args.toList ds gs before→conds.all (PathCond.test C.prog ⟨fn.params.toList,ds,s.plain.varTypes C.prog,gs⟩)=true→laidMetH C.prog laid W→W.ShapedOpen C.prog→
  Calls C.prog f args W fun e W'=>∃ v,e= .returned v∧s.post enc C.prog fn apart fresh handsOn again W args v W'):
 ReturnsInHanded {} C os f .any (fun w args=>(s.pre enc C.prog fn conds apart w args∧laidMetH C.prog laid w)∧sizedMet enc C.prog fn (OpenSpec.ofChange s) apart w args) (s.post enc C.prog fn apart fresh handsOn again):=by
 refine returnsInHanded_of_calls own started noInit witness ?_
 intro w tape i _ hsh _ hok hpre _
 obtain⟨_,_,_,fn',hfn',_,_,_,_,hval⟩:=hok
 obtain rfl:fn'=fn:=Option.some.inj (hfn'.symm.trans hfn)
 obtain⟨⟨⟨ds,gs,before,hw,hc⟩,hx⟩,hz⟩:=hpre
 refine(contract (w.forCall tape i) w.heap.size i.args ds gs before hval (DataW.Whole.of_heap (w':=w.forCall tape i) (by rfl) hw) hc (laidMetH.of_heap (by rfl) hx) hsh).mono fun e W' ⟨v,he,hp⟩=> ?_
 subst he
 exact ChangeSpec.post_blind hp
def zO{H:Type}(k:Nat):DataW H:= .agg [.lit (.string (fw k)),.lit (.int .i64 (fm k))]
set_option maxRecDepth 100000 in
theorem DN{W:World}{r:List (String×DataW Unit)}(h:laidMet Tryz.prog (("tumulus/script.forms",Rows.laid_tumulus_script_forms)::r) W):FG W:=by
 obtain⟨cs,fuel,p,hv,hd⟩:=qA (g:=0) (t:=235) h (by kernel_rfl) (by kernel_rfl)
 obtain⟨xs,m,_,ex,_,hxl,hel⟩:=DataW.trod_array underlying235 hd
 have em:xs.map (·.1)=(List.range 18).map zO:=(DataW.agg.inj (Prod.mk.inj ex).1).symm.trans (by kernel_rfl)
 have c2:Tryz.prog.cellsOf 234=2:=by kernel_rfl
 have each:∀ i,i<18→(cs.toList.drop (i*2)).take 2=[str (fw i),i64 (fm i)]:=fun i hi=>by
  have h1:=hel i hi
  rw[c2,List.getElem?_eq_getElem (by omega)] at h1
  have h2:(xs[i]'(by omega)).1=zO i:=by
   have:=congrArg (fun l=>l[i]?) em
   simp only[List.getElem?_map,List.getElem?_eq_getElem (show i<xs.length by omega),List.getElem?_range hi,Option.map_some,Option.some.injEq] at this
   exact this
  rw[show xs[i]'(by omega)=(zO i,(xs[i]'(by omega)).2) from Prod.ext h2 rfl] at h1
  exact uW underlying234 aa aa (by kernel_rfl) (by kernel_rfl) (by kernel_rfl) underlying9 underlying3 h1
 refine⟨fun i hi=>⟨_,_,rfl,rfl,fun j hj=> ?_⟩⟩
 have h1:=each (j / 2) (by omega)
 have h2:=mO (j / 2) (by omega)
 have h3:=congrArg (fun l=>l[j%2]?) (h1.trans h2.symm)
 simp only[List.getElem?_take,List.getElem?_drop,if_pos (show j%2<2 by omega),show j / 2*2+j%2=j by omega] at h3
 rw[←h3,show 0+(i*36+j)=j by omega]
 exact(World.var?_cell (by kernel_rfl) hv j).trans (by simp)
set_option maxRecDepth 100000 in
theorem DD{W:World}{r:List (String×DataW Unit)}(hs:W.ShapedOpen Tryz.prog)(h:laidMet Tryz.prog (("math/bits.deBruijn32tab",Rows.laid_math_bits_deBruijn32tab)::("math/bits.deBruijn64tab",Rows.laid_math_bits_deBruijn64tab)::("internal/strconv.uint64pow10",Rows.laid_internal_strconv_uint64pow10)::("unicode/utf8.acceptRanges",Rows.laid_unicode_utf8_acceptRanges)::("strconv.ErrRange",Rows.laid_strconv_ErrRange)::("strconv.ErrSyntax",Rows.laid_strconv_ErrSyntax)::r) W):GL W:=by
 have h2:=h.tail.tail
 have h4:=h2.tail.tail
 have cell:∀ {nm:String} {d d2:DataW Unit} {r:List (String×DataW Unit)} {g ti:Nat},laidMet Tryz.prog ((nm,.iface "*errors.errorString" d)::r) W→Tryz.prog.globalNamed nm=some g→(Tryz.prog.globals[g]?).map (·.type)=some ti→ti=246→∃ te pe,W.cell? ⟨g,0,none⟩=some (.iface te pe):=by
  intro nm d d2 r g ti h hg ht e
  subst e
  obtain⟨cs,fuel,p,hv,hd⟩:=qA h hg ht
  obtain⟨_,u,v,e,_⟩:=iface_of_trod underlying246 hd
  refine⟨u,v,?_⟩
  rw[World.var?_cell hg hv 0, ←Array.getElem?_toList,e];rfl
 refine⟨Lib.tabIs_of_head (g:=1) (by kernel_rfl) (by kernel_rfl) underlying236 underlying24 (by kernel_rfl) (by kernel_rfl) (show laidMet Tryz.prog (("internal/strconv.uint64pow10",Lib.tabData .u64 Lib.pow10Tab)::_) W from h2),?_,cell (g:=7) (d2:= .nil) h4.tail (by kernel_rfl) (by kernel_rfl) aa,cell (g:=8) (d2:= .nil) h4 (by kernel_rfl) (by kernel_rfl) aa⟩
 exact cell_of_shapedOpen_int (g:=6) (zero:= #[.int .i64 0]) hs (by decide+kernel) (by kernel_rfl) (by kernel_rfl) (by kernel_rfl) (by kernel_rfl) underlying3
section
variable {c:Cfg} {N bd:Nat} {s:Dev}
theorem Cr(hc:bx c)(H:HC True c N bd (cz bd c s) s 0 0 []):(cz bd c s).stats s=⟨0,0,0,0,false⟩:=by
 have e1:(cz bd c s).blk s=tX c s.load 0 0:=by
  show(s.block c).1=_
  rw[H.hm.block]
 have e2:(cz bd c s).words=[]:=by unfold HpS.words cz;simp[cq]
 have e3:s.reachSize c (tX c s.load 0 0) ([]++(tX c s.load 0 0).rts)=0:=by
  refine lR hc H.hm.bw fun v hv=> ?_
  rw[List.nil_append] at hv
  obtain⟨i,hi,rfl⟩:=List.mem_map.1 hv
  have hi':=List.mem_range.1 hi
  have hr:=hc.r1
  rcases H.hm.roots i (by omega) with h | h
  ·exact h
  ·cases h
 unfold HpS.stats
 rw[e1,e2]
 have e4:(cz bd c s).S.L.n=0:=H.sk.ln
 rw[e4]
 show uf.mk 0 (s.reachSize c _ _) 0 0 false=_
 rw[e3]
theorem AA{x:List Int}{h':HpS}{s':Dev}{w r:Int}(hd:(cz bd c s).does s x h' s' (.alloc w r)):x=[0,2]∧h'=cz bd c s∧s'=s:=by
 obtain⟨a,e,rfl⟩:=hd
 have e2:(cz bd c s).alloc s w r= .ok ((0,2),cz bd c s) s:=by unfold HpS.alloc;rw[if_neg (by show ¬ (false=true);decide)]
 rw[e2] at e
 cases e
 exact⟨rfl,rfl,rfl⟩
end
theorem DC:Lib.itoa 0=[48]:=by
 unfold Lib.itoa
 rw[if_neg (by decide)]
 show Lib.decDigits 0=_
 rw[iV (by decide)];rfl
theorem DB:Lib.itoa 2=[50]:=by
 unfold Lib.itoa
 rw[if_neg (by decide)]
 show Lib.decDigits 2=_
 rw[iV (by decide)];rfl
section
variable {c:Cfg} {N bd:Nat} {s:Dev} {B:World} {Fr:List HP} [cF Fr B]
theorem Ad(gl:GL B)(hc:bx c)(hN:(N:Int)=c.words)(H:HC True c N bd (cz bd c s) s 0 0 [])(bp bh:Nat)(ch:Int):
 ∀ w,Holds B (bZ bh (cz bd c s)::ax bd s::cu bp bd (ptr bh) ch::Fr) w→Calls Tryz.prog 19 [ptr bp,.agg #[i64 14,.slice none 0 0]].toArray w (Ret B (fun rv H'=>∃ bh' h' s',rv=str [48,32,48,32,48,32,48,32,48]∧H'=bZ bh' h'::ax bd s'::cu bp bd (ptr bh') ch::Fr) (fun _ _=>False)):=by
 have hwb:=words_b hc
 have hsn:=H.sk.n
 have hst:=Cr hc H
 refine fun w hw=>(sG B Fr gl bp (cz bd c s) s ch H.hw.u (by omega) 14 (by decide) none 0 [] (fun n h=>by cases h) (by decide) SlR.nil (fun i h=>absurd h (Nat.not_lt_zero _)) aa (fun h9=>by omega) bh H.hw (by show(s.block c).2=0;rw[H.hm.block]) (fun h9=>by omega) (fun h9=>by omega) (fun _=>by rw[hst];exact⟨⟨by decide,by decide⟩,⟨by decide,by decide⟩,⟨by decide,by decide⟩,by decide,by decide⟩) w hw).mono fun e w' r=> ?_
 cases e with
 | returned rv=>
   obtain⟨H',r1,r2⟩:=r
   rcases r1 with ⟨l,bh',ho',s',ch',g1,rfl,rfl⟩ | ⟨s',pa,g1,rfl,rfl⟩
   ·rcases g1 with g1 | g1 | g1 | ⟨_,h0,h',e0,rfl,rfl,hp⟩
    ·have:=g1.1;omega
    ·have:=g1.1;omega
    ·cases g1.2.1
    ·cases e0
     rcases hp with ⟨h14,_⟩ | ⟨h15,_⟩ | ⟨_,rfl,rfl,rfl⟩
     ·omega
     ·omega
     ·refine⟨_,⟨bh',_,_,?_,rfl⟩,r2⟩
      rw[hst];unfold Du bI;simp[DC]
   ·rcases g1 with g1 | ⟨h14,_⟩
    ·have:=g1.1;omega
    ·omega
 | _=>exact r
theorem Ae(gl:GL B)(hc:bx c)(hN:(N:Int)=c.words)(H:HC True c N bd (cz bd c s) s 0 0 [])(bp bh:Nat)(ch:Int)(q:Option Addr)(cap:Nat)(hr:SlR B Fr (.slice q 2 cap) [w64 0,w64 1])(hq:∀ i,i<2→∃ b off,q=some ⟨b,off,none⟩):
 ∀ w,Holds B (bZ bh (cz bd c s)::ax bd s::cu bp bd (ptr bh) ch::Fr) w→Calls Tryz.prog 19 [ptr bp,.agg #[i64 3,.slice q 2 cap]].toArray w (Ret B (fun rv H'=>∃ bh' h' s',rv=str [101,114,114,111,114,32,50]∧H'=bZ bh' h'::ax bd s'::cu bp bd (ptr bh') ch::Fr) (fun _ _=>False)):=by
 have hwb:=words_b hc
 have hsn:=H.sk.n
 have hcl:cB 3 [0,1]= .alloc (nA [0,1] 1) (nA [0,1] 0):=rfl
 refine fun w hw=>(sG B Fr gl bp (cz bd c s) s ch H.hw.u (by omega) 3 (by decide) q cap [0,1] (by decide) (by decide) hr hq aa (fun h9=>by omega) bh H.hw (by show(s.block c).2=0;rw[H.hm.block]) (fun _ x h' s' hd=> ?_) (fun h9=>by omega) (fun h9=>by omega) w hw).mono fun e w' r=> ?_
 ·rw[hcl] at hd
  rw[(AA hd).1]
  exact⟨by decide,fun _=>by decide,fun a ha=>by cases ha;decide⟩
 cases e with
 | returned rv=>
   obtain⟨H',r1,r2⟩:=r
   rcases r1 with ⟨l,bh',ho',s',ch',g1,rfl,rfl⟩ | ⟨s',pa,g1,rfl,rfl⟩
   ·rcases g1 with g1 | g1 | g1 | ⟨_,h0,h',e0,rfl,rfl,hp⟩
    ·have:=g1.1;omega
    ·have:=g1.1;omega
    ·cases g1.2.1
    ·cases e0
     rcases hp with ⟨_,x,hd,rfl⟩ | ⟨h15,_⟩ | ⟨h14,_⟩
     ·rw[hcl] at hd
      refine⟨_,⟨bh',_,_,?_,rfl⟩,r2⟩
      rw[(AA hd).1]
      show str (sQ 0 2)=_
      unfold sQ BJ
      rw[if_pos (by decide),DB];rfl
     ·omega
     ·omega
   ·rcases g1 with g1 | ⟨_,h0,e0,g1⟩
    ·have:=g1.1;omega
    ·cases e0
     rw[hcl] at g1
     have e2:(cz bd c s).alloc s (nA [0,1] 1) (nA [0,1] 0)= .ok ((0,2),cz bd c s) s:=by unfold HpS.alloc;rw[if_neg (by show ¬ (false=true);decide)]
     have g2:(cz bd c s).alloc s (nA [0,1] 1) (nA [0,1] 0)= .off s':=g1
     rw[e2] at g2
     cases g2
 | _=>exact r
end
theorem DZ:bx ⟨3,1,8⟩:=by rw[pI];decide
theorem pL(B:World)(Fr:List HP)[cF Fr B](gl:GL B)(fg:FG B):
 ∀ w,Holds B Fr w→Calls Tryz.prog 15 [].toArray w (aZ B Fr (.bool true)):=by
 refine ak func15 aa ntmps15 aa (ac (ab (kPa aa aa (ad (ac (ac (ab (ap aa (ar call54 aa) (vh _ _ gl fg) .free aa aa ?_))))))))
 refine kPv (bu aa) aa (ad (bH aa (rfl) (aw (ac (ab (kPv (aR aa (cW _ _ _ aa aa aa)) aa (aE aa (ar call21 aa) (sE B _ ⟨3,1,8⟩ DZ) .free aa aa ?_)))))))
 rintro _ _ ⟨bp,bd,bh,N,s,hN,hsn,H0,rfl,rfl⟩
 refine kPm aa aa (kPv (az aa aa) aa (kPv (az aa aa) aa (kPa aa aa (kPa aa aa (ad (aj [2,1,0] rfl (ac (ab (kPm aa aa (kPv (am aa aa aa) aa (kPm aa aa ?_)))))))))))
 refine ao aa (al aa) (.on aa aa (ae aa)) aa aa (ao aa (cV runUnderlying26 aa aa aa) (.on aa aa (ae aa)) aa aa (kPv (aB aa aa aa) aa (kPm aa aa (ao aa (al aa) (.on aa aa (ae aa)) aa aa (cX aa (vc runUnderlying22 sizeOf24 zeroValue24 aa aa aa aa aa) (.on aa aa (ae aa)) aa aa ?_)))))
 rintro _ _ ⟨b18,rfl,rfl⟩
 refine ao aa (aR aa (vg _ _ aa (by first | rfl | assumption))) (.on rfl rfl (ae rfl)) rfl rfl ?_;refine aM [1,1,1] ?_;refine aE aa (ar call19 aa) (Ae gl DZ hN H0 bp bh 0 (some ⟨b18,0,none⟩) 2 (SlR.row (b:=b18) (off:=0) (cs:=[w64 0,w64 1]) aa aa) (fun _ _=>⟨_,_,rfl⟩)) (.on aa aa (ae aa)) aa aa ?_
 rintro _ _ ⟨bh2,h2,s2,rfl,rfl⟩
 refine ao aa (py aa aa aa) (.on aa aa (ae aa)) aa aa (kPv (aB aa aa aa) aa (kPm aa aa (aE aa (ar call16 aa) (xl B _ _ SlR.nil) (.on aa aa (ae aa)) aa aa ?_)))
 rintro _ _ ⟨bp2,bd2,rfl,rfl⟩
 refine ao aa (cV runUnderlying26 aa aa aa) (.on aa aa (ae aa)) aa aa (kPv (aB aa aa aa) aa (kPa aa aa (ad (aj [0] rfl (au ?_)))))
 exact aq results15 aa (fun w hh=>⟨by rfl,(hh.dp [0,0,0,0,0,0])⟩)
def cfN(near:Bool)(l r s:Int):Cfg:=if near=true then ⟨Int.tmod l 40,Int.tmod r 20,Int.tmod s 200⟩ else ⟨l,r,s⟩
theorem mB(B:World)(Fr:List HP)[cF Fr B](gl:GL B)(fg:FG B)(l r s:Int)(near:Bool)(hc0:bx (cfN near l r s)):
 ∀ w,Holds B Fr w→Calls Tryz.prog 4 [i64 l,i64 r,i64 s,.bool near].toArray w (aZ B Fr (.bool true)):=by
 refine ak func4 aa ntmps4 aa (ac (ab (kPa aa aa (ad (ac (ac (ab (ap aa (ar call15 aa) (pL _ _ gl fg) .free aa aa ?_))))))))
 refine kPv (bu aa) aa (ad (bH aa (rfl) (aw ?_)))
 refine zJ (ι:=Cfg) [8] (fun c=>(c=cfN near l r s)) (fun c=>[(0,i64 c.log),(1,i64 c.roots),(2,i64 c.space)]) (fun c=>Fr) ?_ ?_
 ·skip
  refine ac (ab (kPm aa aa (ad ?_)))
  refine aV aa (fun h14=> ?_) (fun h14=> ?_)
  ·have hnr:near=true:=by first | exact h14 | simpa using h14
   refine ab (kPm aa aa (kPv (et (c:=Int.tmod l 40) aa aa (by decide) aa) aa (kPm aa aa (kPv (et (c:=Int.tmod r 20) aa aa (by decide) aa) aa (kPm aa aa (kPv (et (c:=Int.tmod s 200) aa aa (by decide) aa) aa (kPa aa aa (kPa aa aa (kPa aa aa (ad (aj [2,1,0,8] rfl ?_)))))))))))
   exact fun a w st_=>⟨(⟨Int.tmod l 40,Int.tmod r 20,Int.tmod s 200⟩:Cfg),by unfold cfN;rw[if_pos hnr],st_.to (aG aa) (fun hh=>hh)⟩
  ·have hnr:near=false:=by first | exact h14 | simpa using h14
   refine aw ?_
   exact fun a w st_=>⟨(⟨l,r,s⟩:Cfg),by unfold cfN;rw[if_neg (by rw[hnr];decide)],st_.to (aG aa) (fun hh=>hh)⟩
 rintro c hcf
 try simp only at hcf ⊢
 refine cE (σ':=[(0,i64 c.log),(1,i64 c.roots),(2,i64 c.space),(8,_)]) (aG aa) (ac ?_)
 have hc:=hc0
 rw[←hcf] at hc
 refine ab (kPm aa aa (kPm aa aa (kPm aa aa (kPv (aR aa (cW _ _ _ aa aa aa)) aa (kPb (aD zeroValue39 aa) aa fun b9=>(kPs (aA (vs:=_) sizeOf39 aa aa aa aa aa) aa (ad (aj [9,8] rfl (ac (ab (kPv (ah isAgg39 sizeOf39 aa aa) aa ?_)))))))))))
 refine aE aa (ar call21 aa) (sE B _ c hc) .free aa aa ?_
 rintro _ _ ⟨bp,bd,bh,N,s,hN,hsn,H0,rfl,rfl⟩
 refine kPm aa aa (kPv (az aa aa) aa (kPv (az aa aa) aa (kPa aa aa (kPa aa aa (ad (ac (ac (ab (kPv (ah isAgg39 sizeOf39 aa aa) aa ?_)))))))))
 refine ap aa (ar call22 aa) (iA _ _ c) .free aa aa ?_
 refine kPv (am aa aa aa) aa (ad (aj [32,11,10,9,8] rfl (bH aa ((by rw[Cf hc];rfl)) (aw (ac (aM [3] (aK (H':=row b9 [i64 c.log,i64 c.roots,i64 c.space] 39::_) (fun w hh=>hh) (cQ [0,1,2,3,4,5,6,7,10,8,9,11,12,13,14,15,16,17,18,19,20] [8,11,17] [10,9] [8,11] [row b9 [i64 c.log,i64 c.roots,i64 c.space] 39] Tryz.mixed (by kernel_rfl) ?_))))))))
 refine aT aa aa aa (al aa) .free aa (aT aa aa aa (am aa aa aa) .free aa (aT aa aa aa (al aa) .free aa (aT aa aa aa (al aa) (.on aa aa (ae aa)) aa (aT aa aa aa (cV runUnderlying26 aa aa aa) (.on aa aa (ae aa)) aa (aT aa aa aa (aB aa aa aa) .free aa (aT aa aa aa (al aa) .free aa (aT aa aa aa (al aa) (.on aa aa (ae aa)) aa (an aa aa aa (ah isAgg39 sizeOf39 aa aa) (.on aa aa (ae aa)) aa ?_))))))))
 refine aS aa aa (aM [2,2] (aE aa (ar call17 aa) (uD B _ bp bd s (ptr bh) 0) (.on aa aa (ae aa)) aa aa ?_))
 rintro _ _ ⟨bw,rest,rfl,rfl⟩
 refine ad (cL (an aa aa aa (bS aa runUnderlying22 ⟨_,rfl⟩ rfl) (.on aa aa (ae aa)) aa (aS aa aa (ap aa (ar call23 aa) (gy _ _ c hc) (.on aa aa (ae aa)) aa aa ?_))))
 refine ad (cL (aT aa aa aa (am aa aa aa) (.on aa aa (ae aa)) aa (aT aa aa aa (aB aa aa aa) .free aa (aT aa aa aa (al aa) .free aa (aT aa aa aa (al aa) (.on aa aa (ae (by rw[hsn,hN];simp))) aa (aT aa aa aa (aR aa (tZ _ aa)) (.on aa aa (ae (by rw[hsn,hN];simp))) aa (aS aa aa (aM [4,1,1] (aE aa (ar call19 aa) (Ad gl hc hN H0 bp bh 0) (.on aa aa (ae (by rw[hsn,hN];simp))) aa aa ?_)))))))))
 rintro _ _ ⟨bh2,h2,s2,rfl,rfl⟩
 refine ad (cZ aa (aT aa aa aa (py aa aa aa) (.on aa aa (ae (by rw[hsn,hN];simp))) aa (aT aa aa aa (aB aa (by rw[hsn,hN];simp) aa) .free aa (aT aa aa aa (bE aa) .free aa (cM (aj [8] rfl (au ?_)))))))
 exact aq results4 aa (fun w hh=>⟨by rfl,(hh.dp [0,0,0,0,0])⟩)
theorem nE(B:World)(Fr:List HP)[cF Fr B](gl:GL B)(fg:FG B)(l r s:Int)(near:Bool)(hc0:¬ bx (cfN near l r s)):
 ∀ w,Holds B Fr w→Calls Tryz.prog 4 [i64 l,i64 r,i64 s,.bool near].toArray w (aZ B Fr (.bool true)):=by
 refine ak func4 aa ntmps4 aa (ac (ab (kPa aa aa (ad (ac (ac (ab (ap aa (ar call15 aa) (pL _ _ gl fg) .free aa aa ?_))))))))
 refine kPv (bu aa) aa (ad (bH aa (rfl) (aw ?_)))
 refine zJ (ι:=Cfg) [8] (fun c=>(c=cfN near l r s)) (fun c=>[(0,i64 c.log),(1,i64 c.roots),(2,i64 c.space)]) (fun c=>Fr) ?_ ?_
 ·skip
  refine ac (ab (kPm aa aa (ad ?_)))
  refine aV aa (fun h14=> ?_) (fun h14=> ?_)
  ·have hnr:near=true:=by first | exact h14 | simpa using h14
   refine ab (kPm aa aa (kPv (et (c:=Int.tmod l 40) aa aa (by decide) aa) aa (kPm aa aa (kPv (et (c:=Int.tmod r 20) aa aa (by decide) aa) aa (kPm aa aa (kPv (et (c:=Int.tmod s 200) aa aa (by decide) aa) aa (kPa aa aa (kPa aa aa (kPa aa aa (ad (aj [2,1,0,8] rfl ?_)))))))))))
   exact fun a w st_=>⟨(⟨Int.tmod l 40,Int.tmod r 20,Int.tmod s 200⟩:Cfg),by unfold cfN;rw[if_pos hnr],st_.to (aG aa) (fun hh=>hh)⟩
  ·have hnr:near=false:=by first | exact h14 | simpa using h14
   refine aw ?_
   exact fun a w st_=>⟨(⟨l,r,s⟩:Cfg),by unfold cfN;rw[if_neg (by rw[hnr];decide)],st_.to (aG aa) (fun hh=>hh)⟩
 rintro c hcf
 try simp only at hcf ⊢
 refine cE (σ':=[(0,i64 c.log),(1,i64 c.roots),(2,i64 c.space),(8,_)]) (aG aa) (ac ?_)
 have hc:=hc0
 rw[←hcf] at hc
 refine ab (kPm aa aa (kPm aa aa (kPm aa aa (kPv (aR aa (cW _ _ _ aa aa aa)) aa (kPb (aD zeroValue39 aa) aa fun b9=>(kPs (aA (vs:=_) sizeOf39 aa aa aa aa aa) aa (ad (aj [9,8] rfl (ac (ab (kPv (ah isAgg39 sizeOf39 aa aa) aa ?_)))))))))))
 refine ap aa (ar call21 aa) (xm B _ c hc) .free aa aa ?_
 refine kPm aa aa (kPv (az aa aa) aa (kPv (az aa aa) aa (kPa aa aa (kPa aa aa (ad (ac (ac (ab (kPv (ah isAgg39 sizeOf39 aa aa) aa ?_)))))))))
 refine ap aa (ar call22 aa) (iA _ _ c) .free aa aa ?_
 refine kPv (am aa aa aa) aa (ad (aj [32,11,10,9,8] rfl (li aa ((by rw[Ar hc];rfl)) (ac (ab (kPm aa aa (kPv (am aa aa aa) aa (kPm aa aa (ao aa (al aa) (.on aa aa (ae aa)) aa aa (ao aa (cV runUnderlying26 aa aa aa) (.on aa aa (ae aa)) aa aa (kPv (aB aa aa aa) aa ?_)))))))))))
 refine kPa aa aa (ad (aj [8,11,10,9] rfl (au ?_)))
 exact aq results4 aa (fun w hh=>⟨by rfl,(hh.dp [0])⟩)
theorem mA(W:World)(l:Int)(_:(Lit.int .i64 l).wf=true)(r:Int)(_:(Lit.int .i64 r).wf=true)(s:Int)(_:(Lit.int .i64 s).wf=true)(near:Bool)(hsh:W.ShapedOpen Tryz.prog)(hL:laidMet Tryz.prog Rows.playFormatsRow.laid W):
 Calls Tryz.prog 4 #[i64 l,i64 r,i64 s,.bool near] W fun e w'=>e= .returned (.bool true)∧RowKit.Below W.heap.size W w':=by
 have fg:=DN hL.tail.tail.tail.tail.tail.tail
 have gl:=DD hsh hL
 by_cases hc:bx (cfN near l r s)
 ·exact zp (mB W [old W] gl fg l r s near hc)
 ·exact zp (nE W [old W] gl fg l r s near hc)
end Go.Proofs.YtipdhkmphngmoaaGreatDoor
