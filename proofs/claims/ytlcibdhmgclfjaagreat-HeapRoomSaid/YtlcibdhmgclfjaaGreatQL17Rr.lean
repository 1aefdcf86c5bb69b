/- Part of a law's texts. Conditions: none. -/
import Derived.Test.YtlcibdhmgclfjaaGreatQL17Rq
open Go.Proofs.Tryz
set_option linter.all false
namespace Go.Proofs.YtlcibdhmgclfjaaGreat
open Go
abbrev eI(bm br n:Nat)(c:Cfg):HP:=row bm [i64 c.log,i64 c.roots,i64 c.space,.slice (some ⟨br,0,none⟩) n n,i64 0,.slice none 0 0,.bool false,.slice none 0 0,.slice none 0 0,.slice none 0 0,i64 (-1),i64 0] 45
abbrev fa(br n:Nat):HP:=row br (List.replicate n (.pointer none)) 136
theorem CM(B:World)(H:List HP)(c:Cfg)(hc:bC c)(n:Nat)(hn:(n:Int)=c.roots):
 ∀ w,Holds B H w→Calls Tryz.prog 50 [eO c].toArray w (Ret B (fun rv H'=>∃ bm br,rv=ptr bm∧H'=eI bm br n c::fa br n::H) (fun _ _=>False)):=by
 refine au func50 aa ntmps50 aa ?_
 have hr2:=hc.r2
 refine ac (ab (aC aa (bx aa) .free aa aa ?_))
 rintro _ _ ⟨b1,rfl,rfl⟩
 refine kPa aa aa (ad (ac (cM [0,1,2,3,4,5,6] [3,5] [0] [3] [row b1 [i64 c.log,i64 c.roots,i64 c.space] 40] Tryz.mixed (by kernel_rfl) ?_)))
 refine al aa aa aa (am isAgg40 sizeOf40 aa aa) .free aa ?_
 refine aT aa aa aa (aj (m:=_) fm aa aa) .free aa (aT aa aa aa (ae isAgg3 aa aa) .free aa (aU aa aa (aC aa (jO (n:=n) runUnderlying41 oc sizeOf136 zeroValue136 aa (by rw[hn];rfl) (by rw[hn];rfl) (by omega)) .free aa aa ?_)))
 rintro _ _ ⟨br,rfl,rfl⟩
 refine ad (cN ?_)
 refine aT aa aa aa (aZ aa (uF _ _ _ _ _ (by first | rfl | assumption) rfl)) .free rfl ?_;refine aU aa aa ?_;refine aC aa (bx aa) .free aa aa ?_
 rintro _ _ ⟨b8,rfl,rfl⟩
 refine ad (c9 aa (aT aa aa aa (bK aa) .free aa (cJ (ao [2] rfl (az ?_)))))
 exact ax results50 aa (fun w hw=>⟨_,⟨b8,br,rfl,rfl⟩,(hw.dp [2])⟩)
theorem AU(B:World)(Fr:List HP)(c3:Nat):
 ∀ w,Holds B (row c3 [.slice none 0 0] 41::Fr) w→Calls Tryz.prog 160 [.pointer none,ptr c3].toArray w (bB B (row c3 [.slice none 0 0] 41::Fr) (.tuple #[])):=by
 refine au func160 aa ntmps160 aa (ac (ab (kPm aa aa (kPv (dq runUnderlying136 aa aa aa) aa (kPm aa aa ?_)))))
 apply dr (tp:=10) (t:=5) (σ1:=[(5,_),(0,_),(1,_)]) 5 rfl (aF rfl)
 ·intro hg1
  refine aq aa (ae isAgg41 aa aa) (.on aa aa (ah hg1)) aa aa (aq aa (ap aa) (.on aa aa (ah hg1)) aa aa (aE aa (aA call147 aa) ((False.elim (by cases hg1):∀ w,Holds B (row c3 [.slice none 0 0] 41::Fr) w→Calls Tryz.prog 147 [.slice none 0 0,.pointer none].toArray w (bB B (row c3 [.slice none 0 0] 41::Fr) (.bool true)))) (.on aa aa (ah hg1)) aa aa ?_))
  refine aq aa (bF aa) (.on aa aa (ah hg1)) aa aa (kPv (aH aa hg1 aa) aa ?_)
  exact ba aa (aF aa) (cV hg1)
 ·intro hg1
  refine ar aa (.on aa aa (ai hg1)) aa (ar aa (.on aa aa (ai hg1)) aa (ar aa (.on aa aa (ai hg1)) aa (ar aa (.on aa aa (ai hg1)) aa (kPv (aL aa hg1 aa) aa ?_))))
  exact ba aa (aF aa) (cW hg1)
 refine ad (cf aa (rfl) (ay ?_))
 exact cS results160 (fun w hw=>⟨rfl,hw⟩)
theorem uf(B:World)(Fr:List HP)(bm br n:Nat)(c:Cfg)(hn:n≤1000):
 ∀ w,Holds B (eI bm br n c::fa br n::Fr) w→Calls Tryz.prog 100 [ptr bm].toArray w (bB B (eI bm br n c::fa br n::Fr) (.slice none 0 0)):=by
 refine au func100 aa ntmps100 aa (ac (ab (kPa aa aa (ad (ac (ab (aC aa (cA zeroValue41 aa) .free aa aa ?_)))))))
 rintro _ _ ⟨b3,rfl,rfl⟩
 refine ad (ac (ab (kPv (dm aa aa) aa (kPa aa aa (ad (ac (ac (ab (kPm aa aa (kPv (ak aa) aa (kPv (aj (m:=_) mm aa aa) aa ?_)))))))))))
 refine kPv (ae isAgg41 aa aa) aa (kPv (bY aa runUnderlying41 ⟨_,rfl⟩ rfl) aa (kPm aa aa (ad (aO (cR (ι:=Nat) [17,16,4,3,2,0] (fun k=>(k≤n)) (fun k=>[(18,i64 k)]) (fun k=>row b3 [.slice none 0 0] 41::eI bm br n c::fa br n::Fr) (fun k=>n - k) (0) (Nat.zero_le _) (fun a w st=>st.to ⟨rfl,trivial⟩ (fun hh=>hh)) ?_)))))
 rintro k hk0
 try simp only at hk0 ⊢
 refine cg (σ':=[(18,i64 k),(17,_),(16,_),(4,_),(3,_),(2,_),(0,_)]) (aF aa) (ac (ab (kPv (an aa aa aa) aa (ad (ac ?_)))))
 refine aW aa (fun h19=> ?_) (fun h19=> ?_)
 ·have hk:k<n:=by simpa using h19
  refine ay (ac (aO (ac (ab (kPv (bZ runUnderlying41 sizeOf136 aa aa (by omega) (by omega)) aa ?_)))))
  refine kPv (bX (v:= .pointer none) isAgg136 (show SlR B _ (Value.slice (some (⟨br,0,none⟩:Addr)) n n) (List.replicate n (Value.pointer none)) from SlR.row (b:=br) (by simp) (by simp)) aa (by simp[List.getElem?_replicate,hk])) aa ?_
  refine kPa aa aa (ad (ab (kPm aa aa (kPm aa aa ?_))))
  refine aE aa (ku call160 aa aa) (AU B _ b3) .free aa aa ?_
  refine ad (ao [18,17,16,4,3,2,0] rfl (ab (kPv (aS aa aa) aa (kPm aa aa (ad ?_)))))
  exact fun a w st_=>⟨k+1,by omega,by omega,st_.to (aF aa) (fun hh=>hh)⟩
 ·skip
  refine bT (ac (ac (ab (kPm aa aa (kPv (ak aa) aa (kPv (aj (m:=_) eK aa aa) aa (kPv (ae isAgg41 aa aa) aa (kPv (bY aa runUnderlying41 ⟨_,rfl⟩ rfl) aa (kPm aa aa (ad (ao [31,30,29,4,3,2] rfl ?_)))))))))))
  refine aO (cR (ι:=Nat) [30,29,4,3,2] (fun k2=>(k2≤0)) (fun k2=>[(31,i64 k2)]) (fun k2=>row b3 [.slice none 0 0] 41::eI bm br n c::fa br n::Fr) (fun k2=>0) (0) (Nat.zero_le _) (fun a w st=>st.to ⟨rfl,trivial⟩ (fun hh=>hh)) ?_)
  rintro k2 hk20
  try simp only at hk20 ⊢
  refine cg (σ':=[(31,i64 k2),(30,_),(29,_),(4,_),(3,_),(2,_)]) (aF aa) (ac (ab (kPv (an aa aa aa) aa (ad (ac (cf aa ((by simp)) (bT (ac (ac (ab (kPa aa aa ?_)))))))))))
  refine ad (aO (cR (ι:=Nat) [4,3,2] (fun k3=>(k3≤0)) (fun k3=>[(9,i64 k3)]) (fun k3=>row b3 [.slice none 0 0] 41::eI bm br n c::fa br n::Fr) (fun k3=>0) (0) (Nat.zero_le _) (fun a w st=>st.to ⟨rfl,trivial⟩ (fun hh=>hh)) ?_))
  rintro k3 hk30
  try simp only at hk30 ⊢
  refine cg (σ':=[(9,i64 k3),(4,_),(3,_),(2,_)]) (aF aa) (ac (ac (ab (kPm aa aa (kPv (ae isAgg41 aa aa) aa (kPv (bY aa runUnderlying41 ⟨_,rfl⟩ rfl) aa (kPv (an aa aa aa) aa (ad (cf aa ((by simp)) (bT (ac ?_)))))))))))
  refine ab (kPv (ae isAgg41 aa aa) aa (kPa aa aa (ad (ao [2] rfl (az ?_)))))
  exact ax results100 aa (fun w hw=>⟨rfl,(hw.dp [0])⟩)
theorem zu(B:World)(Fr:List HP)(bm br n:Nat)(c:Cfg)(hn:n≤1000):
 ∀ w,Holds B (eI bm br n c::fa br n::Fr) w→Calls Tryz.prog 31 [ptr bm].toArray w (bB B (eI bm br n c::fa br n::Fr) (i64 0)):=by
 refine au func31 aa ntmps31 aa (ac (ab (kPa aa aa (ad (ac (ab (kPa aa aa (ad (ac (ac (ab ?_)))))))))))
 refine kPm aa aa (aE aa (aA call100 aa) (uf B _ bm br n c hn) .free aa aa ?_)
 refine kPv (bY aa runUnderlying41 ⟨_,rfl⟩ rfl) aa (kPm aa aa (ad (aO (cR (ι:=Nat) [8,7,3,2] (fun k=>(k≤0)) (fun k=>[(9,i64 k)]) (fun k=>eI bm br n c::fa br n::Fr) (fun k=>0) (0) (Nat.zero_le _) (fun a w st=>st.to ⟨rfl,trivial⟩ (fun hh=>hh)) ?_))))
 rintro k hk0
 try simp only at hk0 ⊢
 refine cg (σ':=[(9,i64 k),(8,_),(7,_),(3,_),(2,_)]) (aF aa) (ac (ab (kPv (an aa aa aa) aa (ad (ac (cf aa ((by simp)) (bT (ac (ab (kPm aa aa (kPa aa aa ?_)))))))))))
 refine ad (az ?_)
 exact ax results31 aa (fun w hw=>⟨rfl,hw⟩)
theorem zw(B:World)(Fr:List HP)(bm br n:Nat)(c:Cfg)(hn:n≤1000):
 ∀ w,Holds B (eI bm br n c::fa br n::Fr) w→Calls Tryz.prog 107 [ptr bm].toArray w (bB B (eI bm br n c::fa br n::Fr) (i64 0)):=by
 refine au func107 aa ntmps107 aa (ac (ab (kPa aa aa (ad (ac (ab (kPa aa aa (ad (ac (ac (ab ?_)))))))))))
 refine kPm aa aa (kPv (ak aa) aa (kPv (aj (m:=_) eK aa aa) aa (kPv (ae isAgg41 aa aa) aa (kPv (bY aa runUnderlying41 ⟨_,rfl⟩ rfl) aa (kPm aa aa (ad (aO (cR (ι:=Nat) [10,9,3,2] (fun k=>(k≤0)) (fun k=>[(11,i64 k)]) (fun k=>eI bm br n c::fa br n::Fr) (fun k=>0) (0) (Nat.zero_le _) (fun a w st=>st.to ⟨rfl,trivial⟩ (fun hh=>hh)) ?_))))))))
 rintro k hk0
 try simp only at hk0 ⊢
 refine cg (σ':=[(11,i64 k),(10,_),(9,_),(3,_),(2,_)]) (aF aa) (ac (ab (kPv (an aa aa aa) aa (ad (ac (cf aa ((by simp)) (bT (ac (ab (kPm aa aa (kPa aa aa ?_)))))))))))
 refine ad (az ?_)
 exact ax results107 aa (fun w hw=>⟨rfl,hw⟩)
theorem CN(B:World)(Fr:List HP)(bm br n:Nat)(c:Cfg)(hn:n≤1000)(bh:Nat)(h:HpS)(s:Dev)(hW:dl h s)(hst:h.stats s=⟨0,0,0,0,false⟩)(hck:s.check h.c=0):
 ∀ w,Holds B (cy bh h::aG h.bd s::eI bm br n c::fa br n::Fr) w→Calls Tryz.prog 47 [ptr bm,ptr bh].toArray w (bB B (cy bh h::aG h.bd s::eI bm br n c::fa br n::Fr) (.bool true)):=by
 refine au func47 aa ntmps47 aa (ac (ab (kPa aa aa (ad (ac (ab (kPm aa aa (aE aa (aA call22 aa) (oE B _ bh h s hW) .free aa aa ?_))))))))
 rw[hst]
 refine aC aa (aN zeroValue58 aa) .free aa aa ?_
 rintro _ _ ⟨b5,rfl,rfl⟩
 refine aD aa (aI (vs:=_) sizeOf58 aa aa aa aa aa) .free aa ?_
 rintro _ _ rfl
 refine ad (ac (aK (H':=row b5 [i64 0,i64 0,i64 0,i64 0,.bool false] 58::_) (fun w hh=>hh) (aJ [3,3,1,1,0] (cK Tryz.mixed (by kernel_rfl) (by kernel_rfl) ?_))))
 refine kQv (aj (m:=_) uq aa aa) aa (kQv (ae isAgg3 aa aa) aa (kQm aa aa (kQv (ak aa) aa (kQv (aj (m:=_) fO aa aa) aa (kQv (ae isAgg3 aa aa) aa (kQv (an aa aa aa) aa (kQm aa aa ?_)))))))
 apply np (tp:=21) (t:=15) (σ1:=[(15,_),(5,_),(4,_),(0,_),(1,_)]) 6 rfl (aF rfl)
 ·intro hg1
  refine bA aa (aj (m:=_) uo aa aa) (.on aa aa (ah hg1)) aa (bA aa (ae isAgg3 aa aa) (.on aa aa (ah hg1)) aa (bA aa (ap aa) (.on aa aa (ah hg1)) aa (bH aa (aA call31 aa) (zu B _ bm br n c hn) (.on aa aa (ah hg1)) aa ?_)))
  refine bA aa (an aa aa aa) (.on aa aa (ah hg1)) aa (kQv (aH aa hg1 aa) aa ?_)
  exact eu aa (aF aa) (cV hg1)
 ·intro hg1
  refine bf aa (.on aa aa (ai hg1)) aa (bf aa (.on aa aa (ai hg1)) aa (bf aa (.on aa aa (ai hg1)) aa (bf aa (.on aa aa (ai hg1)) aa (bf aa (.on aa aa (ai hg1)) aa (kQv (aL aa hg1 aa) aa ?_)))))
  exact eu aa (aF aa) (cW hg1)
 refine kQm aa aa ?_
 apply np (tp:=28) (t:=22) (σ1:=[(22,_),(5,_),(4,_),(0,_),(1,_)]) 6 rfl (aF rfl)
 ·intro hg2
  refine bA aa (aj (m:=_) Dj aa aa) (.on aa aa (ah hg2)) aa (bA aa (ae isAgg3 aa aa) (.on aa aa (ah hg2)) aa (bA aa (ap aa) (.on aa aa (ah hg2)) aa (bH aa (aA call107 aa) (zw B _ bm br n c hn) (.on aa aa (ah hg2)) aa ?_)))
  refine bA aa (an aa aa aa) (.on aa aa (ah hg2)) aa (kQv (aH aa hg2 aa) aa ?_)
  exact eu aa (aF aa) (cV hg2)
 ·intro hg2
  refine bf aa (.on aa aa (ai hg2)) aa (bf aa (.on aa aa (ai hg2)) aa (bf aa (.on aa aa (ai hg2)) aa (bf aa (.on aa aa (ai hg2)) aa (bf aa (.on aa aa (ai hg2)) aa (kQv (aL aa hg2 aa) aa ?_)))))
  exact eu aa (aF aa) (cW hg2)
 refine kQm aa aa ?_
 apply np (tp:=38) (t:=29) (σ1:=[(29,_),(5,_),(4,_),(0,_),(1,_)]) 9 rfl (aF rfl)
 ·intro hg3
  refine bA aa (aj (m:=_) Di aa aa) (.on aa aa (ah hg3)) aa (bA aa (ae isAgg3 aa aa) (.on aa aa (ah hg3)) aa (bA aa (ap aa) (.on aa aa (ah hg3)) aa (bA aa (ak aa) (.on aa aa (ah hg3)) aa (bA aa (aj (m:=_) iY aa aa) (.on aa aa (ah hg3)) aa (bA aa (ae isAgg42 aa aa) (.on aa aa (ah hg3)) aa (bA aa (bY aa runUnderlying42 ⟨_,rfl⟩ rfl) (.on aa aa (ah hg3)) aa (bA aa (an aa aa aa) (.on aa aa (ah hg3)) aa (kQv (aH aa hg3 aa) aa ?_))))))))
  exact eu aa (aF aa) (cV hg3)
 ·intro hg3
  refine bf aa (.on aa aa (ai hg3)) aa (bf aa (.on aa aa (ai hg3)) aa (bf aa (.on aa aa (ai hg3)) aa (bf aa (.on aa aa (ai hg3)) aa (bf aa (.on aa aa (ai hg3)) aa (bf aa (.on aa aa (ai hg3)) aa (bf aa (.on aa aa (ai hg3)) aa (bf aa (.on aa aa (ai hg3)) aa (kQv (aL aa hg3 aa) aa ?_))))))))
  exact eu aa (aF aa) (cW hg3)
 refine kQm aa aa ?_
 apply np (tp:=47) (t:=39) (σ1:=[(39,_),(4,_),(1,_)]) 8 rfl (aF rfl)
 ·intro hg4
  refine bA aa (aj (m:=_) Dh aa aa) (.on aa aa (ah hg4)) aa (bA aa (ae isAgg4 aa aa) (.on aa aa (ah hg4)) aa (bA aa (ap aa) (.on aa aa (ah hg4)) aa (bA aa (ak aa) (.on aa aa (ah hg4)) aa (bA aa (aj (m:=_) ew aa aa) (.on aa aa (ah hg4)) aa (bA aa (ae isAgg4 aa aa) (.on aa aa (ah hg4)) aa (bA aa (rN runUnderlying4 aa aa aa) (.on aa aa (ah hg4)) aa (kQv (aH aa hg4 aa) aa ?_)))))))
  exact eu aa (aF aa) (cV hg4)
 ·intro hg4
  refine bf aa (.on aa aa (ai hg4)) aa (bf aa (.on aa aa (ai hg4)) aa (bf aa (.on aa aa (ai hg4)) aa (bf aa (.on aa aa (ai hg4)) aa (bf aa (.on aa aa (ai hg4)) aa (bf aa (.on aa aa (ai hg4)) aa (bf aa (.on aa aa (ai hg4)) aa (kQv (aL aa hg4 aa) aa ?_)))))))
  exact eu aa (aF aa) (cW hg4)
 refine kQm aa aa ?_
 apply np (tp:=52) (t:=48) (σ1:=[(48,_),(4,_)]) 4 rfl ⟨rfl,rfl,trivial⟩
 ·intro hg5
  refine bA aa (ap aa) (.on aa aa (ah hg5)) aa (bH aa (aA call39 aa) (cY [2,2] [2,2] (xl B _ bh h s hW)) (.on aa aa (ah hg5)) aa ?_)
  refine bA aa (an aa aa aa) (.on aa aa (ah hg5)) aa (kQv (aH aa hg5 aa) aa ?_)
  exact eu aa ⟨rfl,rfl,trivial⟩ (cV hg5)
 ·intro hg5
  refine bf aa (.on aa aa (ai hg5)) aa (bf aa (.on aa aa (ai hg5)) aa (bf aa (.on aa aa (ai hg5)) aa (kQv (aL aa hg5 aa) aa ?_)))
  exact eu aa ⟨rfl,rfl,trivial⟩ (cW hg5)
 refine kQa aa aa (bR (az ?_))
 exact ax results47 aa (fun w hw=>⟨by rw[hck];rfl,((hw.dp [4]).pk [2,2])⟩)
theorem sU(B:World)(Fr:List HP)(x0 x1 x2:Int)(hx:0≤x0∧0≤x1∧0≤x2)(c:Cfg)(hcm:c=mkC x0 x1 x2):
 ∀ w,Holds B Fr w→Calls Tryz.prog 10 [.agg #[u16 x0,u16 x1,u16 x2],.slice none 0 0].toArray w (Ret B (fun rv H'=>∃ (bd bh bm br N:Nat) (s:Dev),(N:Int)=c.words∧HC True c N bd (ik bd c s) s 0 0 []∧rv= .tuple #[ptr bd,ptr bh,ptr bm]∧H'=cy bh (ik bd c s)::aG bd s::eI bm br c.roots.toNat c::fa br c.roots.toNat::Fr) (fun _ _=>False)):=by
 refine au func10 aa ntmps10 aa ?_
 have hc:bC c:=by rw[hcm];exact vq hx.1 hx.2.1 hx.2.2
 have hA:=ga hc
 have hr1:=hc.r1
 refine ac (ab (aC aa (bx aa) .free aa aa ?_))
 rintro _ _ ⟨b2,rfl,rfl⟩
 refine kPa aa aa (kPa aa aa (kPa aa aa (ad (ac (ab (kPv (am isAgg24 sizeOf24 aa aa) aa ?_))))))
 refine aE aa (aA call48 aa) (yr _ _ x0 x1 x2 hx.1 hx.2.1 hx.2.2) .free aa aa ?_
 refine aC aa (aN zeroValue40 aa) .free aa aa ?_
 rintro _ _ ⟨b7,rfl,rfl⟩
 refine aD aa (aI (vs:=_) sizeOf40 aa aa aa aa aa) .free aa ?_
 rintro _ _ rfl
 refine ad (ac ?_)
 rw[←hcm]
 refine ab (kPv (am isAgg40 sizeOf40 aa aa) aa ?_)
 refine kPm aa aa (aQ aa (aA call49 aa) (eJ _ _ c hc none 0 [] (by decide) (fun _ h=>absurd h (Nat.not_lt_zero _)) SlR.nil) .free aa aa ?_)
 rintro _ _ ⟨bd,pa,N,s0,hN,hf,rfl,rfl⟩
 have hfm:=rB hc hN hf
 have hu0:=jr (lZ pa N) hc hf
 have hOk:=hfm.okd hc hN hu0
 have hHC:=hfm.hc hc hN hu0 bd
 have hsn:=hfm.n
 refine kPm aa aa (kPv (aB aa aa) aa (kPv (aB aa aa) aa (kPa aa aa (kPa aa aa (ad (ao [9,8,7,6,5,4] rfl (ac (ac (ab (kPm aa aa (kPv (bF aa) aa ?_)))))))))))
 refine ad (cf aa (rfl) (ay (ac (ab (kPm aa aa ?_)))))
 refine aY aa (aA call19 aa) (zL B _ bd s0 hu0 (by omega)) .free aa aa ?_ ?_
 rotate_left
 ·rintro _ _ ⟨s9,hE,hun,rfl,rfl⟩
  exact(hOk.noff hun).elim
 rintro _ _ hor
 rcases hor with ⟨e,he,hE,_,_⟩ | ⟨bh,L',s',hE,hun,rfl,rfl⟩
 ·exact absurd (hOk.open_ hc hE) he
 obtain rfl:=hOk.undo hun
 rw[show s'.readC.1=c by rw[hOk.rc]]
 refine kPm aa aa (kPv (aB aa aa) aa (kPv (aB aa aa) aa (kPa aa aa (kPa aa aa (ad (ao [11,10,8,7,6,5,4] rfl (ac (ac (ab (kPm aa aa (kPv (an aa aa aa) aa ?_)))))))))))
 refine kPm aa aa ?_
 apply gl (tp:=32) (t:=29) (σ1:=[(29,_),(10,_),(8,_),(7,_),(6,_),(5,_),(4,_)]) 3 rfl (aF rfl)
 ·intro hg1
  refine aq aa (ap aa) (.on aa aa (ah hg1)) aa aa (aq aa (dq runUnderlying29 aa aa aa) (.on aa aa (ah hg1)) aa aa (kPv (aL aa hg1 aa) aa ?_))
  exact ba aa (aF aa) (eZ hg1)
 ·intro hg1
  refine ar aa (.on aa aa (ai hg1)) aa (ar aa (.on aa aa (ai hg1)) aa (kPv (aH aa hg1 aa) aa ?_))
  exact ba aa (aF aa) (eY hg1)
 refine ad (cf aa (rfl) (ay (ac (ab (kPm aa aa (kPm aa aa (kPv (am isAgg40 sizeOf40 aa aa) aa ?_)))))))
 refine aQ aa (aA call50 aa) (CM B _ c hc c.roots.toNat (by omega)) .free aa aa ?_
 rintro _ _ ⟨bm,br,rfl,rfl⟩
 refine kPa aa aa (kPa aa aa (kPa aa aa (ad (ao [6,5,4] rfl (az ?_)))))
 exact EZ results10 (.tmp aa) (.tmp aa) (.tmp aa) (fun w hw=>⟨_,⟨bd,bh,bm,br,N,_,hN,hHC,rfl,rfl⟩,((hw.dp [4,4]).pk [2,2])⟩)
theorem oS{B:World}{P:Program}{f:FuncId}{vs:Array Value}{bh bd:Nat}{Fr:List HP}{α:Type}{m:Out (α×HpS)}{enc:α→Value}{a:α}{h':HpS}{s':Dev}(e:m= .ok (a,h') s'){w:World}(h:Calls P f vs w (Ret B (fun rv H'=>∃ a h' s',m= .ok (a,h') s'∧rv=enc a∧H'=cy bh h'::aG bd s'::Fr) (fun ch H'=>∃ s',m= .off s'∧ch=dN∧H'=aG bd s'::Fr))):
 Calls P f vs w (Ret B (fun rv H'=>rv=enc a∧H'=cy bh h'::aG bd s'::Fr) (fun _ _=>False)):=
 h.mono (Ret.mono (fun rv H' ⟨a1,h1,s1,e1,e2,e3⟩=>by rw[e] at e1;cases e1;exact⟨e2,e3⟩) (fun ch H' ⟨s1,e1,_⟩=>by rw[e] at e1;cases e1))
theorem Dy{h h':HpS}{s s':Dev}{room:Int}(ho:h.o=false)(hb:h.begR s room 0 h' s'):h'.X=none:=by
 rcases hb with ⟨h1,_⟩ | ⟨_,_,h1,_⟩ | ⟨_,_,a1,h1,s1,hor,hor2⟩
 ·rw[ho] at h1;cases h1
 ·cases h1
 rcases hor2 with ⟨h3,h4,_⟩ | ⟨_,_,h4,_⟩ | ⟨rfl,_,_,rfl,_⟩
 ·exact absurd h4.symm h3
 ·cases h4
 ·rcases hor with ⟨_,h2⟩ | ⟨_,_,rfl,_⟩
  ·rcases h2 with ⟨h5,_⟩ | ⟨_,X,s2,_,S',_,hor3⟩
   ·rw[show h.o=true from h5] at ho;cases ho
   ·rcases hor3 with ⟨_,rfl⟩ | ⟨_,ord,_,rfl⟩<;>rfl
  ·rfl
section
variable {B:World} {Fr:List HP} {bh bd:Nat} {h h':HpS} {s s':Dev}
theorem DW(hW:dl h s)(hb:h.bd=bd){n i v x:Int}(hv:0≤v∧v<18446744073709551616)(e:h.write s n i v= .ok (x,h') s'):∀ w,Holds B (cy bh h::aG bd s::Fr) w→Calls Tryz.prog 14 [ptr bh,i64 n,i64 i,w64 v].toArray w (Ret B (fun rv H'=>rv=i64 x∧H'=cy bh h'::aG bd s'::Fr) (fun _ _=>False)):=by
 subst hb;exact fun w hw=>oS e (tg B Fr bh h s hW n i v hv w hw)
theorem yZ(hW:dl h s)(hb:h.bd=bd){x:Int}(e:h.commit s= .ok (x,h') s'):∀ w,Holds B (cy bh h::aG bd s::Fr) w→Calls Tryz.prog 15 [ptr bh].toArray w (Ret B (fun rv H'=>rv=i64 x∧H'=cy bh h'::aG bd s'::Fr) (fun _ _=>False)):=by
 subst hb;exact fun w hw=>oS e (rp B Fr bh h s hW w hw)
theorem Cc(hW:dl h s)(hb:h.bd=bd){w_ r at_ x:Int}(e:h.alloc s w_ r= .ok ((at_,x),h') s'):∀ w,Holds B (cy bh h::aG bd s::Fr) w→Calls Tryz.prog 12 [ptr bh,.agg #[i64 w_,i64 r]].toArray w (Ret B (fun rv H'=>rv= .tuple #[i64 at_,i64 x]∧H'=cy bh h'::aG bd s'::Fr) (fun _ _=>False)):=by
 subst hb;exact fun w hw=>oS (enc:=fun a:Int×Int=> .tuple #[i64 a.1,i64 a.2]) e (rh B Fr bh h s hW w_ r w hw)
theorem D8(hW:dl h s)(hb:h.bd=bd):∀ w,Holds B (cy bh h::aG bd s::Fr) w→Calls Tryz.prog 22 [ptr bh].toArray w (bB B (cy bh h::aG bd s::Fr) (Ax (h.stats s))):=by
 subst hb;exact oE B Fr bh h s hW
theorem EJ{kp:Prop}{c:Cfg}(hc:bC c){N:Nat}{a u:Int}{L:List Int}(H:HC kp c N bd h s a u L){room:Int}(h0:0≤room)(hr:¬ c.space - u<room):∀ w,Holds B (cy bh h::aG bd s::Fr) w→Calls Tryz.prog 11 [ptr bh,i64 room].toArray w (Ret B (fun rv H'=>∃ h',h'.X=none∧h'.T=h.T∧HO kp c N bd s.now [] h' s a u u L∧rv=i64 0∧H'=cy bh h'::aG bd s::Fr) (fun _ _=>False)):=by
 have hb:=H.hbd
 subst hb
 refine fun w hw=>(oH B Fr bh h s H.hw H.bok room w hw).mono (Ret.mono ?_ ?_)
 ·rintro rv H' ⟨x,h',s',hb,rfl,rfl⟩
  obtain⟨rfl,rfl,hT,HO'⟩:=H.begin hc h0 hr hb
  have hx:h'.X=none:=Dy H.ho hb
  exact⟨h',hx,hT,HO',rfl,rfl⟩
 ·rintro ch H' ⟨s',⟨_,h1,_⟩,_⟩
  rw[H.blk,H.hcc] at h1
  exact absurd h1 hr
end
theorem EY{s:Dev}{c:Cfg}{b:Blk}(h0:b.has c 0=false):∀ (ws:List Int) (x:gJ),(∀ v∈ws,v=0)→ws.foldl (s.see c b) x=x
 | [],_,_=>rfl
 | v::t,x,h=>by
   have hv:=h v (List.mem_cons_self ..)
   subst hv
   simp only[List.foldl_cons]
   rw[show s.see c b x 0=x from by unfold Dev.see;rw[if_pos (.inr h0)]]
   exact EY h0 t x fun v hv=>h v (List.mem_cons_of_mem _ hv)
theorem t6{s:Dev}{c:Cfg}(hc:bC c){b:Blk}(hb:fg c b){ws:List Int}(h:∀ v∈ws,v=0):s.reachSize c b ws=0:=by
 have h1:=hb.act
 have h4:=gE hc (k:=b.act) (by omega)
 have h0:b.has c 0=false:=by unfold Blk.has;simp;omega
 unfold Dev.reachSize Dev.reach
 rw[EY h0 ws _ h]
 unfold Dev.reachL
 rfl
theorem zP{kp:Prop}{c:Cfg}(hc:bC c){N bd:Nat}{h:HpS}{s:Dev}{a:Int}(H:HC kp c N bd h s a 0 [])(hT:h.T.at_=[]):h.stats s=⟨0,0,0,0,false⟩:=by
 have hz:∀ v∈h.words++(h.blk s).rts,v=0:=fun v hv=>by
  rcases List.mem_append.1 hv with hv | hv
  ·unfold HpS.words at hv
   rw[hT] at hv
   simp[cG] at hv
  ·rw[H.blk] at hv
   exact(H.hm.heap.roots v hv).resolve_right fun h=>by cases h
 unfold HpS.stats
 rw[hT,H.sk.ln,H.ho,t6 H.hw.c (dM H.hw.c H.hw.u) hz,H.blk]
 rfl
theorem isW{B:World}{Fr:List HP}{bm br n bh bd:Nat}{c:Cfg}{h:HpS}{s:Dev}(hn:n≤1000)(hW:dl h s)(hb:h.bd=bd)(hst:h.stats s=⟨0,0,0,0,false⟩)(hck:s.check h.c=0):∀ w,Holds B (cy bh h::aG bd s::eI bm br n c::fa br n::Fr) w→Calls Tryz.prog 47 [ptr bm,ptr bh].toArray w (bB B (cy bh h::aG bd s::eI bm br n c::fa br n::Fr) (.bool true)):=by
 subst hb;exact CN B Fr bm br n c hn bh h s hW hst hck
theorem HC.check{kp:Prop}{c:Cfg}(hc:bC c){N bd:Nat}{h:HpS}{s:Dev}{a u:Int}{L:List Int}(H:HC kp c N bd h s a u L):s.check h.c=0:=by
 rw[H.hcc];exact rk hc H.hw.u H.hm.block H.hm.heap
theorem wD{p:Int}(hp:p≠0):(⟨[],[],0⟩:cX).take p=(1,⟨[(1,p)],[(p,1)],1⟩):=by
 unfold cX.take
 rw[if_neg hp,if_neg (by simp[bi])]
 rfl
theorem yn{m:Int→Int}{k w r:Int}(h:0≤r∧r≤w∧w≤64)(e:m k=eR w r):orf m k=r∧osz m k=w+1:=by
 unfold orf osz
 rw[e,uQ h];exact⟨rfl,rfl⟩
theorem xH(B:World)(Fr:List HP):
 ∀ w,Holds B Fr w→Calls Tryz.prog 9 [].toArray w (bB B Fr (.bool true)):=by
 refine au func9 aa ntmps9 aa ?_
 obtain⟨c,hcm,hcs,hcl,hcr⟩:∃ c,c=mkC 0 0 40∧c.space=48∧c.log=3∧c.roots=1:=⟨_,rfl,rfl,rfl,rfl⟩
 have hc:bC c:=by rw[hcm];exact vq (by decide) (by decide) (by decide)
 have hA:=ga hc
 have hf0:=jq hc (a:=0) (by decide)
 refine ac (ab (kPa aa aa (ad (ac (ac (ab (aE aa (aA call46 aa) (xI _ _) .free aa aa ?_)))))))
 refine kPv (bF aa) aa (ad (cf aa (rfl) (ay (ac (ab (kPv (aZ aa (kz _ aa)) aa (aQ aa (aA call10 aa) (sU B _ 0 0 40 (by decide) c hcm) .free aa aa ?_)))))))
 rintro _ _ ⟨bd,bh,bm,br,N,s,hN,H0,rfl,rfl⟩
 obtain⟨h0,hh0⟩:∃ h0:HpS,h0=ik bd c s:=⟨_,rfl⟩
 rw[←hh0] at H0 ⊢
 have hT0:h0.T=⟨[],[],0⟩:=by rw[hh0];rfl
 refine kPm aa aa (kPv (aB aa aa) aa (kPv (aB aa aa) aa (kPv (aB aa aa) aa (kPa aa aa (kPa aa aa (kPa aa aa (ad (ao [3,2,0] rfl (ac (ac (ab ?_)))))))))))
 refine kPm aa aa (kPv (dq runUnderlying29 aa aa aa) aa (kPm aa aa (aq aa (ap aa) (.on aa aa (ah aa)) aa aa (aq aa (ap aa) (.on aa aa (ah aa)) aa aa (aE aa (aA call47 aa) (isW (by omega) H0.hw H0.hbd (zP hc H0 (by rw[hT0])) (H0.check hc)) (.on aa aa (ah aa)) aa aa ?_)))))
 refine aq aa (bF aa) (.on aa aa (ah aa)) aa aa (kPv (aL aa aa aa) aa (ad (ao [22,2,0] rfl (cf aa (rfl) (ay (ac (ab (kPm aa aa (aQ aa (aA call11 aa) (EJ hc H0 (by decide) (by omega)) .free aa aa ?_)))))))))
 rintro _ _ ⟨h1,hx1,hT1,H1,rfl,rfl⟩
 have hk1:h1.T.take (c.frm 0+0)=(1,⟨[(1,c.frm 0+0)],[(c.frm 0+0,1)],1⟩):=by rw[hT1,hT0];exact wD (by omega)
 obtain⟨h2,s2,js2,e2,H2,hx2,hT2,_,hjl2,hl2⟩:=H1.alloc hc hx1 (w:=2) (r:=1) ⟨by decide,by decide,by decide⟩ (by omega) (.inr (by simp;omega)) (by rw[hT1,hT0];decide) (by rw[hT1,hT0];decide)
 rw[hk1] at e2 hT2
 have hk2:=yn (m:=s2.load) (k:=c.frm 0+0) (w:=2) (r:=1) ⟨by decide,by decide,by decide⟩ (by rw[hl2 _ (by omega),if_pos (by omega),if_pos rfl])
 obtain⟨h3,s3,js3,e3,H3,hx3,hT3,_⟩:=H2.write hc hx2 (n:=1) (k:=c.frm 0+0) (i:=1) (v:=7) (by rw[hT2];rfl) (by simp) (by omega) (by decide) (.inl (by rw[H2.ff,H2.ft];omega))
 obtain⟨h4,s4,e4,H4,hx4,hT4,_⟩:=H3.commit hc hx3
 have hu4:(h4.stats s4).used=3:=by
  show(h4.blk s4).used=3
  rw[H4.blk];rfl
 refine kPa aa aa (ad (ac (ab (kPm aa aa (kPv (aZ aa (mX _ _ aa aa)) aa (cL aa (aA call12 aa) (Cc H1.hw H1.hbd e2) .free aa aa ?_))))))
 refine kPm aa aa (kPv (aB aa aa) aa (kPv (aB aa aa) aa (kPa aa aa (kPa aa aa (ad (ao [6,5,4,2,0] rfl (ac (ab (kPm aa aa (kPv (an aa aa aa) aa (kPm aa aa ?_)))))))))))
 refine aq aa (ap aa) (.on aa aa (ah aa)) aa aa (aq aa (an aa aa aa) (.on aa aa (ah aa)) aa aa (kPv (aH aa aa aa) aa (kPm aa aa (aq aa (ap aa) (.on aa aa (ah aa)) aa aa (aq aa (an aa aa aa) (.on aa aa (ah aa)) aa aa (kPv (aH aa aa aa) aa (kPm aa aa (aq aa (ap aa) (.on aa aa (ah aa)) aa aa (cL aa (aA call14 aa) (DW H2.hw H2.hbd (by decide) e3) (.on aa aa (ah aa)) aa aa ?_)))))))))
 refine aq aa (an aa aa aa) (.on aa aa (ah aa)) aa aa (kPv (aH aa aa aa) aa (kPm aa aa (aq aa (ap aa) (.on aa aa (ah aa)) aa aa (cL aa (aA call15 aa) (yZ H3.hw H3.hbd e4) (.on aa aa (ah aa)) aa aa ?_))))
 refine aq aa (an aa aa aa) (.on aa aa (ah aa)) aa aa (kPv (aH aa aa aa) aa (kPm aa aa (aq aa (ap aa) (.on aa aa (ah aa)) aa aa (aE aa (aA call22 aa) (D8 H4.hw H4.hbd) (.on aa aa (ah aa)) aa aa ?_))))
 refine aq aa (io runUnderlying58 (t:=3) (off:=0) aa isAgg3 aa aa) (.on aa aa (ah aa)) aa aa (aq aa (an aa aa aa) (.on aa aa (ah aa)) aa aa (kPv (aH aa aa aa) aa (kPa aa aa (ad (ao [0] rfl (az ?_))))))
 exact ax results9 aa (fun w hw=>⟨by simp[hu4],(hw.dp [0,0,0,0])⟩)
section
variable {kp:Prop} {c:Cfg} {N bd:Nat} {h:HpS} {s:Dev} {a u:Int} {L:List Int}
end
theorem l7.took{T:cX}(w:l7 T){n p:Int}(h:bi T.at_ n=some p):T.take p=(n,T):=by
 have h1:=w.fwd n p h
 unfold cX.take
 rw[if_neg h1.2.2.2,h1.1];rfl
def jx(D:List Nat)(f:Nat→Int)(x:Option Nat)(v:Int):Prop:=match x with
 | none=>v=0
 | some b=>b∈D∧v=f b
theorem jx.mono{D D':List Nat}{f:Nat→Int}{x:Option Nat}{v:Int}(h:jx D f x v)(hs:∀ b∈D,b∈D'):jx D' f x v:=by
 cases x with
 | none=>exact h
 | some b=>exact⟨hs b h.1,h.2⟩
theorem jx.congr{D:List Nat}{f f':Nat→Int}{x:Option Nat}{v:Int}(h:jx D f x v)(hs:∀ b∈D,f' b=f b):jx D f' x v:=by
 cases x with
 | none=>exact h
 | some b=>exact⟨h.1,by rw[hs b h.1];exact h.2⟩
structure GR(c:Cfg)(m:Int→Int)(L:List Int)(g:Nat→Nd)(rts:List (Option Nat))(D:List Nat)(f:Nat→Int):Prop where
 inL:∀ b∈D,f b∈L
 inj:∀ a∈D,∀ b∈D,f a=f b→a=b
 hd:∀ b∈D,osz m (f b)=(g b).wd+1∧orf m (f b)=(g b).rf
 nm:∀ b∈D,∀ i:Nat,(i:Int)<(g b).rf→jx D f ((g b).names.getD i none) (m (f b+1+i))
 nu:∀ b∈D,∀ i:Nat,(g b).rf≤i→(i:Int)<(g b).wd→m (f b+1+i)=(g b).nums.getD i 0
 rt:∀ i:Nat,(i:Int)<c.roots→jx D f (rts.getD i none) (m (c.root i))
structure TR(T:cX)(hs:List (Option Nat))(D:List Nat)(f:Nat→Int):Prop where
 w:l7 T
 last:T.last=hs.length
 get:∀ n:Nat,bi T.at_ ((n:Int)+1)=(hs.getD n none).map f
 inD:∀ b,some b∈hs→b∈D
theorem TR.new(D:List Nat)(f:Nat→Int):TR ⟨[],[],0⟩ [] D f:=⟨D7,rfl,fun n=>by simp[bi],fun b h=>by cases h⟩
theorem getD_some{α:Type}{l:List (Option α)}{n:Nat}{b:α}(h:l.getD n none=some b):l[n]? =some (some b):=by
 rw[List.getD_eq_getElem?_getD] at h
 cases e:l[n]? with
 | none=>rw[e] at h;cases h
 | some x=>rw[e] at h;simp at h;rw[h]
theorem TR.none_{T:cX}{hs:List (Option Nat)}{D:List Nat}{f:Nat→Int}(h:TR T hs D f){n:Int}(hn:n<1∨(hs.length:Int)<n):bi T.at_ n=none:=by
 cases hm:bi T.at_ n with
 | none=>rfl
 | some p=>have:=h.w.fwd n p hm;have:=h.last;omega
theorem TR.node{T:cX}{M:Md}{D:List Nat}{f:Nat→Int}(h:TR T M.hs D f)(n:Int):(∃ b∈D,M.node n=(some b,0)∧bi T.at_ n=some (f b))∨(M.node n=(none,6)∧bi T.at_ n=none):=by
 unfold Md.node
 by_cases hc:1≤n∧n≤M.hs.length∧M.hs.getD (n - 1).toNat none≠none
 ·rw[if_pos hc]
  left
  cases hb:M.hs.getD (n - 1).toNat none with
  | none=>exact absurd hb hc.2.2
  | some b=>
    have h1:=h.get (n - 1).toNat
    rw[hb,show(((n - 1).toNat:Nat):Int)+1=n by omega] at h1
    exact⟨b,h.inD b (List.mem_of_getElem? (getD_some hb)),rfl,h1⟩
 ·rw[if_neg hc]
  right
  refine⟨rfl,?_⟩
  by_cases h1:1≤n∧n≤M.hs.length
  ·have h2:=h.get (n - 1).toNat
   rw[show(((n - 1).toNat:Nat):Int)+1=n by omega] at h2
   have h3:M.hs.getD (n - 1).toNat none=none:=Classical.not_not.1 fun h3=>hc ⟨h1.1,h1.2,h3⟩
   rw[h2,h3];rfl
  ·exact h.none_ (by omega)
theorem TR.other{T:cX}{M:Md}{D:List Nat}{f:Nat→Int}(h:TR T M.hs D f){hp:HpS}(hT:hp.T=T)(n:Int):(∃ x v,M.other n=(x,0)∧hp.plc n=(v,0)∧jx D f x v)∨(M.other n=(none,6)∧hp.plc n=(0,6)):=by
 subst hT
 unfold Md.other HpS.plc
 by_cases h0:n=0
 ·subst h0
  rw[if_pos rfl,if_pos (.inr rfl),h.none_ (.inl (by omega))]
  exact .inl ⟨none,0,rfl,rfl,rfl⟩
 ·rw[if_neg h0]
  rcases h.node n with ⟨b,hb,e1,e2⟩ | ⟨e1,e2⟩
  ·rw[e1,e2];exact .inl ⟨some b,f b,rfl,if_pos (.inl aa),hb,rfl⟩
  ·rw[e1,e2];exact .inr ⟨rfl,if_neg (by simp[h0])⟩
theorem Eu{α:Type}[DecidableEq α]{l:List α}{x:α}(h:x∈l):∃ i:Nat,ixI l x=i∧l[i]? =some x:=by
 have h1:l.idxOf x<l.length:=List.idxOf_lt_length_of_mem h
 exact⟨_,by unfold ixI;rw[if_pos h],by rw[List.getElem?_eq_getElem h1,List.getElem_idxOf h1]⟩
theorem TR.take{T:cX}{M:Md}{D:List Nat}{f:Nat→Int}(h:TR T M.hs D f)(hinj:∀ a∈D,∀ b∈D,f a=f b→a=b){x:Option Nat}{v:Int}(hx:jx D f x v)(hv:x≠none→v≠0):(T.take v).1=(M.take x).1∧TR (T.take v).2 (M.take x).2.hs D f∧(M.take x).2.hs.length≤M.hs.length+1:=by
 cases x with
 | none=>
   obtain rfl:v=0:=hx
   exact⟨rfl,h,by show M.hs.length≤_;omega⟩
 | some b=>
   obtain⟨hb,rfl⟩:=hx
   have hz:=hv (by simp)
   unfold Md.take
   rw[if_neg (by simp)]
   by_cases hm:some b∈M.hs
   ·rw[if_pos hm]
    obtain⟨i,e,hi⟩:=Eu hm
    have h1:bi T.at_ ((i:Int)+1)=some (f b):=by rw[h.get,List.getD_eq_getElem?_getD,hi];rfl
    have h2:=h.w.took h1
    rw[h2]
    exact⟨by rw[e],h,by simp only;omega⟩
   ·rw[if_neg hm]
    obtain⟨w1,w2,w3,w4,w5,w6⟩:=h.w.take hz
    rcases w6 with ⟨w6,_⟩ | ⟨_,w7,w8⟩
    ·exfalso
     have h1:=h.w.bwd _ _ w6
     have h2:=h.w.fwd _ _ h1
     have h3:=h.get ((T.take (f b)).1 - 1).toNat
     rw[show((((T.take (f b)).1 - 1).toNat:Nat):Int)+1=(T.take (f b)).1 by omega,h1] at h3
     cases hg:M.hs.getD ((T.take (f b)).1 - 1).toNat none with
     | none=>rw[hg] at h3;cases h3
     | some b'=>
       rw[hg] at h3
       have h4:=List.mem_of_getElem? (getD_some hg)
       have h5:=hinj b hb b' (h.inD b' h4) (Option.some.inj h3)
       exact hm (h5▸h4)
    ·refine⟨by rw[w7,h.last],⟨w1,by rw[w8];simp only[List.length_append,List.length_singleton];rw[h.last];omega,fun n=> ?_,fun b' hb'=> ?_⟩,by simp⟩
     ·simp only
      by_cases hn:(n:Int)+1=(T.take (f b)).1
      ·rw[hn,w2]
       have:n=M.hs.length:=by rw[w7,h.last] at hn;omega
       subst this
       simp[List.getD_eq_getElem?_getD]
      ·rw[w5 _ hn,h.get]
       rw[w7,h.last] at hn
       simp only[List.getD_eq_getElem?_getD]
       by_cases hl:n<M.hs.length
       ·rw[List.getElem?_append_left hl]
       ·rw[List.getElem?_eq_none (by omega),List.getElem?_eq_none (by simp;omega)]
     ·rcases List.mem_append.1 hb' with hb' | hb'
      ·exact h.inD b' hb'
      ·cases List.mem_singleton.1 hb';exact hb
theorem TR.drop{T:cX}{M:Md}{D:List Nat}{f:Nat→Int}(h:TR T M.hs D f)(n:Int):(if (bi T.at_ n).isSome=true then (0:Int) else 6)=(M.drop n).1∧TR (T.drop n) (M.drop n).2.hs D f∧(M.drop n).2.hs.length=M.hs.length:=by
 have hd:=h.w.drop n
 unfold Md.drop
 rcases h.node n with ⟨b,hb,e1,e2⟩ | ⟨e1,e2⟩
 ·rw[e1,e2]
  simp only[ne_eq,not_true_eq_false,if_false,Option.isSome_some,if_true]
  have h1:=h.w.fwd n _ e2
  refine⟨trivial,⟨hd.1,by rw[List.length_set];exact h.last,fun k=> ?_,fun b' hb'=> ?_⟩,List.length_set ..⟩
  ·rw[hd.2,h.get,List.getD_eq_getElem?_getD,List.getD_eq_getElem?_getD,List.getElem?_set]
   by_cases hk:(k:Int)+1=n
   ·rw[if_pos hk,if_pos (by omega)]
    split<;>rfl
   ·rw[if_neg hk,if_neg (by omega)]
  ·rcases List.mem_or_eq_of_mem_set hb' with hb' | hb'
   ·exact h.inD b' hb'
   ·cases hb'
 ·rw[e1,e2]
  simp only[ne_eq,if_pos (show ¬ (6:Int)=0 by decide),Option.isSome_none,Bool.false_eq_true,if_false]
  refine⟨trivial,⟨hd.1,h.last,fun k=> ?_,h.inD⟩,trivial⟩
  rw[hd.2]
  split
  ·rename_i hk
   rw[←h.get,hk,e2]
  ·exact h.get k
theorem GR.obj{c:Cfg}(hc:bC c){s:Dev}{a u:Int}{L:List Int}{g:Nat→Nd}{rts:List (Option Nat)}{D:List Nat}{f:Nat→Int}(G:GR c s.load L g rts D f)(hm:HM c s.load a u L){h:HpS}(hcc:h.c=c){n:Int}{b:Nat}(hb:b∈D)(hn:bi h.T.at_ n=some (f b)):h.obj s n=(((g b).wd,(g b).rf,f b),0):=by
 unfold HpS.obj
 rw[hn,if_pos (show(some (f b)).isSome=true from rfl),show h.blk s=fu c s.load a u by show(s.block h.c).1=_;rw[hcc,hm.block],hcc]
 show s.objOf c _ (f b)=_
 rw[(mh hc hm.bw hm.heap (G.inL b hb)).1]
 obtain⟨h1,h2⟩:=G.hd b hb
 rw[h1,h2]
 congr 2
 omega
theorem nO{wd rf k:Int}{x:Nd}(h1:x.wd=wd)(h2:x.rf=rf)(i:Int)(nm:Bool):(bS (wd,rf,k) i nm).2=x.field i nm∧(x.field i nm=0→(bS (wd,rf,k) i nm).1=k+1+i∧0≤i∧i<wd∧decide (i<rf)=nm):=by
 subst h1;subst h2
 unfold bS Nd.field
 simp only
 split
 ·exact⟨rfl,fun h=>by cases h⟩
 ·split
  ·exact⟨rfl,fun h=>by cases h⟩
  ·rename_i h1 h2
   exact⟨rfl,fun _=>⟨rfl,by omega,by omega,Classical.not_not.1 h2⟩⟩
theorem m9(M:Md)(x:Option Nat):(M.take x).2={M with hs:=(M.take x).2.hs}:=by
 unfold Md.take;split
 ·rfl
 ·split<;>rfl
theorem x5(M:Md)(x:Option Nat):∀ b,some b∈(M.take x).2.hs→some b∈M.hs∨x=some b:=by
 unfold Md.take;intro b;split
 ·exact .inl
 ·split
  ·exact .inl
  ·intro h;rcases List.mem_append.1 h with h | h
   ·exact .inl h
   ·exact .inr (List.mem_singleton.1 h).symm
theorem MdW.withHs{M:Md}{K K':Nat}(h:MdW M K){l:List (Option Nat)}(hi:InL M.ids l)(hl:l.length≤K')(hk:K≤K')(hk':K'≤1000000):MdW {M with hs:=l} K':=
 {h.mono hk hk' with hi:=hi,hl:=hl,uw:=fun u hu=>(h.uw u hu).congr (fun _ e=>e) rfl fun _ _=>⟨rfl,rfl⟩}
structure SB(c:Cfg)(h:HpS)(s:Dev)(M:Md)(D:List Nat)(f:Nat→Int)(a u:Int)(L:List Int)(K:Nat):Prop where
 hc:bC c
 hm:HM c s.load a u L
 hcc:h.c=c
 hw:dl h s
 G:GR c s.load L M.g M.roots D f
 T:TR h.T M.hs D f
 W:MdW M K
 cc:M.c=c
 di:∀ b∈D,b∈M.ids
section
variable {c:Cfg} {h:HpS} {s:Dev} {M:Md} {D:List Nat} {f:Nat→Int} {a u:Int} {L:List Int} {K:Nat}
theorem SB.fb(S:SB c h s M D f a u L K){b:Nat}(hb:b∈D):24<f b∧f b<20000:=by
 have h1:=oG S.hc S.hm.bw S.hm.heap (S.G.inL b hb)
 exact⟨h1.2.2.1,h1.2.2.2⟩
theorem SB.ref_b(S:SB c h s M D f a u L K){x:Option Nat}{v:Int}(hx:jx D f x v):IntKind.i64.wrap v=v∧(x≠none→v≠0):=by
 cases x with
 | none=>obtain rfl:v=0:=hx;exact⟨gh (by omega),fun h=>absurd aa h⟩
 | some b=>obtain⟨hb,rfl⟩:=hx;have:=S.fb hb;exact⟨gh (by omega),fun _=>by omega⟩
theorem SB.take(S:SB c h s M D f a u L K){x:Option Nat}{v:Int}(hx:jx D f x v):(h.T.take v).1=(M.take x).1∧TR (h.T.take v).2 (M.take x).2.hs D f∧(M.take x).2.hs.length≤M.hs.length+1:=S.T.take S.G.inj hx (S.ref_b hx).2
theorem SB.head(S:SB c h s M D f a u L K)(n:Int):[(h.obj s n).1.1,(h.obj s n).1.2.1,(h.obj s n).2]=[(M.head n).1.1,(M.head n).1.2,(M.head n).2]:=by
 unfold Md.head Md.nd
 rcases S.T.node n with ⟨b,hb,e1,e2⟩ | ⟨e1,e2⟩
 ·rw[S.G.obj S.hc S.hm S.hcc hb e2,e1];rfl
 ·unfold HpS.obj;rw[e1,e2];rfl
theorem SB.read(S:SB c h s M D f a u L K)(n i:Int):h.read s n i=M.read n i:=by
 unfold Md.read Md.nd HpS.read
 rcases S.T.node n with ⟨b,hb,e1,e2⟩ | ⟨e1,e2⟩
 ·rw[S.G.obj S.hc S.hm S.hcc hb e2,e1]
  simp only[ne_eq,not_true_eq_false,if_false,Option.getD_some]
  obtain⟨h1,h2⟩:=nO (k:=f b) rfl rfl i false (x:=M.g b)
  unfold Dev.objRead
  rw[h1]
  by_cases hz:(M.g b).field i false=0
  ·obtain⟨h3,h4,h5,h6⟩:=h2 hz
   rw[if_neg (by simpa using hz),if_neg (by simpa using hz),h3]
   have h7:=S.G.nu b hb i.toNat (by have:=of_decide_eq_false h6;omega) (by omega)
   rw[show((i.toNat:Nat):Int)=i by omega] at h7
   rw[h7]
  ·rw[if_pos hz,if_pos hz]
 ·unfold HpS.obj;rw[e1,e2];rfl
theorem SB.ref(S:SB c h s M D f a u L K)(n i:Int):∃ x v,jx D f x v∧(h.ref s n i).1=(M.ref n i).1∧(h.ref s n i).2={h with T:=(h.T.take v).2}∧(M.ref n i).2=(M.take x).2∧(x=none∨∃ b,some b∈M.hs∧b∈D∧0≤i∧i<(M.g b).rf∧x=(M.g b).names.getD i.toNat none∧v=s.load (f b+1+i)):=by
 unfold Md.ref Md.nd HpS.ref
 have t0:h.T.take 0=(0,h.T):=rfl
 rcases S.T.node n with ⟨b,hb,e1,e2⟩ | ⟨e1,e2⟩
 ·rw[S.G.obj S.hc S.hm S.hcc hb e2,e1]
  simp only[ne_eq,not_true_eq_false,if_false,Option.getD_some]
  obtain⟨h1,h2⟩:=nO (k:=f b) rfl rfl i true (x:=M.g b)
  unfold Dev.objRef
  rw[h1]
  by_cases hz:(M.g b).field i true=0
  ·obtain⟨h3,h4,h5,h6⟩:=h2 hz
   rw[if_neg (by simpa using hz),if_neg (by simpa using hz),h3]
   have h6':=of_decide_eq_true h6
   have h7:=S.G.nm b hb i.toNat (by omega)
   rw[show((i.toNat:Nat):Int)=i by omega] at h7
   obtain⟨h8,h9⟩:=S.ref_b h7
   simp only
   rw[h8]
   have h10:=S.take h7
   refine⟨_,_,h7,by rw[h10.1],rfl,rfl,.inr ⟨b,?_,hb,h4,h6',rfl,rfl⟩⟩
   have h11:(M.node n).2=0:=by rw[e1]
   obtain⟨b',_,h12,_,_,h13⟩:=S.W.node (show ¬ (M.node n).2≠0 by omega)
   rw[e1] at h12;cases h12
   exact List.mem_of_getElem? h13
  ·rw[if_pos hz,if_pos hz]
   simp only
   rw[t0]
   exact⟨none,0,rfl,rfl,rfl,rfl,.inl aa⟩
 ·unfold HpS.obj
  rw[e1,e2]
  exact⟨none,0,rfl,rfl,rfl,rfl,.inl aa⟩
theorem SB.root(S:SB c h s M D f a u L K)(i:Int):∃ x v,jx D f x v∧(h.root s i).1=(M.root i).1∧(h.root s i).2={h with T:=(h.T.take v).2}∧(M.root i).2=(M.take x).2∧(x=none∨∃ k:Nat,(k:Int)<c.roots∧x=M.roots.getD k none∧v=s.load (c.root k)):=by
 have hcc:=S.hcc
 subst hcc
 unfold Md.root HpS.root
 rw[S.cc]
 by_cases hi:i<0∨h.c.roots≤i
 ·rw[if_pos hi,if_pos hi]
  exact⟨none,0,rfl,rfl,rfl,rfl,.inl aa⟩
 ·rw[if_neg hi,if_neg hi]
  have h7:=S.G.rt i.toNat (by omega)
  obtain⟨h8,h9⟩:=S.ref_b h7
  rw[show((i.toNat:Nat):Int)=i by omega] at h7 h8
  rw[h8]
  have h10:=S.take h7
  exact⟨_,_,h7,by rw[h10.1],rfl,rfl,.inr ⟨i.toNat,by omega,rfl,by rw[show((i.toNat:Nat):Int)=i by omega]⟩⟩
end
structure JM(N:Nat)(s0:Dev)(lo hi:Int)(s:Dev):Prop where
 u:U64 s
 lim:s.pow.lim<0
 n:s.n=N
 now:∀ x:Nat,(x:Int)<lo∨hi≤x→s.now x=s0.now x
theorem yz{N:Nat}{s0:Dev}{lo hi:Int}(h0:24<lo)(h1:hi≤N):lB lo hi (JM N s0 lo hi) where
 n s h:=⟨by omega,by rw[h.n];exact h1⟩
 st s i v h g1 g2 g3 g4:=⟨fun x=>by
  show 0≤upd s.now i.toNat v x∧upd s.now i.toNat v x<_
  unfold upd;split
  ·exact⟨g3,g4⟩
  ·exact h.u x,h.lim,h.n,fun x hx=>by
  show upd s.now i.toNat v x=_
  unfold upd;rw[if_neg (by omega)];exact h.now x hx⟩
 fl s i h _ _:=⟨h.u,h.lim,h.n,h.now⟩
 fe s h:=⟨h.u,h.lim,h.n,h.now⟩
theorem JM.load{N:Nat}{s0 s:Dev}{lo hi:Int}(h:JM N s0 lo hi s)(h0:s0.n=N){j:Int}(hj:j<lo∨hi≤j):s.load j=s0.load j:=by
 unfold Dev.load Dev.has
 rw[h.n,h0]
 split
 ·rename_i hc
  simp only[Bool.and_eq_true,decide_eq_true_eq] at hc
  exact h.now _ (by omega)
 ·rfl
theorem HM.congrA{c:Cfg}(hc:bC c){m m':Int→Int}{a u:Int}{L:List Int}(h:HM c m a u L)(e:∀ j,j<c.frm (1 - a)∨c.frm (1 - a)+c.space≤j→m' j=m j):HM c m' a u L:=by
 have hf:=jq hc h.a01
 have hf2:=jq hc (a:=1 - a) (by have:=h.a01;omega)
 have hu:=h.u0
 have hr:=hc.r1
 have hap:c.frm a+c.space≤c.frm (1 - a)∨c.frm (1 - a)+c.space≤c.frm a:=by
  have h1:=dU (n:=c.space) (by have:=hc.s1;omega)
  rcases (by have:=h.a01;omega:a=0∨a=1) with rfl | rfl<;>(simp only[Cfg.frm];omega)
 have e1:∀ j,c.frm a≤j→j<c.frm a+u→m' j=m j:=fun j h1 h2=>e j (by omega)
 have e0:∀ k∈L,m' k=m k:=fun k hk=>by have:=h.tile.mem hk;have:=cu m k;exact e1 k (by omega) (by omega)
 have eo:∀ k∈L,orf m' k=orf m k:=fun k hk=>by unfold orf;rw[e0 k hk]
 refine⟨by rw[e _ (by omega)];exact h.act,h.a01,by rw[e _ (by omega)];exact h.used,h.u0,h.tile.congr e0,fun k hk i h1 h2=> ?_,fun i hi=> ?_⟩
 ·have:=h.tile.mem hk
  rw[eo k hk] at h2
  have:=cu m k
  rw[e1 _ (by omega) (by omega)];exact h.names k hk i h1 h2
 ·rw[e _ (by simp only[Cfg.root];omega)];exact h.roots i hi
section
variable {c:Cfg} {N bd:Nat} {h:HpS} {s s':Dev} {a u:Int} {L:List Int}
theorem HC.gc(hc:bC c){kp:Prop}(H:HC kp c N bd h s a u L):GcH c (fu c s.load a u) s.load L (c.frm (1 - a)) (c.frm (1 - a)+c.space):=⟨hc,H.hm.bw,H.hm.heap,rfl,rfl,fun x=>H.sk.u.load x⟩
theorem HC.mid{kp:Prop}(hc:bC c)(H:HC kp c N bd h s a u L)(hJ:JM N s (c.frm (1 - a)) (c.frm (1 - a)+c.space) s')(hq:s'.q=fun _=>none){X:Option bE}(hX:∀ Y,X=some Y→ev Y∧Y.bd=bd∧Y.c=c∧0<Y.b.rts.length):HC False c N bd {h with X:=X} s' a u L:=by
 have hf2:=jq hc (a:=1 - a) (by have:=H.hm.a01;omega)
 have hs1:=hc.s1
 have hr1:=hc.r1
 have h8:∀ x:Nat,x<24→s'.now x=s.now x:=fun x hx=>hJ.now x (by omega)
 have hsk:SK c N bd h.S s':=⟨⟨hJ.lim,hq⟩,hJ.u,hJ.n,H.sk.hN,H.sk.lc,H.sk.lw,H.sk.ln,H.sk.ld,by have:=H.sk.sh;unfold r5 at this ⊢;rw[h8 8 (by omega),h8 16 (by omega)];exact this⟩
 refine⟨H.hbd,H.hcc,H.ho,hsk,H.hm.congrA hc fun j hj=>hJ.load H.sk.n hj,(K8.mk (by rw[hJ.n,H.sk.n]) fun x hx=>h8 x (by omega)).readC hc (by rw[H.sk.n];exact H.sk.hN) H.rc,⟨H.hw.c,?_,fun x=>absurd (show h.o=true from x) (by rw[H.ho];decide),hJ.u,H.hw.t1,H.hw.tl,H.hw.tp,fun Y hY=> ?_⟩,fun x=>x.elim⟩
 ·exact⟨hsk.lw,by rw[hJ.n];have:=ga hc;have:=H.sk.hN;omega,by rw[show({h with X:=X}:HpS).bd=bd from H.hbd];exact hsk.ld,by rw[show({h with X:=X}:HpS).c=c from H.hcc];exact hsk.lc⟩
 ·obtain⟨h1,h2,h3,h4⟩:=hX Y hY
  exact⟨h1,h2.trans H.hbd.symm,h3.trans H.hcc.symm,h4⟩
theorem HC.fin(hc:bC c)(H:HC False c N bd h s a u L){m0:Int→Int}{ws:List Int}{X:bE}(G:GcH c (fu c m0 a u) m0 L (c.frm (1 - a)) (c.frm (1 - a)+c.space))(hD:DI c (fu c m0 a u) m0 L (c.frm (1 - a)) ws X s)(hXW:ev X)(hT:l7 h.T)(hkey:∀ n p,bi h.T.at_ n=some p→p∈X.went.map Prod.fst)(hrw:∀ w∈(fu c m0 a u).rts,w∈ws):
 (∀ s',¬ fZ h.c X.block h.S s= .off s')∧∀ x h' s',h.finR X s x h' s'→x=0∧HC False c N bd h' s' (1 - a) X.block.used (X.went.map Prod.snd)∧h'.X=none∧
  l7 h'.T∧h'.T.last=h.T.last∧(∀ n,bi h'.T.at_ n=(bi h.T.at_ n).map (tr X.went))∧s'.block c=(X.block,0)∧∀ j,c.frm 0≤j→s'.load j=s.load j:=by
 have hA:=ga hc
 have hN:=H.sk.hN
 have hbl:=hD.block G
 have hus:=hD.used G
 have hap:=G.apart
 have hlx:(X.block.rts.length:Int)=c.roots:=by rw[hbl];simp only[List.length_map,bu];have:=hc.r1;omega
 have hbX:fg c X.block:=by
  have hbw:=H.hm.bw
  exact⟨by have h1:=H.hm.a01;rw[hbl];simp only;omega,⟨hus.2.1,by have h2:=H.hm.u0;have h3:X.block.used≤u:=hus.2.2;omega⟩⟩
 have hac:X.block.act=1 - a:=by rw[hbl]
 obtain⟨S',s1,e2,h2,e3⟩:=BF hc H.sk hlx (rP hXW)
 have hblk:=xw hc h2.n hN hlx hbX e3
 have hld:∀ j,c.frm 0≤j→s1.load j=s.load j:=fun j hj=>by
  have hf:=gE hc (k:=0) (by omega)
  unfold Dev.load Dev.has
  rw[h2.n,H.sk.n]
  split
  ·rw[e3 _ (by omega),if_neg (by omega)]
  ·rfl
 refine⟨fun s9 h9=>(by rw[H.hcc,e2] at h9;cases h9),?_⟩
 rintro x h' s9 ⟨S9,h10,hor⟩
 rw[H.hcc,e2] at h10;cases h10
 rcases hor with ⟨h11,_⟩ | ⟨_,ord,hperm,rfl⟩
 ·exact absurd aa h11
 have hwt:m6 X=tr X.went:=rfl
 have htb:=hT.moved (to_:=m6 X) (fun p hp q hq e hz=>by
  have ep:=ir hT.n1 (show(p.1,p.2)∈h.T.at_ from hp)
  have eq:=ir hT.n1 (show(q.1,q.2)∈h.T.at_ from hq)
  have t1:=hD.trm (hkey _ _ ep)
  have t2:=hD.trm (hkey _ _ eq)
  have:=hD.ci.offs.inj t1.2 t2.2 e
  exact congrArg Prod.fst this) hperm
 have hwz:∀ n p,bi h.T.at_ n=some p→m6 X p≠0:=fun n p hp=>by
  have t1:=(hD.trm (hkey n p hp)).2
  have t2:=(hD.ci.offs.mem t1).1
  have:=G.lo0;have hf:=gE hc (k:=0) (by omega)
  rw[hwt];omega
 refine⟨rfl,⟨H.hbd,H.hcc,H.ho,h2,?_,(CS H.sk.lw e2).readC hc (by rw[H.sk.n];exact hN) H.rc,?_,fun h=>h.elim⟩,rfl,htb.1,rfl,fun n=> ?_,hblk,hld⟩
 ·have hm:=E4 hbX hblk (hD.heap G hrw (m':=s1.load) fun j hj _=>hld j (by have:=G.lo0;omega))
  rw[hac] at hm;exact hm
 ·have h9:=H.hw.moved (fun p=>hXW.vb p) hperm h2.lw (by rw[H.hbd];exact h2.ld) (by rw[H.hcc];exact h2.lc) h2.u (by rw[h2.n,H.sk.n])
  rw[←H.ho] at h9;exact h9
 ·rw[htb.2.1 n]
  cases hm:bi h.T.at_ n with
  | none=>rfl
  | some p=>simp only[Option.map_some];rw[if_neg (hwz n p hm)];rfl
end
theorem Eb{out:List (Option Nat)}{x y:Option Nat}:y∈eH out x↔y∈out∨(y=x∧x≠none):=by
 unfold eH
 split
 ·rename_i h
  rw[List.mem_append,List.mem_singleton]
  exact⟨fun h1=>h1.imp id fun e=>⟨e,h.1⟩,fun h1=>h1.imp id And.left⟩
 ·rename_i h
  refine⟨.inl,fun h1=>h1.elim id fun ⟨e,h2⟩=> ?_⟩
  subst e
  exact Classical.not_not.1 fun h3=>h ⟨h2,h3⟩
theorem jF:∀ {l out:List (Option Nat)} {y:Option Nat},y∈l.foldl eH out↔y∈out∨(y∈l∧y≠none)
 | [],_,_=>by simp
 | x::l,out,y=>by
   rw[List.foldl_cons,jF (l:=l),Eb,List.mem_cons]
   constructor
   ·rintro((h | ⟨rfl,h⟩) | ⟨h1,h2⟩)
    ·exact .inl h
    ·exact .inr ⟨.inl aa,h⟩
    ·exact .inr ⟨.inr h1,h2⟩
   ·rintro(h | ⟨rfl | h1,h2⟩)
    ·exact .inl (.inl h)
    ·exact .inl (.inr ⟨rfl,h2⟩)
    ·exact .inr ⟨h1,h2⟩
theorem tI{g:Nat→Nd}{P:Nat→Prop}(hP:∀ b,P b→∀ b',some b'∈(g b).names→P b'):∀ (F i:Nat) (out:List (Option Nat)),(∀ b,some b∈out→P b)→∀ b,some b∈mq g F i out→P b
 | 0,_,_,h=>h
 | F+1,i,out,h=>by
   unfold mq
   split
   ·rename_i b e
    refine tI hP F (i+1) _ fun b' hb'=> ?_
    rcases jF.1 hb' with h1 | h1
    ·exact h b' h1
    ·exact hP b (h b (List.mem_of_getElem? e)) b' h1.1
   ·exact h
theorem rW{ids:List Nat}{g:Nat→Nd}(hg:∀ b∈ids,InL ids (g b).names):∀ (F i:Nat) (out:List (Option Nat)),gT ids out→ids.length+1≤F+i→(∀ j,j<i→∀ b,out[j]? =some (some b)→∀ b',some b'∈(g b).names→some b'∈out)→
 (∀ y∈out,y∈mq g F i out)∧∀ b,some b∈mq g F i out→∀ b',some b'∈(g b).names→some b'∈mq g F i out
 | 0,i,out,h,hF,hc=>⟨fun _ hy=>hy,fun b hb b' hb'=>by
   obtain⟨j,hj,e⟩:=List.getElem_of_mem (show some b∈out from hb)
   exact hc j (by have:=h.len;omega) b (by rw[List.getElem?_eq_getElem hj,e]) b' hb'⟩
 | F+1,i,out,h,hF,hc=>by
   unfold mq
   split
   ·rename_i b e
    have hb:=h.inl b (List.mem_of_getElem? e)
    have ih:=rW hg F (i+1) ((g b).names.foldl eH out) (h.sees (hg b hb)) (by omega) fun j hj b1 e1 b' hb'=>by
     have hil:i<out.length:=(List.getElem?_eq_some_iff.1 e).1
     have hpre:∀ (l:List (Option Nat)) (o:List (Option Nat)),∃ t,l.foldl eH o=o++t:=fun l=>by
      induction l with
      | nil=>exact fun o=>⟨[],by simp⟩
      | cons x l ih=>
        intro o
        rw[List.foldl_cons]
        obtain⟨t,ht⟩:=ih (eH o x)
        rw[ht]
        unfold eH
        split
        ·exact⟨[x]++t,by simp⟩
        ·exact⟨t,rfl⟩
     obtain⟨t,ht⟩:=hpre (g b).names out
     rw[ht,List.getElem?_append_left (by omega)] at e1
     refine jF.2 ?_
     rcases Nat.lt_succ_iff_lt_or_eq.1 hj with hj | rfl
     ·exact .inl (hc j hj b1 e1 b' hb')
     ·rw[e] at e1;cases e1
      exact .inr ⟨hb',by simp⟩
    exact⟨fun y hy=>ih.1 y (jF.2 (.inl hy)),ih.2⟩
   ·rename_i hne
    refine⟨fun _ hy=>hy,fun b hb b' hb'=> ?_⟩
    obtain⟨j,hj,e⟩:=List.getElem_of_mem hb
    by_cases hji:j<i
    ·exact hc j hji b (by rw[List.getElem?_eq_getElem hj,e]) b' hb'
    ·exfalso
     have hil:i<out.length:=by omega
     obtain⟨b2,_,e2⟩:=h.ex out[i] (List.getElem_mem hil)
     exact hne b2 (by rw[List.getElem?_eq_getElem hil,e2])
def Md.R(M:Md):List Nat:=M.reached.filterMap id
theorem Md.mem_R{M:Md}{b:Nat}:b∈M.R↔some b∈M.reached:=by unfold Md.R;simp
section
variable {M:Md} {K:Nat}
theorem MdW.reach_sound(P:Nat→Prop)(h1:∀ b,some b∈M.roots∨some b∈M.hs→P b)(hP:∀ b,P b→∀ b',some b'∈(M.g b).names→P b'){b:Nat}(hb:some b∈M.reached):P b:=
 tI hP _ _ _ (fun b hb=>by
  rcases jF.1 hb with hb | hb
  ·rcases jF.1 hb with hb | hb
   ·cases hb
   ·exact h1 b (.inl hb.1)
  ·exact h1 b (.inr hb.1)) b hb
theorem MdW.reach_all(h:MdW M K):(∀ b,some b∈M.roots∨some b∈M.hs→some b∈M.reached)∧∀ b,some b∈M.reached→∀ b',some b'∈(M.g b).names→some b'∈M.reached:=by
 have hg:∀ b∈M.ids,InL M.ids (M.g b).names:=fun b hb=>(h.gw b hb).ni
 have:=rW hg (M.ids.length+1) 0 _ (((gT.nil _).sees h.ri).sees h.hi) (Nat.le_refl _) fun j hj=>absurd hj (Nat.not_lt_zero _)
 refine⟨fun b hb=>this.1 _ (jF.2 ?_),this.2⟩
 rcases hb with hb | hb
 ·exact .inl (jF.2 (.inr ⟨hb,by simp⟩))
 ·exact .inr ⟨hb,by simp⟩
theorem sA{l:List (Option Nat)}(h:∀ x∈l,∃ b,x=some b):l=(l.filterMap id).map some:=by
 induction l with
 | nil=>rfl
 | cons x l ih=>
   obtain⟨b,rfl⟩:=h x (List.mem_cons_self ..)
   simp only[List.filterMap_cons,id,List.map_cons]
   rw[←ih fun y hy=>h y (List.mem_cons_of_mem _ hy)]
theorem MdW.R_eq(h:MdW M K):M.reached=M.R.map some:=sA fun x hx=>(h.out.ex x hx).imp fun _ h=>h.2
theorem MdW.R_nd(h:MdW M K):M.R.Nodup:=by
 have:=h.out.nd
 rw[h.R_eq] at this
 exact List.Pairwise.of_map some (fun a b h e=>h (congrArg some e)) this
theorem MdW.R_len(h:MdW M K):M.R.length=M.reached.length:=by rw[h.R_eq,List.length_map]
def szR(g:Nat→Nd)(R:List Nat):Int:=(R.map fun b=>(g b).wd+1).sum
theorem MdW.R_size(h:MdW M K):M.size=szR M.g M.R:=by
 unfold Md.size Md.szL szR
 rw[h.R_eq]
 have:∀ (l:List Nat) (n:Int),(l.map some).foldl (fun n x=>n+((M.g (x.getD 0)).wd+1)) n=n+(l.map fun b=>(M.g b).wd+1).sum:=fun l=>by
  induction l with
  | nil=>simp
  | cons b l ih=>intro n;simp only[List.map_cons,List.foldl_cons,Option.getD_some,List.sum_cons,ih];omega
 rw[this,Int.zero_add]
end
section
variable {c:Cfg} {h:HpS} {s:Dev} {M:Md} {D:List Nat} {f:Nat→Int} {a u:Int} {L:List Int} {K:Nat}
theorem HpS.words_mem(T:cX)(hp:HpS)(hT:hp.T=T){w:Int}(hw:w≠0):w∈hp.words↔∃ n,bi T.at_ n=some w:=by
 subst hT
 unfold HpS.words cG
 constructor
 ·intro hx
  obtain⟨n,_,e⟩:=List.mem_map.1 hx
  cases hm:bi hp.T.at_ n with
  | none=>rw[hm] at e;exact absurd e.symm hw
  | some p=>rw[hm] at e;exact⟨n,by rw[hm];exact congrArg some e⟩
 ·rintro⟨n,hn⟩
  exact List.mem_map.2 ⟨n,by rw[List.mem_mergeSort];exact List.mem_map.2 ⟨_,jJ hn,rfl⟩,by rw[hn];rfl⟩
theorem jx.some_(hfb:∀ b∈D,f b≠0){x:Option Nat}{v:Int}(h:jx D f x v)(hv:v≠0):∃ b∈D,x=some b∧v=f b:=by
 cases x with
 | none=>exact absurd h hv
 | some b=>exact⟨b,h.1,rfl,h.2⟩
theorem SB.reach(S:SB c h s M D f a u L K)(k:Int):Rch s.load ((fu c s.load a u).rts++h.words) k↔∃ b∈M.R,k=f b:=by
 have hz:∀ b∈D,f b≠0:=fun b hb=>by have:=S.fb hb;omega
 have hall:=S.W.reach_all
 constructor
 ·intro hr
  have key:∃ b∈M.R,b∈D∧k=f b:=by
   induction hr with
   | @word w hw h0=>
     rcases List.mem_append.1 hw with hw | hw
     ·obtain⟨i,hi,rfl⟩:=List.mem_map.1 (show w∈(List.range c.roots.toNat).map fun (i:Nat)=>s.load (c.root i) from hw)
      have hi':=List.mem_range.1 hi
      obtain⟨b,hb,e,e2⟩:=(S.G.rt i (by omega)).some_ hz h0
      exact⟨b,Md.mem_R.2 (hall.1 b (.inl (List.mem_of_getElem? (getD_some e)))),hb,e2⟩
     ·obtain⟨n,hn⟩:=(HpS.words_mem _ h rfl h0).1 hw
      rcases S.T.node n with ⟨b,hb,e1,e2⟩ | ⟨_,e2⟩
      ·rw[hn] at e2
       have h11:(M.node n).2=0:=by rw[e1]
       obtain⟨b',_,h12,_,_,h13⟩:=S.W.node (show ¬ (M.node n).2≠0 by omega)
       rw[e1] at h12;cases h12
       exact⟨b,Md.mem_R.2 (hall.1 b (.inr (List.mem_of_getElem? h13))),hb,Option.some.inj e2⟩
      ·rw[hn] at e2;cases e2
   | @name k i hk h1 h2 h3 ih=>
     obtain⟨b,hb,hbD,rfl⟩:=ih
     rw[(S.G.hd b hbD).2] at h2
     have h4:=S.G.nm b hbD i.toNat (by omega)
     rw[show((i.toNat:Nat):Int)=i by omega] at h4
     obtain⟨b',hb',e,e2⟩:=h4.some_ hz h3
     exact⟨b',Md.mem_R.2 (hall.2 b (Md.mem_R.1 hb) b' (List.mem_of_getElem? (getD_some e))),hb',e2⟩
  exact key.imp fun b h=>⟨h.1,h.2.2⟩
 ·rintro⟨b,hb,rfl⟩
  have key:=MdW.reach_sound (M:=M) (fun b=>b∈D∧Rch s.load ((fu c s.load a u).rts++h.words) (f b)) (fun b hb=> ?_) (fun b ⟨hb,hr⟩ b' hb'=> ?_) (Md.mem_R.1 hb)
  ·exact key.2
  ·rcases hb with hb | hb
   ·obtain⟨i,hi,e⟩:=List.getElem_of_mem hb
    have hrl:=S.W.rl
    rw[S.cc] at hrl
    have h1:=S.G.rt i (by omega)
    rw[List.getD_eq_getElem?_getD,List.getElem?_eq_getElem hi,e] at h1
    refine⟨h1.1,?_⟩
    rw[←h1.2]
    refine .word (List.mem_append_left _ (List.mem_map.2 ⟨i,List.mem_range.2 (by omega),rfl⟩)) (by rw[h1.2];exact hz b h1.1)
   ·have hbD:=S.T.inD b hb
    obtain⟨i,hi,e⟩:=List.getElem_of_mem hb
    have h1:=S.T.get i
    rw[List.getD_eq_getElem?_getD,List.getElem?_eq_getElem hi,e] at h1
    exact⟨hbD,.word (List.mem_append_right _ ((HpS.words_mem _ h aa (hz b hbD)).2 ⟨_,h1⟩)) (hz b hbD)⟩
  ·obtain⟨i,hi,e⟩:=List.getElem_of_mem hb'
   have hnl:=(S.W.gw b (S.di b hb)).nl
   have h1:=S.G.nm b hb i (by omega)
   rw[List.getD_eq_getElem?_getD,List.getElem?_eq_getElem hi,e] at h1
   refine⟨h1.1,?_⟩
   rw[←h1.2]
   exact .name hr (by omega) (by rw[(S.G.hd b hb).2];omega) (by rw[h1.2];exact hz b' h1.1)
theorem SB.R_D(S:SB c h s M D f a u L K):∀ b∈M.R,b∈D:=fun b hb=>by
 refine MdW.reach_sound (M:=M) (fun b=>b∈D) (fun b hb=> ?_) (fun b hb b' hb'=> ?_) (Md.mem_R.1 hb)
 ·rcases hb with hb | hb
  ·obtain⟨i,hi,e⟩:=List.getElem_of_mem hb
   have hrl:=S.W.rl
   rw[S.cc] at hrl
   have h1:=S.G.rt i (by omega)
   rw[List.getD_eq_getElem?_getD,List.getElem?_eq_getElem hi,e] at h1
   exact h1.1
  ·exact S.T.inD b hb
 ·obtain⟨i,hi,e⟩:=List.getElem_of_mem hb'
  have hnl:=(S.W.gw b (S.di b hb)).nl
  have h1:=S.G.nm b hb i (by omega)
  rw[List.getD_eq_getElem?_getD,List.getElem?_eq_getElem hi,e] at h1
  exact h1.1
theorem Bb:∀ (l:List (Option Nat)),(l.filter (·.isSome)).length=((List.range l.length).filter fun i=>(l.getD i none).isSome).length:=by
 intro l
 suffices h:∀ n,n≤l.length→((l.take n).filter (·.isSome)).length=((List.range n).filter fun i=>(l.getD i none).isSome).length by
  have:=h l.length (Nat.le_refl _);rwa [List.take_length] at this
 intro n
 induction n with
 | zero=>intro _;rfl
 | succ n ih=>
   intro hn
   rw[List.take_succ_eq_append_getElem (by omega),List.range_succ,List.filter_append,List.filter_append,List.length_append,List.length_append,ih (by omega)]
   congr 1
   simp only[List.filter_cons,List.filter_nil,List.getD_eq_getElem?_getD,List.getElem?_eq_getElem (show n<l.length by omega),Option.getD_some]
   split<;>rfl
theorem TR.live{T:cX}(t:TR T M.hs D f):(T.at_.length:Int)=M.live:=by
 have e:T.at_.length=(((List.range M.hs.length).filter fun i=>(M.hs.getD i none).isSome).map fun i:Nat=>(i:Int)+1).length:=by
  have hn2:(((List.range M.hs.length).filter fun i=>(M.hs.getD i none).isSome).map fun i:Nat=>(i:Int)+1).Nodup:=by
   exact List.Pairwise.map (R:=fun a b:Nat=>a≠b) _ (fun a b (h:a≠b) (e:(a:Int)+1=b+1)=>h (by omega)) (List.Pairwise.filter _ List.nodup_range)
  have hmem:∀ n:Int,n∈T.at_.map Prod.fst↔n∈((List.range M.hs.length).filter fun i=>(M.hs.getD i none).isSome).map fun i:Nat=>(i:Int)+1:=fun n=>by
   constructor
   ·intro h
    cases hm:bi T.at_ n with
    | none=>exact absurd h (i0 hm)
    | some p=>
      have h1:=t.w.fwd n p hm
      have h2:=t.last
      have h3:=t.get (n - 1).toNat
      rw[show(((n - 1).toNat:Nat):Int)+1=n by omega,hm] at h3
      refine List.mem_map.2 ⟨(n - 1).toNat,List.mem_filter.2 ⟨List.mem_range.2 (by omega),?_⟩,by omega⟩
      cases hg:M.hs.getD (n - 1).toNat none with
      | none=>rw[hg] at h3;cases h3
      | some b=>rfl
   ·intro h
    obtain⟨i,hi,rfl⟩:=List.mem_map.1 h
    obtain⟨h1,h2⟩:=List.mem_filter.1 hi
    have h3:=t.get i
    cases hg:M.hs.getD i none with
    | none=>rw[hg] at h2;cases h2
    | some b=>rw[hg] at h3;exact List.mem_map.2 ⟨_,jJ h3,rfl⟩
  have h1:=gA t.w.n1 fun x hx=>(hmem x).1 hx
  have h2:=gA hn2 fun x hx=>(hmem x).2 hx
  simp only[List.length_map] at h1 h2 ⊢
  omega
 unfold Md.live
 rw[Bb,e,List.length_map]
end
structure MX(c:Cfg)(s:Dev)(M:Md)(D:List Nat)(f:Nat→Int)(a u:Int)(L:List Int)(X:bE)(m0:Int→Int)(ws:List Int)(W V:List (Int×Int))(R:List Nat):Prop where
 gc:GcH c (fu c m0 a u) m0 L (c.frm (1 - a)) (c.frm (1 - a)+c.space)
 si:SI c (fu c m0 a u) m0 L (c.frm (1 - a)) ws X s
 wv:X.went=W++V
 of:eW m0 (c.frm (1 - a)) W X.scan
 rw:∀ w∈(fu c m0 a u).rts,w∈ws
 wl:∀ w∈ws,w=0∨w∈L
 ag:∀ j,j<c.frm (1 - a)∨c.frm (1 - a)+c.space≤j→m0 j=s.load j
 rn:R.Nodup
 rd:∀ b∈R,b∈D
 rr:∀ k,Rch m0 ws k↔∃ b∈R,k=f b
 hr:∀ b,some b∈M.hs→b∈R
 lf:M.left=X.todo.length+(R.length - W.length)+1
 th:M.thn=szR M.g R
def XR(c:Cfg)(s:Dev)(M:Md)(D:List Nat)(f:Nat→Int)(a u:Int)(L:List Int):Option bE→Prop
 | none=>M.left= -1
 | some X=>∃ m0 ws W V R,MX c s M D f a u L X m0 ws W V R
structure eQ(c:Cfg)(N bd:Nat)(h:HpS)(s:Dev)(M:Md)(D:List Nat)(f:Nat→Int)(a u:Int)(L:List Int)(K:Nat):Prop extends SB c h s M D f a u L K where
 H:HC False c N bd h s a u L
 us:M.used=u
 mo:M.o=false
 se:M.seen=[]
 x:XR c s M D f a u L h.X
theorem HC.noX{kp:Prop}{c:Cfg}{N bd:Nat}{h:HpS}{s:Dev}{a u:Int}{L:List Int}(H:HC kp c N bd h s a u L):HC kp c N bd {h with X:=none} s a u L:=
 ⟨H.hbd,H.hcc,H.ho,H.sk,H.hm,H.rc,⟨H.hw.c,H.hw.k,H.hw.sw,H.hw.u,H.hw.t1,H.hw.tl,H.hw.tp,fun X hX=>(by cases hX)⟩,H.hkp⟩
theorem tQ(g:Nat→Nd)(f:Nat→Int)(m:Int→Int):∀ R:List Nat,(∀ b∈R,osz m (f b)=(g b).wd+1)→iz (osz m) (R.map f)=szR g R
 | [],_=>rfl
 | b::R,h=>by
   have:=tQ g f m R fun b' hb=>h b' (List.mem_cons_of_mem _ hb)
   unfold iz szR at*
   simp only[List.map_cons,List.sum_cons,List.map_map] at*
   rw[h b (List.mem_cons_self ..),this]
section
variable {c:Cfg} {N bd:Nat} {h:HpS} {s:Dev} {M:Md} {D:List Nat} {f:Nat→Int} {a u:Int} {L:List Int} {K:Nat} {m0:Int→Int} {ws:List Int} {X:bE} {R:List Nat}
theorem GR.moved(G:GR c m0 L M.g M.roots D f)(gc:GcH c (fu c m0 a u) m0 L (c.frm (1 - a)) (c.frm (1 - a)+c.space))(hD:DI c (fu c m0 a u) m0 L (c.frm (1 - a)) ws X s)(hrw:∀ w∈(fu c m0 a u).rts,w∈ws)(hRD:∀ b∈R,b∈D)(hRR:∀ k,Rch m0 ws k↔∃ b∈R,k=f b)
 {m':Int→Int} (hm:∀ j,c.frm 0≤j→m' j=s.load j) (hrt:∀ i:Nat,(i:Int)<c.roots→m' (c.root i)=tr X.went (m0 (c.root i))):GR c m' (X.went.map Prod.snd) M.g M.roots R (fun b=>tr X.went (f b)):=by
 have hlo:=gc.lo0
 have hk:∀ b∈R,f b∈X.went.map Prod.fst:=fun b hb=>hD.keys.2 ((hRR _).2 ⟨b,hb,rfl⟩)
 have hq:∀ b∈R,(f b,tr X.went (f b))∈X.went:=fun b hb=>(hD.trm (hk b hb)).2
 have hge:∀ b∈R,c.frm 0≤tr X.went (f b):=fun b hb=>by have:=(hD.ci.offs.mem (hq b hb)).1;simp only at this;omega
 have hz0:tr X.went 0=0:=mF (hD.ci.zero gc)
 have hfz:∀ b∈D,f b≠0:=fun b hb e=>gc.zero (e▸G.inL b hb)
 have hhd:∀ b∈R,m' (tr X.went (f b))=m0 (f b):=fun b hb=>by rw[hm _ (hge b hb)];exact(hD.head (hq b hb)).2.2
 have hR:∀ b∈D,(∃ b'∈R,f b=f b')→b∈R:=fun b hb ⟨b',h1,h2⟩=>(G.inj b hb b' (hRD b' h1) h2)▸h1
 have hfl:∀ b∈R,∀ i:Nat,(i:Int)<(M.g b).wd→m' (tr X.went (f b)+1+i)=if (i:Int)<(M.g b).rf then tr X.went (m0 (f b+1+i)) else m0 (f b+1+i):=fun b hb i hi=>by
  have h1:=G.hd b (hRD b hb)
  have h2:=hge b hb
  rw[hm _ (by omega), ←h1.2]
  exact hD.fld (hq b hb) (by omega) (by simp only;omega)
 refine⟨fun b hb=>(hD.trm (hk b hb)).1,fun x hx y hy e=> ?_,fun b hb=> ?_,fun b hb i hi=> ?_,fun b hb i h1 h2=> ?_,fun i hi=> ?_⟩
 ·have h1:=hD.ci.offs.inj (hq x hx) (hq y hy) e
  exact G.inj x (hRD x hx) y (hRD y hy) (congrArg Prod.fst h1)
 ·have h1:=G.hd b (hRD b hb)
  unfold osz orf at h1 ⊢
  rw[hhd b hb];exact h1
 ·have hr:=(G.hd b (hRD b hb))
  have hz:=cu m0 (f b)
  rw[hfl b hb i (by omega),if_pos hi]
  have h1:=G.nm b (hRD b hb) i hi
  cases hx:(M.g b).names.getD i none with
  | none=>rw[hx] at h1;rw[show m0 (f b+1+i)=0 from h1];exact hz0
  | some b'=>
    rw[hx] at h1
    refine⟨hR b' h1.1 ((hRR _).1 ?_),by rw[h1.2]⟩
    have h3:m0 (f b+1+(i:Int))≠0:=by rw[h1.2];exact hfz b' h1.1
    have h2:=Rch.name (m:=m0) (ws:=ws) (k:=f b) (i:=(i:Int)) ((hRR _).2 ⟨b,hb,rfl⟩) (by omega) (by omega) h3
    rw[h1.2] at h2;exact h2
 ·rw[hfl b hb i h2,if_neg (by omega)]
  exact G.nu b (hRD b hb) i h1 h2
 ·rw[hrt i hi]
  have h1:=G.rt i hi
  cases hx:M.roots.getD i none with
  | none=>rw[hx] at h1;rw[show m0 (c.root i)=0 from h1];exact hz0
  | some b'=>
    rw[hx] at h1
    refine⟨hR b' h1.1 ((hRR _).1 ?_),by rw[h1.2]⟩
    rw[←h1.2]
    exact .word (hrw _ (List.mem_map.2 ⟨i,List.mem_range.2 (by omega),rfl⟩)) (by rw[h1.2];exact hfz b' h1.1)
theorem GR.agree(hc:bC c){m m':Int→Int}(G:GR c m L M.g M.roots D f)(hm:HM c m a u L)(e:∀ j,j<c.frm (1 - a)∨c.frm (1 - a)+c.space≤j→m' j=m j):GR c m' L M.g M.roots D f:=by
 have hf:=jq hc hm.a01
 have hf2:=jq hc (a:=1 - a) (by have:=hm.a01;omega)
 have hu:=hm.u0
 have hr:=hc.r1
 have hap:c.frm a+c.space≤c.frm (1 - a)∨c.frm (1 - a)+c.space≤c.frm a:=by
  have h1:=dU (n:=c.space) (by have:=hc.s1;omega)
  rcases (by have:=hm.a01;omega:a=0∨a=1) with rfl | rfl<;>(simp only[Cfg.frm];omega)
 have hb:∀ b∈D,∀ i:Int,0≤i→i<(M.g b).wd+1→m' (f b+i)=m (f b+i):=fun b hb i h0 h1=>by
  have h2:=hm.tile.mem (G.inL b hb)
  have h3:=(G.hd b hb).1
  exact e _ (by omega)
 have h0:∀ b∈D,m' (f b)=m (f b):=fun b hx=>by
  have h3:=(G.hd b hx).1
  have h4:=cu m (f b)
  have:=hb b hx 0 (Int.le_refl 0) (by omega);simpa using this
 refine⟨G.inL,G.inj,fun b hx=> ?_,fun b hx i hi=> ?_,fun b hx i h1 h2=> ?_,fun i hi=> ?_⟩
 ·have:=G.hd b hx;unfold osz orf at this ⊢;rw[h0 b hx];exact this
 ·have h3:=G.hd b hx;have h4:=cu m (f b)
  have:=hb b hx (1+i) (by omega) (by omega)
  rw[←Int.add_assoc] at this;rw[this];exact G.nm b hx i hi
 ·have:=hb b hx (1+i) (by omega) (by omega)
  rw[←Int.add_assoc] at this;rw[this];exact G.nu b hx i h1 h2
 ·rw[e _ (by simp only[Cfg.root];omega)];exact G.rt i hi
theorem yN(S:SB c h s M D f a u L K)(H:HC False c N bd h s a u L)(hse:M.seen=[])(hmo:M.o=false)(G0:GR c m0 L M.g M.roots D f)(gc:GcH c (fu c m0 a u) m0 L (c.frm (1 - a)) (c.frm (1 - a)+c.space))(hD:DI c (fu c m0 a u) m0 L (c.frm (1 - a)) ws X s)(hXW:ev X)(hrw:∀ w∈(fu c m0 a u).rts,w∈ws)(hRn:R.Nodup)(hRD:∀ b∈R,b∈D)(hRR:∀ k,Rch m0 ws k↔∃ b∈R,k=f b)(hhR:∀ b,some b∈M.hs→b∈R):
 (∀ s',¬ fZ h.c X.block h.S s= .off s')∧∀ x h' s',h.finR X s x h' s'→x=0∧h'.X=none∧∃ f' a' u' L',eQ c N bd h' s' {M with left:= -1,used:=szR M.g R} R f' a' u' L' K∧(∀ b∈R,f' b=tr X.went (f b))∧s'.block c=(X.block,0)∧L'=X.went.map Prod.snd∧∀ j,c.frm 0≤j→s'.load j=s.load j:=by
 have hfz:∀ b∈D,f b≠0:=fun b hb e=>gc.zero (e▸G0.inL b hb)
 have hkey:∀ n p,bi h.T.at_ n=some p→p∈X.went.map Prod.fst:=fun n p hp=>by
  rcases S.T.node n with ⟨b,hb,e1,e2⟩ | ⟨_,e2⟩
  ·rw[hp] at e2;cases e2
   have h11:(M.node n).2=0:=by rw[e1]
   obtain⟨b',_,h12,_,_,h13⟩:=S.W.node (show ¬ (M.node n).2≠0 by omega)
   rw[e1] at h12;cases h12
   exact hD.keys.2 ((hRR _).2 ⟨b,hhR b (List.mem_of_getElem? h13),rfl⟩)
  ·rw[hp] at e2;cases e2
 have hf:=H.fin S.hc gc hD hXW S.T.w hkey hrw
 refine⟨hf.1,fun x h' s' e=> ?_⟩
 obtain⟨rfl,g1,g2,g3,g4,g5,g6,g7⟩:=hf.2 x h' s' e
 have hbl:=hD.block gc
 have hus:=hD.used gc
 have hsz:X.block.used=szR M.g R:=by
  rw[hus.1, ←tQ M.g f m0 R fun b hb=>(G0.hd b (hRD b hb)).1]
  refine sG (fun x=>by have:=cu m0 x;omega) hD.ci.nd ?_ fun x=> ?_
  ·exact List.pairwise_map.2 (hRn.imp_of_mem fun {p q} hp hq (hne:p≠q) e=>hne (G0.inj p (hRD p hp) q (hRD q hq) e))
  ·rw[hD.keys,hRR,List.mem_map]
   exact⟨fun ⟨b,h1,h2⟩=>⟨b,h1,h2.symm⟩,fun ⟨b,h1,h2⟩=>⟨b,h1,h2.symm⟩⟩
 have hrt:∀ i:Nat,(i:Int)<c.roots→s'.load (c.root i)=tr X.went (m0 (c.root i)):=fun i hi=>by
  have h1:(s'.block c).1.rts=X.block.rts:=by rw[g6]
  rw[g1.hm.block,hbl] at h1
  have h2:=congrArg (fun l:List Int=>l.getD i 0) h1
  have e1:∀ F:Nat→Int,(tab c.roots.toNat F).getD i 0=F i:=fun F=>by
   have e:tab c.roots.toNat F=(List.range c.roots.toNat).map F:=rfl
   rw[e,List.getD_eq_getElem?_getD];simp[show i<c.roots.toNat by omega]
  have e2:∀ F:Nat→Int,((tab c.roots.toNat F).map (tr X.went)).getD i 0=tr X.went (F i):=fun F=>by
   have e:tab c.roots.toNat F=(List.range c.roots.toNat).map F:=rfl
   rw[e,List.getD_eq_getElem?_getD];simp[show i<c.roots.toNat by omega]
  simp only at h2
  rw[e1,e2] at h2
  exact h2
 have hG:=G0.moved gc hD hrw hRD hRR g7 hrt
 have hu1:=S.hm.u0
 have hsc:=S.hc.s2
 have hub:0≤szR M.g R∧szR M.g R≤100000000:=by
  have h3:X.block.used≤u:=hus.2.2
  rw[←hsz];exact⟨hus.2.1,by omega⟩
 have hT:TR h'.T M.hs R (fun b=>tr X.went (f b)):=⟨g3,g4.trans S.T.last,fun n=>by
  rw[g5,S.T.get]
  cases M.hs.getD n none<;>rfl,hhR⟩
 refine⟨rfl,g2,_,_,_,_,⟨⟨S.hc,g1.hm,g1.hcc,g1.hw,hG,hT,{S.W with us:=hub,lf:=(show(-1:Int)≤ -1∧(-1:Int)≤10000000 by decide),uw:=fun u hu=>(S.W.uw u hu).congr (fun _ e=>e) aa fun _ _=>⟨rfl,rfl⟩},S.cc,fun b hb=>S.di b (hRD b hb)⟩,g1,hsz.symm,hmo,hse,by rw[g2];rfl⟩,fun _ _=>rfl,g6,rfl,g7⟩
theorem eQ.collect(S:eQ c N bd h s M D f a u L K):(∀ s',¬ h.colOff s s')∧∀ x h' s',h.colR s x h' s'→x=M.collect.1∧h'.X=none∧∃ D' f' a' u' L',eQ c N bd h' s' M.collect.2 D' f' a' u' L' K:=by
 have hc:=S.hc
 have gc:=S.H.gc hc
 have hap:=gc.apart
 have hN:=S.H.sk.hN
 have hz:∀ b∈D,f b≠0:=fun b hb=>by have:=S.toSB.fb hb;omega
 have hwl:∀ w∈(fu c s.load a u).rts++h.words,w=0∨w∈L:=fun w hw=>by
  by_cases h0:w=0
  ·exact .inl h0
  ·obtain⟨b,hb,rfl⟩:=(S.toSB.reach w).1 (.word hw h0)
   exact .inr (S.G.inL b (S.toSB.R_D b hb))
 have hcol:dR h.bd h.c (h.blk s) ((h.blk s).rts++h.words)=dR bd c (fu c s.load a u) ((fu c s.load a u).rts++h.words):=by rw[S.H.blk,S.H.hbd,S.H.hcc]
 have hW:ev (dR bd c (fu c s.load a u) ((fu c s.load a u).rts++h.words)):=by
  have:=S.H.hw.ncol
  unfold HpS.ncol at this
  rw[hcol] at this;exact this
 have hrun:=SI.run gc (yz (N:=N) (s0:=s) hap.2.1 (by omega)) (fun s h=>h.u) hwl _ _ s (Ay (bd:=bd) gc rfl _) ⟨S.H.sk.u,S.H.sk.still.lim,S.H.sk.n,fun _ _=>rfl⟩ hW (Nat.lt_succ_self _)
 obtain⟨X,s1,e1,hJ,hD,_⟩:=hrun.lim fun s h=>h.lim
 have hXW:=(om _ _ _ _ _ hW S.H.sk.u e1).1
 have hq:=AD _ _ _ _ _ S.H.sk.still.q e1
 have H1:HC False c N bd h s1 a u L:=S.H.mid (X:=h.X) hc hJ hq fun Y hY=>by
  obtain⟨k1,k2,k3,k4⟩:=S.H.hw.x Y hY
  exact⟨k1,k2.trans S.H.hbd,k3.trans S.H.hcc,k4⟩
 have S1:SB c h s1 M D f a u L K:=⟨hc,H1.hm,H1.hcc,H1.hw,?_,S.T,S.W,S.cc,S.di⟩
 ·have hf:=yN (R:=M.R) S1 H1 S.se S.mo S.G gc hD hXW (fun w hw=>List.mem_append_left _ hw) S.W.R_nd S.toSB.R_D S.toSB.reach fun b hb=>Md.mem_R.2 (S.W.reach_all.1 b (.inr hb))
  have hmc:M.collect=(0,{M with left:= -1,used:=szR M.g M.R}):=by unfold Md.collect;rw[if_neg (by rw[S.mo];decide),S.W.R_size]
  rw[hmc]
  constructor
  ·rintro s9 ⟨_,h9 | ⟨X9,t9,h9,h10⟩⟩
   ·rw[hcol] at h9;rw[show bE.run _ s= .ok X s1 from e1] at h9;cases h9
   ·rw[hcol] at h9;rw[show bE.run _ s= .ok X s1 from e1] at h9;cases h9
    exact hf.1 _ h10
  ·rintro x h' s9 (⟨h9,_⟩ | ⟨_,X9,t9,h9,h10⟩)
   ·rw[S.H.ho] at h9;cases h9
   rw[hcol] at h9;rw[show bE.run _ s= .ok X s1 from e1] at h9;cases h9
   obtain⟨k1,k2,f',a',u',L',k3,_⟩:=hf.2 x h' s9 h10
   exact⟨k1,k2,_,_,_,_,_,k3⟩
 ·have hm0:∀ j,j<c.frm (1 - a)∨c.frm (1 - a)+c.space≤j→s1.load j=s.load j:=fun j hj=>hJ.load S.H.sk.n hj
  exact S.G.agree hc S.hm hm0
end
section
variable {c:Cfg} {N bd:Nat} {h:HpS} {s:Dev} {M:Md} {D:List Nat} {f:Nat→Int} {a u:Int} {L:List Int} {K:Nat} {m0:Int→Int} {ws:List Int} {X:bE} {R:List Nat} {W V:List (Int×Int)} {b:Blk} {lo hi:Int}
theorem mI(si:SI c b m0 L lo ws X s)(wv:X.went=W++V)(rr:∀ k,Rch m0 ws k↔∃ b∈R,k=f b):W.length≤R.length:=by
 have h1:=si.ci.nd
 rw[wv,List.map_append,List.nodup_append] at h1
 have h2:=gA (l:=R.map f) h1.1 fun k hk=>by
  obtain⟨q,hq,rfl⟩:=List.mem_map.1 hk
  obtain⟨b,hb,e⟩:=(rr _).1 (si.ci.rc q (by rw[wv];exact List.mem_append_left _ hq))
  exact List.mem_map.2 ⟨b,hb,e.symm⟩
 simpa using h2
theorem sH(gc:GcH c b m0 L lo hi){s0:Dev}(h1:hi≤N)(wl:∀ w∈ws,w=0∨w∈L)(rn:R.Nodup)(inj:∀ x∈R,∀ y∈R,f x=f y→x=y)(rr:∀ k,Rch m0 ws k↔∃ b∈R,k=f b):∀ (n:Nat) (X:bE) (s:Dev) (W V:List (Int×Int)),SI c b m0 L lo ws X s→X.went=W++V→eW m0 lo W X.scan→JM N s0 lo hi s→(s.q=fun _=>none)→ev X→
 ∃ d X' s',gi n X s= .ok (d,X') s'∧JM N s0 lo hi s'∧(s'.q=fun _=>none)∧ev X'∧X'.b=X.b∧X'.bd=X.bd∧X'.c=X.c∧
  ((d=false∧∃ W' V',SI c b m0 L lo ws X' s'∧X'.went=W'++V'∧eW m0 lo W' X'.scan∧(X'.todo.length:Int)+(R.length - W'.length)+n=X.todo.length+(R.length - W.length))∨(d=true∧DI c b m0 L lo ws X' s'∧(X.todo.length:Int)+(R.length - W.length)+1≤n))
 | 0,X,s,W,V,si,wv,of,hJ,hq,hX=>⟨false,X,s,rfl,hJ,hq,hX,rfl,rfl,rfl,.inl ⟨rfl,W,V,si,wv,of,by simp⟩⟩
 | n+1,X,s,W,V,si,wv,of,hJ,hq,hX=>by
   obtain⟨r,s1,e1,k1,k2⟩:=(si.step gc (yz (N:=N) (s0:=s0) gc.apart.2.1 h1) hJ wl wv of).lim fun s h=>h.lim
   obtain⟨g1,g2,g3,g4,g5,_⟩:=lI hX hJ.u e1
   have hq1:=Aw hq e1
   by_cases hr:r.1=true
   ·rw[if_pos hr] at k2
    obtain⟨k3,k4,k5,k6,k7⟩:=k2
    refine⟨true,r.2,s1,kd e1 hr,k1,hq1,g1,g3,g4,g5,.inr ⟨rfl,k3,?_⟩⟩
    have h3:R.length≤W.length:=by
     have h4:=gA (d:=R.map f) (l:=r.2.went.map Prod.fst) (List.pairwise_map.2 (rn.imp_of_mem fun {p q} hp hq (hne:p≠q) e=>hne (inj p hp q hq e))) fun k hk=>by
      obtain⟨b,hb,rfl⟩:=List.mem_map.1 hk
      exact k3.keys.2 ((rr _).2 ⟨b,hb,rfl⟩)
     rw[k5,wv,k7] at h4
     simpa using h4
    rw[k6];simp only[List.length_nil];omega
   ·rw[if_neg hr] at k2
    obtain⟨k3,W',V',k4,k5,k6⟩:=k2
    obtain⟨d,X',s',e2,j1,j2,j3,j4,j5,j6,j7⟩:=sH gc h1 wl rn inj rr n r.2 s1 W' V' k3 k4 k5 k1 hq1 g1
    refine⟨d,X',s',by rw[oe e1 hr,e2],j1,j2,j3,j4.trans g3,j5.trans g4,j6.trans g5,?_⟩
    rcases j7 with ⟨rfl,W2,V2,j7,j8,j9,j10⟩ | ⟨rfl,j7,j8⟩
    ·exact .inl ⟨rfl,W2,V2,j7,j8,j9,by omega⟩
    ·exact .inr ⟨rfl,j7,by omega⟩
theorem wI(M:Md):M.step0={M with left:=M.step0.left,thn:=M.step0.thn}:=by unfold Md.step0;split<;>rfl
theorem eQ.start(S:eQ c N bd h s M D f a u L K):∃ m0 ws W V R,MX c s M.step0 D f a u L (h.x0 s) m0 ws W V R∧ev (h.x0 s)∧(h.x0 s).bd=bd∧(h.x0 s).c=c∧0<(h.x0 s).b.rts.length∧MdW M.step0 K:=by
 have hc:=S.hc
 have hr1:=hc.r1;have hr2:=hc.r2
 unfold HpS.x0
 cases hX:h.X with
 | some X=>
   have hx:=S.x
   rw[hX] at hx
   obtain⟨m0,ws,W,V,R,x⟩:=hx
   have hle:=mI x.si x.wv x.rr
   have hlf:=x.lf
   have e:M.step0=M:=by unfold Md.step0;rw[if_neg (by omega)]
   obtain⟨k1,k2,k3,k4⟩:=S.H.hw.x X hX
   rw[e]
   exact⟨m0,ws,W,V,R,x,k1,k2.trans S.H.hbd,k3.trans S.H.hcc,k4,S.W⟩
 | none=>
   have hx:=S.x
   rw[hX] at hx
   have hl:M.left= -1:=hx
   have gc:=S.H.gc hc
   have hlive:=S.T.live
   have hlb:=M.live_b
   have hsb:=S.W.size_b
   have hrl:=S.W.R_len
   have hkl:=S.W.kl
   have hil:=S.W.il
   have hhl:=S.W.hl
   have hol:=S.W.out.len
   have e:M.step0={M with left:=M.c.roots+M.live+M.reached.length+1,thn:=M.size}:=by unfold Md.step0;rw[if_pos (by omega)]
   have hcol:h.ncol s=dR bd c (fu c s.load a u) ((fu c s.load a u).rts++h.words):=by unfold HpS.ncol;rw[S.H.blk,S.H.hbd,S.H.hcc]
   have hwl:∀ w∈(fu c s.load a u).rts++h.words,w=0∨w∈L:=fun w hw=>by
    by_cases h0:w=0
    ·exact .inl h0
    ·obtain⟨b,hb,rfl⟩:=(S.toSB.reach w).1 (.word hw h0)
     exact .inr (S.G.inL b (S.toSB.R_D b hb))
   have hwn:h.words.length=h.T.at_.length:=by unfold HpS.words cG;simp
   rw[e]
   refine⟨s.load,_,[],[],M.R,⟨gc,?_,?_,?_,fun w hw=>List.mem_append_left _ hw,hwl,fun _ _=>rfl,S.W.R_nd,S.toSB.R_D,S.toSB.reach,fun b hb=>Md.mem_R.2 (S.W.reach_all.1 b (.inr hb)),?_,S.W.R_size⟩,S.H.hw.ncol,by rw[Option.getD_none,hcol];rfl,by rw[Option.getD_none,hcol];rfl,?_,?_⟩
   ·rw[Option.getD_none,hcol];exact Ay (bd:=bd) gc aa _
   ·rw[Option.getD_none,hcol];rfl
   ·rw[Option.getD_none,hcol];rfl
   ·rw[Option.getD_none,hcol]
    show M.c.roots+M.live+(M.reached.length:Int)+1=(((tab c.roots.toNat fun i=>s.load (c.root i))++h.words).length:Int)+(M.R.length - (0:Nat))+1
    rw[List.length_append,bu,hwn,S.cc,hrl]
    omega
   ·rw[Option.getD_none,hcol]
    show 0<(tab c.roots.toNat fun i=>s.load (c.root i)).length
    rw[bu];omega
   ·have hcr:M.c.roots=c.roots:=by rw[S.cc]
    exact {S.W with lf:=(by show -1≤M.c.roots+M.live+(M.reached.length:Int)+1∧M.c.roots+M.live+(M.reached.length:Int)+1≤10000000;omega),th:=(by show 0≤M.size∧M.size≤100000000;omega),uw:=fun u hu=>(S.W.uw u hu).congr (fun _ e=>e) aa fun _ _=>⟨rfl,rfl⟩}
theorem eQ.step(S:eQ c N bd h s M D f a u L K)(n:Int):(∀ s',¬ h.stepOff s n s')∧∀ d x h' s',h.stepR s n d x h' s'→d=(M.step n).1.1∧x=(M.step n).1.2∧∃ D' f' a' u' L',eQ c N bd h' s' (M.step n).2 D' f' a' u' L' K:=by
 have hc:=S.hc
 obtain⟨m0,ws,W,V,R,x0,hXW,hXbd,hXc,hXr,hW0⟩:=S.start
 have hap:=x0.gc.apart
 have hN:=S.H.sk.hN
 have hle:=mI x0.si x0.wv x0.rr
 have hlf:=x0.lf
 have hinj:∀ x∈R,∀ y∈R,f x=f y→x=y:=fun x hx y hy e=>S.G.inj x (x0.rd x hx) y (x0.rd y hy) e
 obtain⟨d1,X1,s1,e1,j1,j2,j3,j4,j5,j6,j7⟩:=sH (N:=N) (s0:=s) x0.gc (by omega) x0.wl x0.rn hinj x0.rr n.toNat _ s W V x0.si x0.wv x0.of ⟨S.H.sk.u,S.H.sk.still.lim,S.H.sk.n,fun _ _=>rfl⟩ S.H.sk.still.q hXW
 have e0:=wI M
 have H1:HC False c N bd {h with X:=some X1} s1 a u L:=S.H.mid (X:=some X1) hc j1 j2 fun Y hY=>by cases hY;exact⟨j3,j5.trans hXbd,j6.trans hXc,by rw[j4];exact hXr⟩
 have hag:∀ j,j<c.frm (1 - a)∨c.frm (1 - a)+c.space≤j→s1.load j=s.load j:=fun j hj=>j1.load S.H.sk.n hj
 have hg0:M.step0.g=M.g∧M.step0.roots=M.roots∧M.step0.hs=M.hs∧M.step0.c=M.c∧M.step0.ids=M.ids∧M.step0.seen=M.seen∧M.step0.o=M.o∧M.step0.used=M.used:=by rw[e0];exact⟨rfl,rfl,rfl,rfl,rfl,rfl,rfl,rfl⟩
 have S1:SB c {h with X:=some X1} s1 M.step0 D f a u L K:=⟨hc,H1.hm,H1.hcc,H1.hw,by rw[hg0.1,hg0.2.1];exact S.G.agree hc S.hm hag,by rw[hg0.2.2.1];exact S.T,hW0,hg0.2.2.2.1.trans S.cc,fun b hb=>by rw[hg0.2.2.2.2.1];exact S.di b hb⟩
 have hcl:∀ z:Int,1≤z→(z - cl n z=z - n.toNat∧n.toNat<z)∨(z - cl n z=0∧z≤n.toNat):=fun z hz=>by unfold cl;split<;>(split<;>omega)
 have hz:=hcl M.step0.left (by omega)
 rcases j7 with ⟨rfl,W1,V1,g1,g2,g3,g4⟩ | ⟨rfl,g1,g2⟩
 ·have hle1:=mI g1 g2 x0.rr
  have hst:M.step n=((false,0),{M.step0 with left:=M.step0.left - cl n M.step0.left}):=by unfold Md.step;rw[if_neg (by rw[S.mo];decide),if_pos (by omega)]
  rw[hst]
  refine⟨fun s' ⟨_,h9⟩=> ?_,fun d x h' s' h9=> ?_⟩
  ·rcases h9 with h9 | ⟨Y,t,h9,_⟩<;>(rw[e1] at h9;cases h9)
  ·rcases h9 with ⟨h9,_⟩ | ⟨_,Y,t,h9,h10⟩
   ·rw[S.H.ho] at h9;cases h9
   rw[e1] at h9;cases h9
   rcases h10 with ⟨_,rfl,rfl,rfl⟩ | ⟨h10,_⟩
   ·refine⟨rfl,rfl,D,f,a,u,L,⟨⟨hc,H1.hm,H1.hcc,H1.hw,S1.G,S1.T,?_,S1.cc,S1.di⟩,H1,hg0.2.2.2.2.2.2.2.trans S.us,hg0.2.2.2.2.2.2.1.trans S.mo,hg0.2.2.2.2.2.1.trans S.se,m0,ws,W1,V1,R,⟨x0.gc,g1,g2,g3,x0.rw,x0.wl,fun j hj=>(x0.ag j hj).trans (hag j hj).symm,x0.rn,x0.rd,x0.rr,x0.hr,?_,x0.th⟩⟩⟩
    ·have hb:=hW0.lf
     exact {hW0 with lf:=(by show -1≤M.step0.left - cl n M.step0.left∧M.step0.left - cl n M.step0.left≤10000000;omega),uw:=fun u hu=>(hW0.uw u hu).congr (fun _ e=>e) aa fun _ _=>⟨rfl,rfl⟩}
    ·show M.step0.left - cl n M.step0.left=_
     omega
   ·cases h10
 ·have hst:M.step n=((true,0),{M.step0 with left:= -1,used:=M.step0.thn}):=by unfold Md.step;rw[if_neg (by rw[S.mo];decide),if_neg (by omega)]
  rw[hst]
  have hG0:GR c m0 L M.step0.g M.step0.roots D f:=by rw[hg0.1,hg0.2.1];exact S.G.agree hc S.hm fun j hj=>x0.ag j hj
  have hf:=yN (R:=R) S1 H1 (hg0.2.2.2.2.2.1.trans S.se) (hg0.2.2.2.2.2.2.1.trans S.mo) hG0 x0.gc g1 j3 x0.rw x0.rn x0.rd x0.rr x0.hr
  refine⟨fun s' ⟨_,h9⟩=> ?_,fun d x h' s' h9=> ?_⟩
  ·rcases h9 with h9 | ⟨Y,t,h9,h10⟩
   ·rw[e1] at h9;cases h9
   ·rw[e1] at h9;cases h9
    exact hf.1 _ h10
  ·rcases h9 with ⟨h9,_⟩ | ⟨_,Y,t,h9,h10⟩
   ·rw[S.H.ho] at h9;cases h9
   rw[e1] at h9;cases h9
   rcases h10 with ⟨h10,_⟩ | ⟨_,h10⟩
   ·cases h10
   ·obtain⟨k1,k2,f',a',u',L',k3,_⟩:=hf.2 x h' s' h10
    refine⟨rfl,k1,R,f',a',u',L',?_⟩
    rw[x0.th];exact k3
end
def InB(c:Cfg)(a u j:Int):Prop:=c.active≤j∧(j<c.active+2+c.roots∨(c.frm a≤j∧j<c.frm a+u))
section
variable {c:Cfg} {a u:Int} {L:List Int} {g:Nat→Nd} {rts:List (Option Nat)} {D:List Nat} {f:Nat→Int} {m m':Int→Int}
theorem HM.cong(hc:bC c)(h:HM c m a u L)(e:∀ j,InB c a u j→m' j=m j):HM c m' a u L:=by
 have hf:=jq hc h.a01
 have hu:=h.u0
 have hr:=hc.r1
 have e1:∀ j,c.frm a≤j→j<c.frm a+u→m' j=m j:=fun j h1 h2=>e j ⟨by omega,.inr ⟨h1,h2⟩⟩
 have e0:∀ k∈L,m' k=m k:=fun k hk=>by have:=h.tile.mem hk;have:=cu m k;exact e1 k (by omega) (by omega)
 have eo:∀ k∈L,orf m' k=orf m k:=fun k hk=>by unfold orf;rw[e0 k hk]
 refine⟨by rw[e _ ⟨Int.le_refl _,.inl (by omega)⟩];exact h.act,h.a01,by rw[e _ ⟨by omega,.inl (by omega)⟩];exact h.used,h.u0,h.tile.congr e0,fun k hk i h1 h2=> ?_,fun i hi=> ?_⟩
 ·have:=h.tile.mem hk
  rw[eo k hk] at h2
  have:=cu m k
  rw[e1 _ (by omega) (by omega)];exact h.names k hk i h1 h2
 ·rw[e _ ⟨by simp only[Cfg.root];omega,.inl (by simp only[Cfg.root];omega)⟩];exact h.roots i hi
theorem GR.cong(hc:bC c)(G:GR c m L g rts D f)(hm:HM c m a u L)(e:∀ j,c.active+2≤j→InB c a u j→m' j=m j):GR c m' L g rts D f:=by
 have hf:=jq hc hm.a01
 have hr:=hc.r1
 have hb:∀ b∈D,∀ i:Int,0≤i→i<(g b).wd+1→m' (f b+i)=m (f b+i):=fun b hb i h0 h1=>by
  have h2:=hm.tile.mem (G.inL b hb)
  have h3:=(G.hd b hb).1
  exact e _ (by omega) ⟨by omega,.inr (by omega)⟩
 have h0:∀ b∈D,m' (f b)=m (f b):=fun b hx=>by
  have h3:=(G.hd b hx).1
  have h4:=cu m (f b)
  have:=hb b hx 0 (Int.le_refl 0) (by omega);simpa using this
 refine⟨G.inL,G.inj,fun b hx=> ?_,fun b hx i hi=> ?_,fun b hx i h1 h2=> ?_,fun i hi=> ?_⟩
 ·have:=G.hd b hx;unfold osz orf at this ⊢;rw[h0 b hx];exact this
 ·have h3:=G.hd b hx;have h4:=cu m (f b)
  have:=hb b hx (1+i) (by omega) (by omega)
  rw[←Int.add_assoc] at this;rw[this];exact G.nm b hx i hi
 ·have:=hb b hx (1+i) (by omega) (by omega)
  rw[←Int.add_assoc] at this;rw[this];exact G.nu b hx i h1 h2
 ·rw[e _ (by simp only[Cfg.root];omega) ⟨by simp only[Cfg.root];omega,.inl (by simp only[Cfg.root];omega)⟩];exact G.rt i hi
end
def kw(c:Cfg)(f:Nat→Int)(k:Option Nat×Int):Int:=match k.1 with
 | none=>c.root k.2
 | some b=>f b+1+k.2
def jz(c:Cfg)(g:Nat→Nd)(D:List Nat)(k:Option Nat×Int):Prop:=match k.1 with
 | none=> -1≤k.2∧k.2<c.roots
 | some b=>b∈D∧0≤k.2∧k.2<(g b).wd
structure et(c:Cfg)(N bd:Nat)(h:HpS)(s:Dev)(M:Md)(D:List Nat)(f:Nat→Int)(a u:Int)(L:List Int)(K:Nat)(old:Nat→Int)(js:List Nat)(u0:Int)(m0:Int→Int)(L0:List Int)(D0:List Nat):Prop extends SB c h s M D f a u L K where
 H:HO False c N bd old js h s a u u0 L
 hx:h.X=none
 us:M.used=u
 mo:M.o=true
 lf:M.left= -1
 jl:js.length=M.seen.length
 jm:∀ x:Nat,x∈js↔∃ k∈M.seen,(x:Int)=kw c f k
 sw:∀ k∈M.seen,jz c M.g D k
 fr:∀ b∈D,some b∈M.fresh↔c.frm a+u0≤f b
 sp:∀ k∈L,k+osz s.load k≤c.frm a+u0∨c.frm a+u0≤k
 ol:∀ x:Nat,c.active≤x→x<N→old x=m0 x
 hm0:HM c m0 a u0 L0
 d0:∀ b,b∈D0↔b∈D∧f b<c.frm a+u0
 G0:GR c m0 L0 (M.back 0).g (M.back 0).roots D0 f
 b0:(M.back 0).used=u0
def Sim(c:Cfg)(N bd:Nat)(h:HpS)(s:Dev)(M:Md)(K:Nat):Prop:=
 (∃ D f a u L,eQ c N bd h s M D f a u L K)∨∃ D f a u L old js u0 m0 L0 D0,et c N bd h s M D f a u L K old js u0 m0 L0 D0
section
variable {c:Cfg} {N bd:Nat} {h:HpS} {s:Dev} {M:Md} {D:List Nat} {f:Nat→Int} {a u:Int} {L:List Int} {K:Nat}
theorem HC.withT{kp:Prop}(H:HC kp c N bd h s a u L){T:cX}(hw:dl {h with T:=T} s):HC kp c N bd {h with T:=T} s a u L:=⟨H.hbd,H.hcc,H.ho,H.sk,H.hm,H.rc,hw,H.hkp⟩
theorem HO.withT{kp:Prop}{old:Nat→Int}{js:List Nat}{u0:Int}(H:HO kp c N bd old js h s a u u0 L){T:cX}(hw:dl {h with T:=T} s):HO kp c N bd old js {h with T:=T} s a u u0 L:=⟨H.hbd,H.hcc,H.ho,H.ss,H.dd,H.hm,H.rc,hw,H.ff,H.ft,H.ule⟩
theorem SB.grow(S:SB c h s M D f a u L K)(hK:K+1≤1000):SB c h s M D f a u L (K+1):=⟨S.hc,S.hm,S.hcc,S.hw,S.G,S.T,S.W.mono (by omega) (by omega),S.cc,S.di⟩
theorem TR.tab(t:TR h.T M.hs D f)(hl:M.hs.length≤1000)(hf:∀ b∈D,0≤f b∧f b≤1000000):(0≤h.T.last∧h.T.last≤1000)∧h.T.at_.length≤1000∧∀ p∈h.T.at_,0≤p.2∧p.2≤1000000:=by
 have h1:=t.w.last;have h2:=t.last;have h3:=t.w.len
 refine⟨by omega,by omega,fun p hp=> ?_⟩
 have h4:=ir t.w.n1 (show(p.1,p.2)∈h.T.at_ from hp)
 rcases t.node p.1 with ⟨b,hb,_,e2⟩ | ⟨_,e2⟩
 ·rw[h4] at e2;rw[Option.some.inj e2];exact hf b hb
 ·rw[h4] at e2;cases e2
theorem SB.withT(S:SB c h s M D f a u L K)(hK:K+1≤1000){T:cX}{l:List (Option Nat)}(t:TR T l D f)(hl:l.length≤K+1):SB c {h with T:=T} s {M with hs:=l} D f a u L (K+1):=by
 have h1:=TR.tab (h:={h with T:=T}) (M:={M with hs:=l}) t (by show l.length≤_;omega) fun b hb=>by have:=S.fb hb;omega
 exact⟨S.hc,S.hm,S.hcc,⟨S.hw.c,S.hw.k,S.hw.sw,S.hw.u,⟨h1.1.1,by have:=h1.1.2;show T.last≤_;have h2:T.last≤1000:=this;omega⟩,by have h2:T.at_.length≤1000:=h1.2.1;show T.at_.length≤_;omega,h1.2.2,S.hw.x⟩,S.G,t,S.W.withHs (fun b hb=>S.di b (t.inD b hb)) hl (by omega) (by omega),S.cc,S.di⟩
theorem eQ.withT(S:eQ c N bd h s M D f a u L K)(hK:K+1≤1000){T:cX}{l:List (Option Nat)}(t:TR T l D f)(hl:l.length≤K+1)(hX:∀ X m0 ws W V R,MX c s M D f a u L X m0 ws W V R→∀ b,some b∈l→b∈R):eQ c N bd {h with T:=T} s {M with hs:=l} D f a u L (K+1):=by
 have h1:=S.toSB.withT hK t hl
 refine⟨h1,S.H.withT h1.hw,S.us,S.mo,S.se,?_⟩
 have hx:=S.x
 show XR c s _ D f a u L h.X
 cases e:h.X with
 | none=>rw[e] at hx;exact hx
 | some X=>
   rw[e] at hx
   obtain⟨m0,ws,W,V,R,x⟩:=hx
   exact⟨m0,ws,W,V,R,⟨x.gc,x.si,x.wv,x.of,x.rw,x.wl,x.ag,x.rn,x.rd,x.rr,hX X m0 ws W V R x,x.lf,x.th⟩⟩
theorem eQ.grow(S:eQ c N bd h s M D f a u L K)(hK:K+1≤1000):eQ c N bd h s M D f a u L (K+1):=⟨S.toSB.grow hK,S.H,S.us,S.mo,S.se,S.x⟩
theorem et.grow{old:Nat→Int}{js:List Nat}{u0:Int}{m0:Int→Int}{L0:List Int}{D0:List Nat}(S:et c N bd h s M D f a u L K old js u0 m0 L0 D0)(hK:K+1≤1000):et c N bd h s M D f a u L (K+1) old js u0 m0 L0 D0:=
 ⟨S.toSB.grow hK,S.H,S.hx,S.us,S.mo,S.lf,S.jl,S.jm,S.sw,S.fr,S.sp,S.ol,S.hm0,S.d0,S.G0,S.b0⟩
theorem y7(M:Md)(l:List (Option Nat)):({M with hs:=l}:Md).back 0={M.back 0 with hs:=l}:=by
 unfold Md.back
 suffices h:∀ us:List Un,us.foldr (fun u m=>u.run m) ({M with hs:=l}:Md)={us.foldr (fun u m=>u.run m) M with hs:=l} from h _
 intro us
 induction us with
 | nil=>rfl
 | cons x us ih=>rw[List.foldr_cons,List.foldr_cons,ih];cases x<;>rfl
theorem et.withT{old:Nat→Int}{js:List Nat}{u0:Int}{m0:Int→Int}{L0:List Int}{D0:List Nat}(S:et c N bd h s M D f a u L K old js u0 m0 L0 D0)(hK:K+1≤1000){T:cX}{l:List (Option Nat)}(t:TR T l D f)(hl:l.length≤K+1):et c N bd {h with T:=T} s {M with hs:=l} D f a u L (K+1) old js u0 m0 L0 D0:=by
 have h1:=S.toSB.withT hK t hl
 refine⟨h1,S.H.withT h1.hw,S.hx,S.us,S.mo,S.lf,S.jl,S.jm,S.sw,S.fr,S.sp,S.ol,S.hm0,S.d0,?_,?_⟩
 ·rw[y7];exact S.G0
 ·rw[y7];exact S.b0
theorem MX.name{X:bE}{m0:Int→Int}{ws:List Int}{W V:List (Int×Int)}{R:List Nat}(S:SB c h s M D f a u L K)(x:MX c s M D f a u L X m0 ws W V R){b:Nat}(hb:b∈R){i:Int}(hi:0≤i∧i<(M.g b).rf){b':Nat}(hb':b'∈D)(e:s.load (f b+1+i)=f b'):b'∈R:=by
 have hbD:=x.rd b hb
 have hk:=S.hm.tile.mem (S.G.inL b hbD)
 have h3:=S.G.hd b hbD
 have h4:=cu s.load (f b)
 have hu:=S.hm.u0
 have hap:=x.gc.apart
 have hr1:=S.hc.r1
 have hA:=S.hm.a01
 have hplace:=(x.gc.heap.tile.mem (S.G.inL b hbD))
 have hfb:=jq S.hc hA
 have ha2:c.frm a+c.space≤c.frm (1 - a)∨c.frm (1 - a)+c.space≤c.frm a:=by
  have hs1:=S.hc.s1
  have h1:=dU (n:=c.space) (by omega)
  rcases (by omega:a=0∨a=1) with rfl | rfl<;>(simp only[Cfg.frm];omega)
 have e0:m0 (f b)=s.load (f b):=x.ag _ (by omega)
 have e1:m0 (f b+1+i)=s.load (f b+1+i):=x.ag _ (by omega)
 have hrf:orf m0 (f b)=(M.g b).rf:=by have:=h3.2;unfold orf at this ⊢;rw[e0];exact this
 have hz:=S.fb hb'
 obtain⟨b2,h5,h6⟩:=(x.rr (f b')).1 (by
  have:=Rch.name (m:=m0) (ws:=ws) (k:=f b) (i:=i) ((x.rr _).2 ⟨b,hb,rfl⟩) hi.1 (by rw[hrf];exact hi.2) (by rw[e1,e];omega)
  rw[e1,e] at this;exact this)
 exact(S.G.inj _ hb' _ (x.rd _ h5) h6)▸h5
theorem MX.root{X:bE}{m0:Int→Int}{ws:List Int}{W V:List (Int×Int)}{R:List Nat}(S:SB c h s M D f a u L K)(x:MX c s M D f a u L X m0 ws W V R){i:Nat}(hi:(i:Int)<c.roots){b':Nat}(hb':b'∈D)(e:s.load (c.root i)=f b'):b'∈R:=by
 have hz:=S.fb hb'
 have hA:=S.hm.a01
 have hf2:=jq S.hc (a:=1 - a) (by omega)
 have hr1:=S.hc.r1
 have e1:m0 (c.root i)=s.load (c.root i):=x.ag _ (.inl (by simp only[Cfg.root];omega))
 obtain⟨b2,h5,h6⟩:=(x.rr (f b')).1 (.word (x.rw _ (List.mem_map.2 ⟨i,List.mem_range.2 (by omega),by rw[e1,e]⟩)) (by omega))
 exact(S.G.inj _ hb' _ (x.rd _ h5) h6)▸h5
theorem eQ.ref(S:eQ c N bd h s M D f a u L K)(hK:K+1≤1000)(n i:Int):(h.ref s n i).1=(M.ref n i).1∧eQ c N bd (h.ref s n i).2 s (M.ref n i).2 D f a u L (K+1):=by
 obtain⟨x,v,h1,h2,h3,h4,h5⟩:=S.toSB.ref n i
 obtain⟨t1,t2,t3⟩:=S.toSB.take h1
 refine⟨h2,?_⟩
 have hl:=S.W.hl
 rw[h3,h4,m9]
 refine S.withT hK t2 (by omega) fun X m0 ws W V R X0 b hb=> ?_
 rcases x5 M x b hb with hb | rfl
 ·exact X0.hr b hb
 ·rcases h5 with h5 | ⟨b',g1,g2,g3,g4,g5,g6⟩
  ·cases h5
  ·obtain⟨h6,h7⟩:=h1
   exact MX.name S.toSB X0 (X0.hr b' g1) ⟨g3,g4⟩ h6 (g6.symm.trans h7)
theorem eQ.root(S:eQ c N bd h s M D f a u L K)(hK:K+1≤1000)(i:Int):(h.root s i).1=(M.root i).1∧eQ c N bd (h.root s i).2 s (M.root i).2 D f a u L (K+1):=by
 obtain⟨x,v,h1,h2,h3,h4,h5⟩:=S.toSB.root i
 obtain⟨t1,t2,t3⟩:=S.toSB.take h1
 refine⟨h2,?_⟩
 have hl:=S.W.hl
 rw[h3,h4,m9]
 refine S.withT hK t2 (by omega) fun X m0 ws W V R X0 b hb=> ?_
 rcases x5 M x b hb with hb | rfl
 ·exact X0.hr b hb
 ·rcases h5 with h5 | ⟨k,g1,g2,g3⟩
  ·cases h5
  ·obtain⟨h6,h7⟩:=h1
   exact MX.root S.toSB X0 g1 h6 (g3.symm.trans h7)
theorem yT(M:Md)(n:Int):(M.drop n).2={M with hs:=(M.drop n).2.hs}:=by unfold Md.drop;split<;>rfl
theorem Dp(M:Md)(n:Int):∀ b,some b∈(M.drop n).2.hs→some b∈M.hs:=by
 unfold Md.drop;intro b;split
 ·exact id
 ·intro h;rcases List.mem_or_eq_of_mem_set h with h | h
  ·exact h
  ·cases h
theorem eQ.drop(S:eQ c N bd h s M D f a u L K)(hK:K+1≤1000)(n:Int):(if (bi h.T.at_ n).isSome=true then (0:Int) else 6)=(M.drop n).1∧eQ c N bd {h with T:=h.T.drop n} s (M.drop n).2 D f a u L (K+1):=by
 obtain⟨h1,h2,h3⟩:=S.T.drop n
 have hl:=S.W.hl
 refine⟨h1,?_⟩
 rw[yT]
 exact S.withT hK h2 (by omega) fun X m0 ws W V R X0 b hb=>X0.hr b (Dp M n b hb)
theorem et.ref{old:Nat→Int}{js:List Nat}{u0:Int}{m0:Int→Int}{L0:List Int}{D0:List Nat}(S:et c N bd h s M D f a u L K old js u0 m0 L0 D0)(hK:K+1≤1000)(n i:Int):(h.ref s n i).1=(M.ref n i).1∧et c N bd (h.ref s n i).2 s (M.ref n i).2 D f a u L (K+1) old js u0 m0 L0 D0:=by
 obtain⟨x,v,h1,h2,h3,h4,_⟩:=S.toSB.ref n i
 obtain⟨t1,t2,t3⟩:=S.toSB.take h1
 have hl:=S.W.hl
 refine⟨h2,?_⟩
 rw[h3,h4,m9]
 exact S.withT hK t2 (by omega)
theorem et.root{old:Nat→Int}{js:List Nat}{u0:Int}{m0:Int→Int}{L0:List Int}{D0:List Nat}(S:et c N bd h s M D f a u L K old js u0 m0 L0 D0)(hK:K+1≤1000)(i:Int):(h.root s i).1=(M.root i).1∧et c N bd (h.root s i).2 s (M.root i).2 D f a u L (K+1) old js u0 m0 L0 D0:=by
 obtain⟨x,v,h1,h2,h3,h4,_⟩:=S.toSB.root i
 obtain⟨t1,t2,t3⟩:=S.toSB.take h1
 have hl:=S.W.hl
 refine⟨h2,?_⟩
 rw[h3,h4,m9]
 exact S.withT hK t2 (by omega)
theorem et.drop{old:Nat→Int}{js:List Nat}{u0:Int}{m0:Int→Int}{L0:List Int}{D0:List Nat}(S:et c N bd h s M D f a u L K old js u0 m0 L0 D0)(hK:K+1≤1000)(n:Int):(if (bi h.T.at_ n).isSome=true then (0:Int) else 6)=(M.drop n).1∧et c N bd {h with T:=h.T.drop n} s (M.drop n).2 D f a u L (K+1) old js u0 m0 L0 D0:=by
 obtain⟨h1,h2,h3⟩:=S.T.drop n
 have hl:=S.W.hl
 refine⟨h1,?_⟩
 rw[yT]
 exact S.withT hK h2 (by omega)
end
end Go.Proofs.YtlcibdhmgclfjaaGreat
