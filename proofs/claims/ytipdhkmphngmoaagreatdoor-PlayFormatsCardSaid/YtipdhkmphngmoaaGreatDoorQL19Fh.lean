/- Part of a law's texts. Conditions: none. -/
import Derived.Test.YtipdhkmphngmoaaGreatDoorQL19Fg
open Go.Proofs.Tryz
set_option linter.all false
namespace Go.Proofs.YtipdhkmphngmoaaGreatDoor
open Go
def cx(s:Dev)(j:Nat):Int:=IntKind.i64.wrap (s.load (1+(j:Int)))
def Dev.readC(s:Dev):Cfg×Int:=
 if s.load 0≠gv then (⟨0,0,0⟩,7)
 else if 4096<s.load 1∨4096<s.load 2∨4096<s.load 3 then (⟨0,0,0⟩,1)
 else if ¬ bx ⟨cx s 0,cx s 1,cx s 2⟩∨(s.n:Int)≠Cfg.words ⟨cx s 0,cx s 1,cx s 2⟩ then (⟨0,0,0⟩,1)
 else (⟨cx s 0,cx s 1,cx s 2⟩,0)
def uz(s:Dev)(k:Nat):List Value:=tab 3 fun j=>i64 (if j<k then cx s j else 0)
theorem yS{s:Dev}{k:Nat}{x:Int}(h:x=cx s k):(uz s k).set k (i64 x)=uz s (k+1):=by
 subst h
 unfold uz
 rw[nK]
 refine eV fun j _=> ?_
 simp only[upd]
 by_cases e:j=k
 ·subst e;simp
 ·rw[if_neg e]
  by_cases e2:j<k
  ·rw[if_pos e2,if_pos (by omega)]
  ·rw[if_neg e2,if_neg (by omega)]
theorem oE{s:Dev}{k:Nat}(h:k<3):(uz s 3)[k]? =some (i64 (cx s k)):=by
 unfold uz;rw[dY h,if_pos h]
theorem rq(B:World)(Fr:List HP)(b:Nat)(s:Dev):
 ∀ w,Holds B (ax b s::Fr) w→Calls Tryz.prog 109 [ptr b].toArray w (aZ B (ax b s::Fr) (.tuple #[dU s.readC.1,i64 s.readC.2])):=by
 refine ak func109 aa ntmps109 aa ?_
 generalize hres:s.readC=res
 refine ac (ab (kPb (aD zeroValue39 aa) aa fun b2=>(kPa aa aa (ad (ac (ac (ab (kPm aa aa (ap aa (ar call101 aa) (bF (q:=ax) (fun Fr=>ck _ Fr _ _ _)) .free aa aa ?_)))))))))
 refine kPv (am aa aa aa) aa (ad ?_)
 refine aV aa (fun h10=> ?_) (fun h10=> ?_)
 ·try simp only[decide_eq_true_eq,decide_eq_false_iff_not,Bool.not_eq_true',Bool.not_eq_false',Bool.or_eq_true,Bool.and_eq_true,Bool.and_eq_false_iff,Bool.or_eq_false_iff,beq_iff_eq,bne_iff_ne,beq_eq_false_iff_ne,bne_eq_false_iff_eq,ge_iff_le,gt_iff_lt,ne_eq] at h10
  refine ac (ab (kPv (aR aa (vf)) aa (kPs (aA (vs:=_) sizeOf39 aa aa aa aa aa) aa (kPa aa aa (ad (au ?_))))))
  exact fY results109 (.cellA aa isAgg39 sizeOf39 aa aa) (.tmp aa) (fun w hw=>⟨by rw[←hres];unfold Dev.readC;rw[if_pos (by simpa [gv] using h10)];rfl,hw.tail⟩)
 ·try simp only[decide_eq_true_eq,decide_eq_false_iff_not,Bool.not_eq_true',Bool.not_eq_false',Bool.or_eq_true,Bool.and_eq_true,Bool.and_eq_false_iff,Bool.or_eq_false_iff,beq_iff_eq,bne_iff_ne,beq_eq_false_iff_ne,bne_eq_false_iff_eq,ge_iff_le,gt_iff_lt,ne_eq] at h10
  refine aw (ac (ab (kPb (aD zeroValue215 aa) aa fun b4=>(ad (ac (ac (ab (kPm aa aa (ad (aI (dF (ι:=Nat) (fun k=>k≤3∧∀ j:Nat,j<k→s.load (1+(j:Int))≤4096) (fun k=>[(0,ptr b),(2,ptr b2),(3,i64 0),(4,ptr b4),(12,i64 k)]) (fun k=>row b4 (uz s k) 215::row b2 [i64 0,i64 0,i64 0] 39::ax b s::Fr) (fun k=>3 - k) 0 ⟨Nat.zero_le _,fun j h=>absurd h (Nat.not_lt_zero _)⟩ (fun a w st=>st.to ⟨rfl,rfl,rfl,rfl,rfl,trivial⟩ id) ?_)))))))))))
  rintro k ⟨hk1,hk2⟩
  refine ac (ab (kPv (am aa aa aa) aa (ad (ac ?_))))
  refine aV aa (fun h13=> ?_) (fun h13=> ?_)
  ·have hk3:k<3:=by simp at h13;omega
   refine aw (ac (aI (ac (ab (kPm aa aa (kPa aa aa (ad (ac (ab (kPm aa aa (kPm aa aa ?_)))))))))))
   refine kPv (aP aa aa) aa (ap aa (ar call101 aa) (bF (q:=ax) (fun Fr=>ck _ Fr _ _ _)) .free aa aa ?_)
   refine kPa aa aa (ad (aj [6,5,12,4,3,2,0] rfl (ac (ac (ab (kPm aa aa (kPv (am aa aa aa) aa (ad ?_))))))))
   refine aV aa (fun h20=> ?_) (fun h20=> ?_)
   ·try simp only[decide_eq_true_eq,decide_eq_false_iff_not,Bool.not_eq_true',Bool.not_eq_false',Bool.or_eq_true,Bool.and_eq_true,Bool.and_eq_false_iff,Bool.or_eq_false_iff,beq_iff_eq,bne_iff_ne,beq_eq_false_iff_ne,bne_eq_false_iff_eq,ge_iff_le,gt_iff_lt,ne_eq] at h20
    refine ac (ab (kPv (aR aa (vf)) aa (kPs (aA (vs:=_) sizeOf39 aa aa aa aa aa) aa (kPa aa aa (ad (au ?_))))))
    exact fY results109 (.cellA aa isAgg39 sizeOf39 aa aa) (.tmp aa) (fun w hw=>⟨by
   rw[←hres];unfold Dev.readC;rw[if_neg (by simpa [gv] using h10),if_pos (by
    rcases (by omega:k=0∨k=1∨k=2) with rfl | rfl | rfl
    ·left;exact h20
    ·right;left;exact h20
    ·right;right;exact h20)];rfl,hw.tail.tail⟩)
   ·try simp only[decide_eq_true_eq,decide_eq_false_iff_not,Bool.not_eq_true',Bool.not_eq_false',Bool.or_eq_true,Bool.and_eq_true,Bool.and_eq_false_iff,Bool.or_eq_false_iff,beq_iff_eq,bne_iff_ne,beq_eq_false_iff_ne,bne_eq_false_iff_eq,ge_iff_le,gt_iff_lt,ne_eq] at h20
    refine aw (ab (kPm aa aa (kPm aa aa (kPv (bY runUnderlying24 runUnderlying3 aa) aa (kPv (mS (m:=k) runUnderlying215 sizeOf3 aa aa (by omega) (by omega) (by omega)) aa (kPs (aO sizeOf3 aa aa aa (by rw[Nat.blt_eq];simp[uz,aW];omega)) aa (ad (aj [12,4,3,2,0] rfl (ab (kPv (aP aa aa) aa (kPm aa aa ?_)))))))))))
    refine ad ?_
    exact fun a w st=>⟨k+1,⟨by omega,fun j hj=>by
     rcases Nat.lt_succ_iff_lt_or_eq.1 hj with h | h
     ·exact hk2 j h
     ·subst h;omega⟩,by omega,st.to ⟨rfl,rfl,rfl,rfl,rfl,trivial⟩ (fun hh=>by rw[show(Value.int IntKind.i64 (IntKind.i64.wrap (s.load (1+(k:Int)))))=i64 (cx s k) from rfl,yS rfl] at hh;exact hh)⟩
  ·have hk3:¬ k<3:=by simp at h13;omega
   obtain rfl:k=3:=by omega
   have hb0:s.load 1≤4096:=hk2 0 (by decide)
   have hb1:s.load 2≤4096:=hk2 1 (by decide)
   have hb2:s.load 3≤4096:=hk2 2 (by decide)
   refine bJ (ac (ab (kPv (mS (m:=0) runUnderlying215 sizeOf3 aa aa (by decide) (by decide) (by decide)) aa (kPv (ag (v:=i64 (cx s 0)) isAgg3 aa (oE (by decide))) aa (kPv (mS (m:=1) runUnderlying215 sizeOf3 aa aa (by decide) (by decide) (by decide)) aa (kPv (ag (v:=i64 (cx s 1)) isAgg3 aa (oE (by decide))) aa (kPv (mS (m:=2) runUnderlying215 sizeOf3 aa aa (by decide) (by decide) (by decide)) aa (kPv (ag (v:=i64 (cx s 2)) isAgg3 aa (oE (by decide))) aa (kPv (aR aa (cW _ _ _ aa aa aa)) aa (kPb (aD zeroValue39 aa) aa fun b7=>(kPs (aA (vs:=_) sizeOf39 aa aa aa aa aa) aa ?_)))))))))))
   refine ad (aj [7,3,2,0] rfl (ac (ac (cN Tryz.mixed (by kernel_rfl) (by kernel_rfl) ?_))))
   refine kQv (ah isAgg39 sizeOf39 aa aa) aa ?_
   refine bj aa (ar call22 aa) (iA _ _ ⟨cx s 0,cx s 1,cx s 2⟩) .free aa ?_
   refine kQv (am aa aa aa) aa (kQm aa aa ?_)
   apply CB (tp:=43) (t:=37) (σ1:=[(37,_),(7,_),(3,_),(2,_)]) 6 rfl (aG rfl)
   ·intro hg1
    refine bg aa (al aa) (.on aa aa (ae hg1)) aa (bj aa (ar call103 aa) (bF (q:=ax) (fun Fr=>kQ _ Fr _ _)) (.on aa aa (ae hg1)) aa ?_)
    refine bg aa (ah isAgg39 sizeOf39 aa aa) (.on aa aa (ae hg1)) aa ?_
    refine bj aa (ar call23 aa) (gy _ _ ⟨cx s 0,cx s 1,cx s 2⟩ (Ce hg1)) (.on aa aa (ae hg1)) aa ?_
    refine bg aa (am aa aa aa) (.on aa aa (ae hg1)) aa (kQv (aJ aa hg1 aa) aa ?_)
    exact fp aa (aG aa) (ga hg1)
   ·intro hg1
    refine ba aa (.on aa aa (ai hg1)) aa (ba aa (.on aa aa (ai hg1)) aa (ba aa (.on aa aa (ai hg1)) aa (ba aa (.on aa aa (ai hg1)) aa (ba aa (.on aa aa (ai hg1)) aa (kQv (aB aa hg1 aa) aa ?_)))))
    exact fp aa (aG aa) (f9 hg1)
   refine bM ?_
   refine aV aa (fun h43=> ?_) (fun h43=> ?_)
   ·have hbad:¬ bx ⟨cx s 0,cx s 1,cx s 2⟩∨(s.n:Int)≠Cfg.words ⟨cx s 0,cx s 1,cx s 2⟩:=by
     by_cases q:bx ⟨cx s 0,cx s 1,cx s 2⟩
     ·right;simpa [chk,q] using h43
     ·exact .inl q
    refine ac (ab (kPv (aR aa (vf)) aa (kPs (aA (vs:=_) sizeOf39 aa aa aa aa aa) aa (kPa aa aa (ad (au ?_))))))
    exact fY results109 (.cellA aa isAgg39 sizeOf39 aa aa) (.tmp aa) (fun w hw=>⟨by rw[←hres];unfold Dev.readC;rw[if_neg (by simpa [gv] using h10),if_neg (by omega),if_pos hbad];rfl,hw.tail.tail.tail⟩)
   ·have hgd:¬ (¬ bx ⟨cx s 0,cx s 1,cx s 2⟩∨(s.n:Int)≠Cfg.words ⟨cx s 0,cx s 1,cx s 2⟩):=by
     by_cases q:bx ⟨cx s 0,cx s 1,cx s 2⟩
     ·simp[chk,q] at h43;simp[q,h43]
     ·simp[chk,q] at h43
    refine aw (ac (ab (kPv (ah isAgg39 sizeOf39 aa aa) aa ?_)))
    refine kPs (aA (vs:=_) sizeOf39 aa aa aa aa aa) aa (kPa aa aa (ad (au ?_)))
    exact fY results109 (.cellA aa isAgg39 sizeOf39 aa aa) (.tmp aa) (fun w hw=>⟨by rw[←hres];unfold Dev.readC;rw[if_neg (by simpa [gv] using h10),if_neg (by omega),if_neg hgd];rfl,hw.tail.tail.tail⟩)
def okB{α:Type}(m:Out α)(p:α→Dev→Bool):Bool:=match m with
 | .ok a s=>p a s
 | .off _=>false
theorem cg{α:Type}{m:Out α}{p:α→Dev→Bool}{a:α}{s:Dev}(h:okB m p=true)(e:m= .ok a s):p a s=true:=by rw[e] at h;exact h
theorem jD{α:Type}{m:Out α}{p:α→Dev→Bool}{s:Dev}(h:okB m p=true)(e:m= .off s):False:=by rw[e] at h;cases h
def na{α:Type}(m:Out α)(p:α→Prop)(n:Nat):Prop:=∃ a s,m= .ok a s∧p a∧s.pow.lim<0∧s.n=n
theorem cD{α β:Type}{m:Out α}{f:α→Dev→Out β}{p:α→Prop}{q:β→Prop}{n:Nat}(h:na m p n)(g:∀ a s,p a→s.pow.lim<0→s.n=n→na (f a s) q n):na (m.then f) q n:=by
 obtain⟨a,s,rfl,h1,h2,h3⟩:=h
 exact g a s h1 h2 h3
theorem fJ{s:Dev}{i v:Int}(h:s.pow.lim<0):na (s.store i v) (fun _=>True) s.n:=by
 unfold Dev.store
 split
 ·exact⟨_,_,rfl,trivial,h,rfl⟩
 ·rw[oP h];exact⟨_,_,rfl,trivial,h,rfl⟩
theorem iu{s:Dev}{i:Int}(h:s.pow.lim<0):na (s.flush i) (fun _=>True) s.n:=by
 unfold Dev.flush
 split
 ·exact⟨_,_,rfl,trivial,h,rfl⟩
 ·rw[oP h];exact⟨_,_,rfl,trivial,h,rfl⟩
theorem lv{s:Dev}(h:s.pow.lim<0):na s.fence (fun _=>True) s.n:=⟨(),_,l5 h,trivial,h,rfl⟩
theorem mM(f:Int→Int):∀ (k:Nat) (i:Int) (s:Dev),s.pow.lim<0→na (ew f k i s) (fun _=>True) s.n
 | 0,_,s,h=>⟨(),s,rfl,trivial,h,rfl⟩
 | k+1,i,s,h=>cD (fJ h) fun _ s1 _ h1 e1=>e1▸cD (iu h1) fun _ s2 _ h2 e2=>e2▸mM f k (i+1) s2 h2
theorem tu(l:List Int):∀ (k i:Nat) (s:Dev),s.pow.lim<0→na (st3 l k i s) (fun _=>True) s.n
 | 0,_,s,h=>⟨(),s,rfl,trivial,h,rfl⟩
 | k+1,i,s,h=>cD (fJ h) fun _ s1 _ h1 e1=>e1▸tu l k (i+1) s1 h1
theorem nx{s:Dev}{c:Cfg}(h:s.pow.lim<0)(hc:bx c)(hn:(s.n:Int)=c.words):na (s.format c) (fun a=>a=0) s.n:=by
 unfold Dev.format
 rw[if_neg (cJ hc hn)]
 refine cD (fJ h) fun _ s1 _ h1 e1=>(e1▸cD (iu h1) fun _ s2 _ h2 e2=>(e2▸cD (lv h2) fun _ s3 _ h3 e3=>(e3▸cD (tu _ _ _ _ h3) fun _ s4 _ h4 e4=>(e4▸cD (fJ h4) fun _ s5 _ h5 e5=>(e5▸cD (iu h5) fun _ s6 _ h6 e6=>(e6▸cD (mM _ _ _ _ h6) fun _ s7 _ h7 e7=>(e7▸cD (mM _ _ _ _ h7) fun _ s8 _ h8 e8=>(e8▸cD (iu h8) fun _ s9 _ h9 e9=>(e9▸cD (lv h9) fun _ s10 _ h10 e10=>(e10▸cD (fJ h10) fun _ s11 _ h11 e11=>(e11▸cD (iu h11) fun _ s12 _ h12 e12=> ?_)))))))))))
 refine e12▸cD (lv h12) fun _ s13 _ h13 e13=> ?_
 exact⟨0,s13,rfl,rfl,h13,e13⟩
def jC(xs:List Int)(j:Nat):Int:=if xs.length=0 then 0 else xs.getD (j%xs.length) 0
def iU(pa:Nat)(xs:List Int)(n:Nat):Dev:=⟨pa,⟨-1,0⟩,n,fun i=>(tab n (jC xs)).getD i 0,fun i=>(tab n (jC xs)).getD i 0,fun _=>none⟩
theorem words_b{c:Cfg}(h:bx c):40≤c.words∧c.words≤20000∧c.words%8=0:=by
 have h1:=h.act
 have:=h.r1;have:=h.r2;have:=h.l1;have:=h.l2;have:=h.s1;have:=h.s2
 have hl:=gb (n:=c.root c.roots) (by simp only[Cfg.root];omega)
 have hs:=gb (n:=c.space) (by omega)
 simp only[Cfg.words,Cfg.frm,Cfg.root] at*
 omega
def po(xs:List Int)(n k:Nat):List Value:=tab n fun j=>w64 (if j<k then jC xs j else 0)
theorem zL{xs:List Int}{n k:Nat}{x:Int}(h:x=jC xs k):(po xs n k).set k (w64 x)=po xs n (k+1):=by
 subst h
 unfold po
 rw[nK]
 refine eV fun j _=> ?_
 simp only[upd]
 by_cases e:j=k
 ·subst e;simp
 ·rw[if_neg e]
  by_cases e2:j<k
  ·rw[if_pos e2,if_pos (by omega)]
  ·rw[if_neg e2,if_neg (by omega)]
theorem qP{xs:List Int}{n k:Nat}(h:xs.length=0):po xs n (k+1)=po xs n k:=by
 refine eV fun j _=> ?_
 simp[jC,h]
theorem qO(xs:List Int)(n:Nat):List.replicate n (.int .u64 0)=po xs n 0:=by
 apply List.ext_getElem?
 intro j
 by_cases h:j<n
 ·rw[po,dY h];simp[h]
 ·rw[List.getElem?_eq_none (by simpa using h),List.getElem?_eq_none (by rw[po,aW];omega)]
theorem tz(xs:List Int)(n:Nat):po xs n n=(tab n (jC xs)).map w64:=by
 rw[lK];exact eV fun j hj=>by rw[if_pos hj]
theorem wM{pa N:Nat}{xs:List Int}(h:N%8=0):(⟨pa,⟨-1,0⟩,((tab N (jC xs)).length+7) / 8*8,fun i=>(tab N (jC xs)).getD i 0,fun i=>(tab N (jC xs)).getD i 0,fun _=>none⟩:Dev)=iU pa xs N:=by
 rw[aW,show(N+7) / 8*8=N by omega];rfl
theorem uY{pa N:Nat}{xs:List Int}{c:Cfg}{a:Int}{s:Dev}(hc:bx c)(hN:(N:Int)=c.words)(h:(iU pa xs N).format c= .ok a s):a=0:=by
 obtain⟨b,t,e,hb,_⟩:=nx (s:=iU pa xs N) (show(-1:Int)<0 by decide) hc hN
 rw[e] at h;cases h;exact hb
theorem wy{pa N:Nat}{xs:List Int}{c:Cfg}{s:Dev}(hc:bx c)(hN:(N:Int)=c.words)(h:(iU pa xs N).format c= .off s):False:=by
 obtain⟨b,t,e,hb,_⟩:=nx (s:=iU pa xs N) (show(-1:Int)<0 by decide) hc hN
 rw[e] at h;cases h
theorem dZ(B:World)(Fr:List HP)(c:Cfg)(hc:bx c)(q:Option Addr)(cap:Nat)(xs:List Int)(hx:xs.length≤100000)(hq:∀ i,i<xs.length→∃ b off,q=some ⟨b,off,none⟩)(hr:SlR B Fr (.slice q xs.length cap) (xs.map w64)):
 ∀ w,Holds B Fr w→Calls Tryz.prog 70 [dU c,.slice q xs.length cap].toArray w (Ret B (fun rv H'=>∃ (b pa N:Nat) (s':Dev),(N:Int)=c.words∧(iU pa xs N).format c= .ok 0 s'∧rv= .tuple #[ptr b,.bool true]∧H'=ax b s'::Fr) (fun _ _=>False)):=by
 refine ak func70 aa ntmps70 aa ?_
 have hwb:=words_b hc
 obtain⟨N,hN⟩:∃ N:Nat,(N:Int)=c.words:=⟨c.words.toNat,by omega⟩
 refine ac (ab (kPb (aY aa) aa fun b2=>(kPa aa aa (kPa aa aa (ad (ac (ab (kPv (ah isAgg39 sizeOf39 aa aa) aa ?_))))))))
 refine ap aa (ar call23 aa) (gy _ _ c hc) .free aa aa ?_
 rw[←hN]
 refine kPb (kX runUnderlying22 gh sizeOf24 zeroValue24 aa aa aa (by omega)) aa fun bl=> ?_
 rw[qO xs]
 refine kPa aa aa (ad (ac (ac (ab (kPm aa aa (kPv (bS aa runUnderlying22 ⟨_,rfl⟩ rfl) aa (kPm aa aa (ad (aI (dF (ι:=Nat) (fun k=>k≤N) (fun k=>[(1,.slice q xs.length cap),(2,ptr b2),(4,.pointer none),(5,.bool false),(6,.slice (some ⟨bl,0,none⟩) N N),(13,i64 N),(14,i64 k)]) (fun k=>row bl (po xs N k) 24::row b2 [i64 c.log,i64 c.roots,i64 c.space] 39::Fr) (fun k=>N - k) 0 (Nat.zero_le _) (fun a w st=>st.to ⟨rfl,rfl,rfl,rfl,rfl,rfl,rfl,trivial⟩ id) ?_))))))))))
 intro k hk
 refine ac (ab (kPv (am aa aa aa) aa (ad (ac ?_))))
 refine aV aa (fun h15=> ?_) (fun h15=> ?_)
 ·have hkN:k<N:=by simp at h15;omega
  refine aw (ac (aI (ac (ab (kPm aa aa (kPa aa aa (ad (aj [7,14,13,6,5,4,2,1] rfl (ac (ab (kPm aa aa ?_)))))))))))
  refine kPv (bS aa runUnderlying22 ⟨_,rfl⟩ rfl) aa (kPv (am aa aa aa) aa (ad ?_))
  refine aV aa (fun h19=> ?_) (fun h19=> ?_)
  ·have hpos:0<xs.length:=by simp at h19;omega
   refine ab (kPm aa aa (kPm aa aa (kPm aa aa (kPm aa aa (kPm aa aa (kPv (bS aa runUnderlying22 ⟨_,rfl⟩ rfl) aa (kPv (et (c:=((k%xs.length:Nat):Int)) aa aa (by omega) (by rw[Int.tmod_eq_emod_of_nonneg (by omega)];omega)) aa ?_)))))))
   obtain⟨ob,oo,rfl⟩:=hq 0 hpos
   refine kPv (cC runUnderlying22 sizeOf24 aa aa (by omega) (by have:=Nat.mod_lt k hpos;omega)) aa (kPv (cf (v:=w64 (jC xs k)) isAgg24 ((hr.cons _).cons _) aa (by have:=Nat.mod_lt k hpos;rw[Int.toNat_natCast];simp[jC,show ¬ xs.length=0 by omega,this,List.getD])) aa (kPv (cC runUnderlying22 sizeOf24 aa aa (by omega) (by omega)) aa (kPs (aO sizeOf24 aa aa aa (by rw[Nat.blt_eq,po,aW];omega)) aa ?_)))
   rw[show 0+(k:Int).toNat=k by omega,zL rfl]
   refine ad (aj [14,13,6,5,4,2,1] rfl (ab (kPv (aP aa aa) aa (kPm aa aa (ad ?_)))))
   first
    | exact fun a w st=>⟨k+1,by omega,by omega,st.to ⟨rfl,rfl,rfl,rfl,rfl,rfl,rfl,trivial⟩ id⟩
    | exact fun a w st=>⟨k+1,by omega,by omega,st.to ⟨rfl,rfl,rfl,rfl,rfl,rfl,rfl,trivial⟩ (fun hh=>by rw[qP hz];exact hh)⟩
  ·have hz:xs.length=0:=by have:=of_decide_eq_false h19;omega
   refine aw (ab (kPv (aP aa aa) aa (kPm aa aa (ad ?_))))
   first
    | exact fun a w st=>⟨k+1,by omega,by omega,st.to ⟨rfl,rfl,rfl,rfl,rfl,rfl,rfl,trivial⟩ id⟩
    | exact fun a w st=>⟨k+1,by omega,by omega,st.to ⟨rfl,rfl,rfl,rfl,rfl,rfl,rfl,trivial⟩ (fun hh=>by rw[qP hz];exact hh)⟩
 ·have hkN:¬ k<N:=by simp at h15;omega
  have hkN2:k=N:=by omega
  rw[hkN2]
  refine bJ (ac (ab (kPm aa aa (aE aa (ar call46 aa) (ry _ _ _ (tab N (jC xs)) (by rw[aW];omega) (by rw[aW];omega) (SlR.row (by rw[List.drop_zero,tz,List.take_of_length_le (by rw[List.length_map,aW];omega)]) (by rw[List.length_map,aW]))) .free aa aa ?_))))
  rintro _ _ ⟨bd,pa,rfl,rfl⟩
  refine kPa aa aa (ad (aj [8,5,4,2] rfl (ac (ac (ab ?_)))))
  rw[wM (by omega)]
  refine kPm aa aa (kPv (cV runUnderlying53 aa aa aa) aa (kPm aa aa (ao aa (al aa) (.on aa aa (ae aa)) aa aa (ao aa (ah isAgg39 sizeOf39 aa aa) (.on aa aa (ae aa)) aa aa ?_))))
  refine aQ aa (ar call47 aa) (lx _ _ _ _ c) (.on aa aa (ae aa)) aa aa ?_ ?_
  rotate_left
  ·rintro _ _ ⟨s9,hm9,rfl,rfl⟩
   exact(wy hc hN hm9).elim
  rintro _ _ ⟨a,s1,hm1,rfl,rfl⟩
  refine ao aa (am aa aa aa) (.on aa aa (ae aa)) aa aa (kPv (aJ aa aa aa) aa (ad (aj [40,8,5,4] rfl (bH aa (by have:=uY hc hN hm1;subst this;rfl) (aw (ac (ab (kPm aa aa (kPa aa aa (kPa aa aa (ad ?_)))))))))))
  refine au ?_
  exact bz results70 aa aa (fun w hh=>⟨_,⟨bd,pa,N,s1,rfl,by rw[←uY hc hN hm1];exact hm1,rfl,rfl⟩,(((hh.front 1 aa).tail).front 1 aa).tail⟩)
def d5(pa:Nat):Dev:=⟨pa,⟨-1,0⟩,56,fun i=>(List.replicate 56 (0:Int)).getD i 0,fun i=>(List.replicate 56 (0:Int)).getD i 0,fun _=>none⟩
set_option maxRecDepth 100000 in
theorem wP(pa:Nat):okB ((d5 pa).format ⟨3,1,8⟩) (fun a s=>a==0&&s.readC.1.log==3&&s.readC.1.roots==1&&s.readC.1.space==8&&s.readC.2==0&&(d5 pa).readC.2==7)=true:=by kernel_rfl
theorem x9(B:World)(H:List HP):
 ∀ w,Holds B H w→Calls Tryz.prog 266 [].toArray w (aZ B H (.bool true)):=by
 refine ak func266 aa ntmps266 aa (ac (ab (kPa aa aa (ad (ac (ac (ab (ap aa (ar call268 aa) (ya _ _) .free aa aa ?_))))))))
 refine kPv (bu aa) aa (ad (bH aa (rfl) (aw (ac (ab (kPb (kX (n:=56) runUnderlying22 gh sizeOf24 zeroValue24 aa aa aa (by omega)) aa fun bl=>(aE aa (ar call46 aa) (ry _ _ _ (List.replicate 56 0) (by decide) (by decide) (SlR.row (by simp[w64]) (by simp))) .free aa aa ?_)))))))
 rintro _ _ ⟨bd,pa,rfl,rfl⟩
 rw[show(⟨pa,⟨-1,0⟩,((List.replicate 56 (0:Int)).length+7) / 8*8,fun i=>(List.replicate 56 (0:Int)).getD i 0,fun i=>(List.replicate 56 (0:Int)).getD i 0,fun _=>none⟩:Dev)=d5 pa from rfl]
 refine kPa aa aa (ad (ac (ac (ab (kPm aa aa (kPv (cV runUnderlying53 aa aa aa) aa (ad (bH aa (rfl) (aw (ac (ab ?_)))))))))))
 refine kPm aa aa (ap aa (ar call109 aa) (bF (q:=ax) (fun Fr=>rq _ Fr _ _)) .free aa aa ?_)
 refine kPm aa aa (kPv (az aa aa) aa (kPv (az aa aa) aa (kPb (aD zeroValue39 aa) aa fun b2=>(kPs (aA (vs:=_) sizeOf39 aa aa aa aa aa) aa (kPa aa aa (ad (aj [3,1,0] rfl (ac (ab (dE 1 aa (kPm aa aa ?_)))))))))))
 refine kPv (aR aa (cW _ _ _ aa aa aa)) aa ?_
 refine aQ aa (ar call47 aa) (lx _ _ _ _ ⟨3,1,8⟩) .free aa aa ?_ ?_
 rotate_left
 ·rintro _ _ ⟨s9,hm9,rfl,rfl⟩
  exact(jD (wP pa) hm9).elim
 rintro _ _ ⟨a,s1,hm1,rfl,rfl⟩
 have hev:=cg (wP pa) hm1
 simp only[Bool.and_eq_true,beq_iff_eq] at hev
 obtain⟨⟨⟨⟨⟨v1,v2⟩,v3⟩,v4⟩,v5⟩,v6⟩:=hev
 have hw5:bx s1.readC.1:=⟨by omega,by omega,by omega,by omega,by omega,by omega⟩
 refine kPa aa aa (ad (ac (ab (kPm aa aa (ap aa (ar call109 aa) (bF (q:=ax) (fun Fr=>rq _ Fr _ _)) .free aa aa ?_)))))
 refine kPm aa aa (kPv (az aa aa) aa (kPv (az aa aa) aa (kPb (aD zeroValue39 aa) aa fun b5=>(kPs (aA (vs:=_) sizeOf39 aa aa aa aa aa) aa (kPa aa aa (ad (aj [6,5,4,3,0] rfl (ac (ab (kPm aa aa (kPv (am aa aa aa) aa ?_)))))))))))
 refine kPm aa aa ?_
 apply dS (tp:=31) (t:=28) (σ1:=[(28,_),(6,_),(5,_),(0,_)]) 3 rfl (aG rfl)
 ·intro hg1
  refine ao aa (al aa) (.on aa aa (ae hg1)) aa aa (ao aa (am aa aa aa) (.on aa aa (ae hg1)) aa aa (kPv (aB aa hg1 aa) aa ?_))
  exact bf aa (aG aa) (dj hg1)
 ·intro hg1
  refine ay aa (.on aa aa (ai hg1)) aa (ay aa (.on aa aa (ai hg1)) aa (kPv (aJ aa hg1 aa) aa ?_))
  exact bf aa (aG aa) (dl hg1)
 refine kPm aa aa ?_
 apply dS (tp:=35) (t:=32) (σ1:=[(32,_),(5,_),(0,_)]) 3 rfl (aG rfl)
 ·intro hg2
  refine ao aa (al aa) (.on aa aa (ae hg2)) aa aa (ao aa (am aa aa aa) (.on aa aa (ae hg2)) aa aa (kPv (aB aa hg2 aa) aa ?_))
  exact bf aa (aG aa) (dj hg2)
 ·intro hg2
  refine ay aa (.on aa aa (ai hg2)) aa (ay aa (.on aa aa (ai hg2)) aa (kPv (aJ aa hg2 aa) aa ?_))
  exact bf aa (aG aa) (dl hg2)
 refine kPm aa aa ?_
 apply dS (tp:=40) (t:=36) (σ1:=[(36,_),(0,_)]) 4 rfl ⟨rfl,rfl,trivial⟩
 ·intro hg3
  refine ao aa (ah isAgg39 sizeOf39 aa aa) (.on aa aa (ae hg3)) aa aa ?_
  refine ap aa (ar call23 aa) (gy _ _ _ hw5) (.on aa aa (ae hg3)) aa aa ?_
  refine ao aa (am aa aa aa) (.on aa aa (ae hg3)) aa aa (kPv (aB aa hg3 aa) aa ?_)
  exact bf aa ⟨rfl,rfl,trivial⟩ (dj hg3)
 ·intro hg3
  refine ay aa (.on aa aa (ai hg3)) aa (ay aa (.on aa aa (ai hg3)) aa (ay aa (.on aa aa (ai hg3)) aa (kPv (aJ aa hg3 aa) aa ?_)))
  exact bf aa ⟨rfl,rfl,trivial⟩ (dl hg3)
 refine kPa aa aa (ad (au ?_))
 exact aq results266 aa (fun w hw=>⟨sC (by rw[v6,v1,v5];simp[Cfg.words,Cfg.frm,Cfg.root,Cfg.active,Cfg.record,io,v2,v3,v4]),hw.tail.tail.tail.tail⟩)
def l6(d:Nat)(s:Dev):Out (Int×bT):=((bP d ⟨3,1,8⟩ s).append s 40)
set_option maxRecDepth 100000 in
theorem wO(pa d:Nat):okB ((iU pa [] 56).format ⟨3,1,8⟩) (fun _ s=>okB (l6 d s) fun x s'=>x.1==0&&(bP d ⟨3,1,8⟩ s').n==1&&(bP d ⟨3,1,8⟩ s').epoch==1)=true:=by kernel_rfl
def s7(d:Nat)(s:Dev):bD:=⟨bP d ⟨3,1,8⟩ s,0,0,[],[]⟩
set_option maxRecDepth 100000 in
theorem wN(pa d:Nat):okB ((iU pa [] 56).format ⟨3,1,8⟩) (fun _ s=>okB ((s7 d s).store s 40 5) fun x s'=>x.1==0&&s'.load 40==5&&okB (x.2.abort s') fun _ s2=>s2.load 40==0)=true:=by kernel_rfl
theorem x8(B:World)(H:List HP):
 ∀ w,Holds B H w→Calls Tryz.prog 265 [].toArray w (aZ B H (.bool true)):=by
 refine ak func265 aa ntmps265 aa (ac (ab (kPa aa aa (ad (ac (ac (ab (ap aa (ar call266 aa) (x9 _ _) .free aa aa ?_))))))))
 refine kPv (bu aa) aa (ad (bH aa (rfl) (aw (ac (ab (kPv (aR aa (cW _ _ _ aa aa aa)) aa (kPb (aD zeroValue39 aa) aa fun b1=>(kPs (aA (vs:=_) sizeOf39 aa aa aa aa aa) aa (ad (ac (ab ?_)))))))))))
 refine kPv (ah isAgg39 sizeOf39 aa aa) aa ?_
 refine aE aa (ar call70 aa) (dZ _ _ ⟨3,1,8⟩ gg none 0 [] (by decide) (fun _ h=>absurd h (Nat.not_lt_zero _)) SlR.nil) .free aa aa ?_
 rintro _ _ ⟨bd,pa,N,s0,hN,hf,rfl,rfl⟩
 obtain rfl:N=56:=by have:(N:Int)=56:=hN.trans (by decide);omega
 refine kPm aa aa (kPv (az aa aa) aa (kPv (az aa aa) aa (kPa aa aa (kPa aa aa (ad (aj [3,2,1,0] rfl (ac (ac (ab (kPm aa aa (kPv (bu aa) aa ?_)))))))))))
 refine ad (bH aa (rfl) (aw (ac (ab (kPm aa aa (kPv (ah isAgg39 sizeOf39 aa aa) aa ?_))))))
 refine aE aa (ar call110 aa) (ki _ _ _ _ ⟨3,1,8⟩ gg) .free aa aa ?_
 rintro _ _ ⟨bl2,rfl,rfl⟩
 refine kPa aa aa (ad (ac (ac (ab (kPm aa aa (kPv (cV runUnderlying141 aa aa aa) aa (kPm aa aa (ao aa (al aa) (.on aa aa (ae aa)) aa aa ?_))))))))
 refine aQ aa (ar call141 aa) (o8 _ _ _ (bP bd ⟨3,1,8⟩ s0) s0 (iE gg) 40) (.on aa aa (ae aa)) aa aa ?_ ?_
 rotate_left
 ·rintro _ _ ⟨s9,hm9,rfl,rfl⟩
  exact(jD (cg (wO pa bd) hf) hm9).elim
 rintro _ _ ⟨a,L1,s1,hm1,rfl,rfl⟩
 have hev:=cg (cg (wO pa bd) hf) hm1
 simp only[Bool.and_eq_true,beq_iff_eq] at hev
 obtain⟨⟨e1,e2⟩,e3⟩:=hev
 refine ao aa (am aa aa aa) (.on aa aa (ae aa)) aa aa (kPv (aJ aa aa aa) aa (kPm aa aa (ao aa (al aa) (.on aa aa (ae (by rw[e1];rfl))) aa aa (aE aa (ar call158 aa) (nt _ _ _) (.on aa aa (ae (by rw[e1];rfl))) aa aa ?_))))
 rintro _ _ ⟨bb,rfl,rfl⟩
 refine ao aa (nT runUnderlying218 ⟨_,_,_,rfl⟩ rfl aa aa) (.on aa aa (ae (by rw[e1];rfl))) aa aa (kPv (aJ aa (by rw[e1];rfl) aa) aa (ad (aj [30,2,1,0] rfl (bH aa (rfl) (aw (ac (ab (dE 2 aa ?_))))))))
 simp only[List.eraseIdx_cons_succ,List.eraseIdx_cons_zero]
 refine kPm aa aa (kPv (ah isAgg39 sizeOf39 aa aa) aa ?_)
 refine aE aa (ar call110 aa) (ki _ _ _ _ ⟨3,1,8⟩ gg) .free aa aa ?_
 rintro _ _ ⟨bl5,rfl,rfl⟩
 refine kPa aa aa (ad (ac (ab (kPm aa aa (kPv (cV runUnderlying141 aa aa aa) aa (kPm aa aa ?_))))))
 apply dS (tp:=40) (t:=36) (σ1:=[(36,_),(5,_),(0,_)]) 4 rfl (aG rfl)
 ·intro hg1
  refine ao aa (al aa) (.on aa aa (ae hg1)) aa aa (ap aa (ar call88 aa) (vV _ _ _ _) (.on aa aa (ae hg1)) aa aa ?_)
  refine ao aa (am aa aa aa) (.on aa aa (ae hg1)) aa aa (kPv (aB aa hg1 aa) aa ?_)
  exact bf aa (aG aa) (dj hg1)
 ·intro hg1
  refine ay aa (.on aa aa (ai hg1)) aa (ay aa (.on aa aa (ai hg1)) aa (ay aa (.on aa aa (ai hg1)) aa (kPv (aJ aa hg1 aa) aa ?_)))
  exact bf aa (aG aa) (dl hg1)
 refine kPm aa aa ?_
 apply dS (tp:=45) (t:=41) (σ1:=[(41,_),(0,_)]) 4 rfl ⟨rfl,rfl,trivial⟩
 ·intro hg2
  refine ao aa (al aa) (.on aa aa (ae hg2)) aa aa (ap aa (ar call267 aa) (xH _ _ _ _) (.on aa aa (ae hg2)) aa aa ?_)
  refine ao aa (am aa aa aa) (.on aa aa (ae hg2)) aa aa (kPv (aB aa hg2 aa) aa ?_)
  exact bf aa ⟨rfl,rfl,trivial⟩ (dj hg2)
 ·intro hg2
  refine ay aa (.on aa aa (ai hg2)) aa (ay aa (.on aa aa (ai hg2)) aa (ay aa (.on aa aa (ai hg2)) aa (kPv (aJ aa hg2 aa) aa ?_)))
  exact bf aa ⟨rfl,rfl,trivial⟩ (dl hg2)
 refine kPa aa aa (ad (au ?_))
 exact aq results265 aa (fun w hw=>⟨sC (by
  show(!(some (⟨bl5,0,none⟩:Addr)).isNone&&(bP bd ⟨3,1,8⟩ s1).n==1&&(bP bd ⟨3,1,8⟩ s1).epoch==1)=true
  rw[e2,e3];rfl),hw.tail.tail.tail.tail.tail⟩)
theorem B8{d:Nat}{c:Cfg}{s:Dev}{f t:Int}(h:bx c):lF ⟨bP d c s,f,t,[],[]⟩:=⟨iE h,by simp⟩
theorem rd{S S':bD}{s s':Dev}{i v a:Int}(h:lF S)(hs:s.n≤1000000)(ha:0≤S.L.c.active)(e:S.store s i v= .ok (a,S') s')(hw:dR S'.L):lF S':=by
 refine⟨hw,?_⟩
 unfold bD.store at e
 split at e
 ·cases e;exact h.dirty
 ·rename_i hb
  split at e
  ·cases h1:S.L.append s i with
   | off t=>rw[h1] at e;cases e
   | ok x t=>
     rw[h1,aU] at e
     split at e
     ·cases e;exact h.dirty
     ·cases h2:t.store i v with
      | off u=>rw[h2] at e;cases e
      | ok y u=>
        rw[h2,aU] at e;cases e
        intro p hp
        rcases lV hp with rfl | hp
        ·simp only;omega
        ·exact h.dirty p hp
  ·cases h2:s.store i v with
   | off u=>rw[h2] at e;cases e
   | ok y u=>
     rw[h2,aU] at e;cases e
     intro p hp
     rcases lV hp with rfl | hp
     ·simp only;omega
     ·exact h.dirty p hp
theorem Ax{L L':bT}{s s':Dev}{i a:Int}(h:dR L)(e:L.append s i= .ok (a,L') s'):dR L':=by
 unfold bT.append at e
 split at e
 ·cases e;exact h
 ·split at e
  ·cases e;exact h
  ·rename_i hn
   have h1:=h.n2
   have h2:=h.n1
   simp only[Out.then] at e
   repeat' split at e
   all_goals first | (cases e;exact⟨h.c,h.e1,h.e2,by simp only;omega,by simp only;omega⟩) | cases e
theorem j7{S S':bD}{s s':Dev}{i v a:Int}(h:dR S.L)(e:S.store s i v= .ok (a,S') s'):dR S'.L:=by
 unfold bD.store at e
 split at e
 ·cases e;exact h
 ·split at e
  ·cases h1:S.L.append s i with
   | off t=>rw[h1] at e;cases e
   | ok x t=>
     obtain⟨x1,x2⟩:=x
     have hx:=Ax h h1
     rw[h1,aU] at e
     split at e
     ·cases e;exact hx
     ·cases h2:t.store i v with
      | off u=>rw[h2] at e;cases e
      | ok y u=>rw[h2,aU] at e;cases e;exact hx
  ·cases h2:s.store i v with
   | off u=>rw[h2] at e;cases e
   | ok y u=>rw[h2,aU] at e;cases e;exact h
theorem og{S S':bD}{s s':Dev}{i v a:Int}(e:S.store s i v= .ok (a,S') s'):S'.L.d=S.L.d∧S'.L.c=S.L.c∧S'.ff=S.ff∧S'.ft=S.ft:=by
 unfold bD.store at e
 split at e
 ·cases e;exact⟨rfl,rfl,rfl,rfl⟩
 ·split at e
  ·cases h1:S.L.append s i with
   | off t=>rw[h1] at e;cases e
   | ok x t=>
     obtain⟨x1,x2⟩:=x
     have hx:=mZ h1
     rw[h1,aU] at e
     split at e
     ·cases e;exact⟨hx.1,hx.2,rfl,rfl⟩
     ·cases h2:t.store i v with
      | off u=>rw[h2] at e;cases e
      | ok y u=>rw[h2,aU] at e;cases e;exact⟨hx.1,hx.2,rfl,rfl⟩
  ·cases h2:s.store i v with
   | off u=>rw[h2] at e;cases e
   | ok y u=>rw[h2,aU] at e;cases e;exact⟨rfl,rfl,rfl,rfl⟩
theorem x7(B:World)(H:List HP):
 ∀ w,Holds B H w→Calls Tryz.prog 264 [].toArray w (aZ B H (.bool true)):=by
 refine ak func264 aa ntmps264 aa (ac (ab (kPa aa aa (ad (ac (ac (ab (ap aa (ar call265 aa) (x8 _ _) .free aa aa ?_))))))))
 refine kPv (bu aa) aa (ad (bH aa (rfl) (aw (ac (ab (kPv (aR aa (cW _ _ _ aa aa aa)) aa (kPb (aD zeroValue39 aa) aa fun b1=>(kPs (aA (vs:=_) sizeOf39 aa aa aa aa aa) aa (ad (ac (ab ?_)))))))))))
 refine kPv (ah isAgg39 sizeOf39 aa aa) aa ?_
 refine aE aa (ar call70 aa) (dZ _ _ ⟨3,1,8⟩ gg none 0 [] (by decide) (fun _ h=>absurd h (Nat.not_lt_zero _)) SlR.nil) .free aa aa ?_
 rintro _ _ ⟨bd,pa,N,s0,hN,hf,rfl,rfl⟩
 obtain rfl:N=56:=by have:(N:Int)=56:=hN.trans (by decide);omega
 refine kPm aa aa (kPv (az aa aa) aa (kPv (az aa aa) aa (kPa aa aa (kPa aa aa (ad (aj [3,2,1,0] rfl (ac (ac (ab (kPm aa aa (kPv (bu aa) aa ?_)))))))))))
 refine ad (bH aa (rfl) (aw (ac (ab (kPm aa aa (kPv (ah isAgg39 sizeOf39 aa aa) aa ?_))))))
 refine aE aa (ar call115 aa) (rj _ _ _ _ ⟨3,1,8⟩ gg) .free aa aa ?_
 rintro _ _ ⟨bs,rfl,rfl⟩
 refine kPa aa aa (ad (aj [4,2,0] rfl (ac (ac (ab (jJ fun bl o1 o2=>(kPm aa aa (kPv (cV runUnderlying119 aa aa aa) aa (kPm aa aa (ao aa (al aa) (.on aa aa (ae aa)) aa aa (ao aa (aF aa) (.on aa aa (ae aa)) aa aa ?_)))))))))))
 refine ao aa (aC (m:=_) ix aa aa) (.on aa aa (ae aa)) aa aa (ao aa (ag isAgg141 aa aa) (.on aa aa (ae aa)) aa aa (ao aa (cV runUnderlying141 aa aa aa) (.on aa aa (ae aa)) aa aa (kPv (aJ aa aa aa) aa (ad (aj [30,4,2,0] rfl (bH aa (rfl) (aw (ac (ab (aK (H':=dV bs (⟨bP bd ⟨3,1,8⟩ s0,0,0,[],[]⟩:bD)::ax bd s0::row b1 _ 39::H) (fun w hh=>dN (S:=(⟨bP bd ⟨3,1,8⟩ s0,0,0,[],[]⟩:bD)) hh) (kt bd fun hn1 hn2 hn3=> ?_)))))))))))
 refine kPm aa aa (kPv (aR aa (wT)) aa (de aa (ar call74 aa) (jx _ _ _ _ _ _) .free aa aa ?_))
 refine kPm aa aa ?_
 refine aQ aa (ar call77 aa) (om _ _ _ (⟨bP bd ⟨3,1,8⟩ s0,0,0,[],[]⟩:bD) s0 (B8 gg) _ _) .free aa aa ?_ ?_
 rotate_left
 ·rintro _ _ ⟨s9,hm9,rfl,rfl⟩
  exact(jD (cg (wN pa bd) hf) hm9).elim
 rintro _ _ ⟨a,S1,s1,hm1,rfl,rfl⟩
 have hev:=cg (cg (wN pa bd) hf) hm1
 simp only[Bool.and_eq_true,beq_iff_eq] at hev
 obtain⟨⟨e1,e2⟩,e3⟩:=hev
 have hd:=(og hm1).1
 have hW1:lF S1:=rd (B8 gg) hn3 (show(0:Int)≤(Cfg.mk 3 1 8).active by decide) hm1 (j7 (iE gg) hm1)
 refine aK (H':=gS bs S1::ax bd s1::row b1 _ 39::H) (fun w hh=>hh) (kPa aa aa (kPa aa aa (ad (ac (ab (kPm aa aa (ap aa (ar call101 aa) (bF (q:=ax) (fun Fr=>ck _ Fr _ _ _)) .free aa aa ?_)))))))
 refine kPa aa aa (ad (aj [7,6,5,4,2,0] rfl (ac (ab (aK (H':=gS bs S1::ax S1.L.d s1::row b1 _ 39::H) (fun w hh=>by rw[hd];exact hh) (kPm aa aa ?_))))))
 refine aQ aa (ar call95 aa) (lr _ _ _ S1 s1 hW1) .free aa aa ?_ ?_
 rotate_left
 ·rintro _ _ ⟨s9,hm9,rfl,rfl⟩
  exact(jD e3 hm9).elim
 rintro _ _ ⟨S2,s2,hm2,rfl,rfl⟩
 have e4:=cg e3 hm2
 simp only[beq_iff_eq] at e4
 refine aK (H':=dV bs S2::ax bd s2::row b1 _ 39::H) (fun w hh=>by rw[hd] at hh;exact hh) (kPa aa aa (ad (ac (ab (kPm aa aa (kPv (am aa aa aa) aa (kPm aa aa ?_)))))))
 apply dS (tp:=45) (t:=42) (σ1:=[(42,_),(8,_),(7,_),(4,_),(2,_),(0,_)]) 3 rfl (aG rfl)
 ·intro hg1
  refine ao aa (al aa) (.on aa aa (ae hg1)) aa aa (ao aa (am aa aa aa) (.on aa aa (ae hg1)) aa aa (kPv (aB aa hg1 aa) aa ?_))
  exact bf aa (aG aa) (dj hg1)
 ·intro hg1
  refine ay aa (.on aa aa (ai hg1)) aa (ay aa (.on aa aa (ai hg1)) aa (kPv (aJ aa hg1 aa) aa ?_))
  exact bf aa (aG aa) (dl hg1)
 refine kPm aa aa ?_
 apply dS (tp:=49) (t:=46) (σ1:=[(46,_),(7,_),(4,_),(2,_),(0,_)]) 3 rfl (aG rfl)
 ·intro hg2
  refine ao aa (al aa) (.on aa aa (ae hg2)) aa aa (ao aa (am aa aa aa) (.on aa aa (ae hg2)) aa aa (kPv (aB aa hg2 aa) aa ?_))
  exact bf aa (aG aa) (dj hg2)
 ·intro hg2
  refine ay aa (.on aa aa (ai hg2)) aa (ay aa (.on aa aa (ai hg2)) aa (kPv (aJ aa hg2 aa) aa ?_))
  exact bf aa (aG aa) (dl hg2)
 refine kPm aa aa ?_
 apply dS (tp:=53) (t:=50) (σ1:=[(50,_),(4,_),(2,_),(0,_)]) 3 rfl (aG rfl)
 ·intro hg3
  refine ao aa (al aa) (.on aa aa (ae hg3)) aa aa (ao aa (am aa aa aa) (.on aa aa (ae hg3)) aa aa (kPv (aB aa hg3 aa) aa ?_))
  exact bf aa (aG aa) (dj hg3)
 ·intro hg3
  refine ay aa (.on aa aa (ai hg3)) aa (ay aa (.on aa aa (ai hg3)) aa (kPv (aJ aa hg3 aa) aa ?_))
  exact bf aa (aG aa) (dl hg3)
 refine kPm aa aa ?_
 apply dS (tp:=58) (t:=54) (σ1:=[(54,_),(4,_),(0,_)]) 4 rfl (aG rfl)
 ·intro hg4
  refine ao aa (al aa) (.on aa aa (ae hg4)) aa aa (ap aa (ar call101 aa) (bF (q:=ax) (fun Fr=>ck _ Fr _ _ _)) (.on aa aa (ae hg4)) aa aa ?_)
  refine ao aa (am aa aa aa) (.on aa aa (ae hg4)) aa aa (kPv (aB aa hg4 aa) aa ?_)
  exact bf aa (aG aa) (dj hg4)
 ·intro hg4
  refine ay aa (.on aa aa (ai hg4)) aa (ay aa (.on aa aa (ai hg4)) aa (ay aa (.on aa aa (ai hg4)) aa (kPv (aJ aa hg4 aa) aa ?_)))
  exact bf aa (aG aa) (dl hg4)
 refine kPm aa aa ?_
 apply dS (tp:=63) (t:=59) (σ1:=[(59,_),(0,_)]) 4 rfl ⟨rfl,rfl,trivial⟩
 ·intro hg5
  refine ao aa (al aa) (.on aa aa (ae hg5)) aa aa (ap aa (ar call72 aa) (my _ _ _ _) (.on aa aa (ae hg5)) aa aa ?_)
  refine ao aa (bu aa) (.on aa aa (ae hg5)) aa aa (kPv (aB aa hg5 aa) aa ?_)
  exact bf aa ⟨rfl,rfl,trivial⟩ (dj hg5)
 ·intro hg5
  refine ay aa (.on aa aa (ai hg5)) aa (ay aa (.on aa aa (ai hg5)) aa (ay aa (.on aa aa (ai hg5)) aa (kPv (aJ aa hg5 aa) aa ?_)))
  exact bf aa ⟨rfl,rfl,trivial⟩ (dl hg5)
 refine kPa aa aa (ad (au ?_))
 exact aq results264 aa (fun w hw=>⟨sC (by rw[e1,e2,e4];rfl),hw.tail.tail.tail⟩)
def Dev.pk(s:Dev)(x:Nat):Int:=eM s.kept s.q x
def Run{α:Type}(m:Out α)(R:Dev→Prop):Prop:=∃ a s,m= .ok a s∧R s
theorem du{α β:Type}{m:Out α}{f:α→Dev→Out β}{R Q:Dev→Prop}(h:Run m R)(g:∀ a s,R s→Run (f a s) Q):Run (m.then f) Q:=by
 obtain⟨a,s,rfl,h1⟩:=h
 exact g a s h1
structure FI(N:Nat)(D:Nat→Prop)(V:Nat→Int→Prop)(s:Dev):Prop where
 lim:s.pow.lim<0
 n:s.n=N
 p:∀ x,¬ D (x / 8)→s.pk x=s.now x
 v:∀ x y,V x y→s.now x=y
theorem oK(s:Dev)(i x:Nat):(s.up.fl i).pk x=if x / 8=i / 8 then s.now x else s.pk x:=by
 simp only[Dev.pk,Dev.fl,Dev.up,eM,upd]
 by_cases e:x / 8=i / 8
 ·rw[if_pos e,if_pos e]
  simp only
  congr 1;omega
 ·rw[if_neg e,if_neg e]
theorem y3(s:Dev)(x:Nat):s.up.fe.pk x=s.pk x:=rfl
theorem i6{N:Nat}{D:Nat→Prop}{V V':Nat→Int→Prop}{s:Dev}{i v:Int}(h:FI N D V s)(hi:0≤i∧i<N)(hv:∀ x y,V' x y→(x=i.toNat∧y=v)∨(x≠i.toNat∧V x y)):
 Run (s.store i v) (FI N (fun l=>D l∨l=i.toNat / 8) V'):=by
 refine⟨0,_,lM h.lim ⟨hi.1,by rw[h.n];exact hi.2⟩,?_⟩
 refine⟨h.lim,h.n,fun x hx=> ?_,fun x y hp=> ?_⟩
 ·have hne:x≠i.toNat:=fun e=>hx (.inr (by rw[e]))
  show s.pk x=upd s.now i.toNat v x
  simp only[upd,if_neg hne]
  exact h.p x fun hd=>hx (.inl hd)
 ·show upd s.now i.toNat v x=y
  rcases hv x y hp with ⟨e1,e2⟩ | ⟨e1,e2⟩
  ·simp only[upd,if_pos e1,e2]
  ·simp only[upd,if_neg e1];exact h.v x y e2
theorem i7{N:Nat}{D D':Nat→Prop}{V:Nat→Int→Prop}{s:Dev}{i:Int}(h:FI N D V s)(hi:0≤i∧i<N)(hD:∀ l,D l→D' l∨l=i.toNat / 8):
 Run (s.flush i) (FI N D' V):=by
 refine⟨0,_,pq h.lim ⟨hi.1,by rw[h.n];exact hi.2⟩,?_⟩
 refine⟨h.lim,h.n,fun x hx=> ?_,h.v⟩
 rw[oK]
 by_cases e:x / 8=i.toNat / 8
 ·rw[if_pos e];rfl
 ·rw[if_neg e]
  exact h.p x fun hd=>(hD _ hd).elim hx e
theorem mz{N:Nat}{D:Nat→Prop}{V:Nat→Int→Prop}{s:Dev}(h:FI N D V s):Run s.fence (fun s'=>FI N D V s'∧s'.kept=s'.pk∧s'.q=fun _=>none):=by
 refine⟨(),_,l5 h.lim,⟨h.lim,h.n,fun x hx=> ?_,h.v⟩,rfl,rfl⟩
 rw[y3];exact h.p x hx
def VZ(V:Nat→Int→Prop)(f:Int→Int)(i:Int)(k:Nat)(x:Nat)(y:Int):Prop:=(V x y∧∀ j:Int,i≤j→j<i+k→x≠(f j).toNat)∨(y=0∧∃ j:Int,i≤j∧j<i+k∧x=(f j).toNat)
theorem oB{N:Nat}{D:Nat→Prop}(f:Int→Int):∀ (k:Nat) (V:Nat→Int→Prop) (i:Int) (s:Dev),FI N D V s→(∀ j:Int,i≤j→j<i+k→0≤f j∧f j<N)→Run (ew f k i s) (FI N D (VZ V f i k))
 | 0,V,i,s,h,_=>⟨(),s,rfl,h.lim,h.n,h.p,fun x y hv=>by
   rcases hv with ⟨h1,_⟩ | ⟨_,j,h1,h2,_⟩
   ·exact h.v x y h1
   ·omega⟩
 | k+1,V,i,s,h,hf=>by
   have hfi:=hf i (Int.le_refl _) (by omega)
   refine du (i6 (V':=fun x y=>(V x y∧x≠(f i).toNat)∨(y=0∧x=(f i).toNat)) h hfi fun x y hp=> ?_) fun _ s1 h1=>du (i7 (D':=D) h1 hfi fun l hl=>hl) fun _ s2 h2=> ?_
   ·rcases hp with ⟨h1,h2⟩ | ⟨h1,h2⟩
    ·exact .inr ⟨h2,h1⟩
    ·exact .inl ⟨h2,h1⟩
   ·obtain⟨a,s3,e,h3⟩:=oB f k _ (i+1) s2 h2 (fun j h3 h4=>hf j (by omega) (by omega))
    refine⟨a,s3,e,h3.lim,h3.n,h3.p,fun x y hv=>h3.v x y ?_⟩
    rcases hv with ⟨g1,g2⟩ | ⟨g1,j,g2,g3,g4⟩
    ·exact .inl ⟨.inl ⟨g1,g2 i (by omega) (by omega)⟩,fun j h5 h6=>g2 j (by omega) (by omega)⟩
    ·by_cases hx:∃ j:Int,i+1≤j∧j<i+1+k∧x=(f j).toNat
     ·exact .inr ⟨g1,hx⟩
     ·refine .inl ⟨.inr ⟨g1,?_⟩,fun j' h5 h6 h7=>hx ⟨j',h5,h6,h7⟩⟩
      by_cases hj:j=i
      ·rw[g4,hj]
      ·exact absurd ⟨j,by omega,by omega,g4⟩ hx
theorem vH{N:Nat}(l:List Int)(hN:40≤N):∀ (k i:Nat) (V:Nat→Int→Prop) (s:Dev),i+k≤3→FI N (fun l=>l=0) V s→Run (st3 l k i s) (FI N (fun l=>l=0) (fun x y=>(V x y∧(x<1+i∨1+i+k≤x))∨(1+i≤x∧x<1+i+k∧y=l.getD (x - 1) 0)))
 | 0,i,V,s,_,h=>⟨(),s,rfl,h.lim,h.n,h.p,fun x y hv=>by
   rcases hv with ⟨h1,_⟩ | ⟨h1,h2,_⟩
   ·exact h.v x y h1
   ·omega⟩
 | k+1,i,V,s,hk,h=>by
   refine du (i6 (V':=fun x y=>(V x y∧x≠1+i)∨(x=1+i∧y=l.getD i 0)) h ⟨by omega,by omega⟩ fun x y hp=> ?_) fun _ s1 h1=> ?_
   ·have e:(1+(i:Int)).toNat=1+i:=by omega
    rw[e]
    rcases hp with ⟨h1,h2⟩ | ⟨h1,h2⟩
    ·exact .inr ⟨h2,h1⟩
    ·exact .inl ⟨h1,h2⟩
   ·obtain⟨a,s3,e,h3⟩:=vH l hN k (i+1) _ s1 (by omega) ⟨h1.lim,h1.n,fun x hx=>h1.p x fun hd=>by
     rcases hd with h2 | h2
     ·exact hx h2
     ·exact hx (by rw[h2];omega),h1.v⟩
    refine⟨a,s3,e,h3.lim,h3.n,h3.p,fun x y hv=>h3.v x y ?_⟩
    rcases hv with ⟨g1,g2⟩ | ⟨g1,g2,g3⟩
    ·exact .inl ⟨.inl ⟨g1,by omega⟩,by omega⟩
    ·by_cases hx:x=1+i
     ·exact .inl ⟨.inr ⟨hx,by rw[g3,hx];congr 1;omega⟩,by omega⟩
     ·exact .inr ⟨by omega,by omega,g3⟩
theorem FI.weak{N:Nat}{D D':Nat→Prop}{V V':Nat→Int→Prop}{s:Dev}(h:FI N D V s)(hD:∀ l,D l→D' l)(hv:∀ x y,V' x y→V x y):FI N D' V' s:=⟨h.lim,h.n,fun x hx=>h.p x fun hd=>hx (hD _ hd),fun x y hp=>h.v x y (hv x y hp)⟩
structure AH(s:Dev):Prop where
 kept:s.kept=s.now
 q:s.q=fun _=>none
structure Cg(c:Cfg)(s:Dev):Prop where
 ep:s.now 8=1
 recs:∀ k:Nat,(k:Int)<c.log→s.now (16+4*k)=0
 block:∀ x:Nat,c.active≤x→x<c.root c.roots→s.now x=0
 magic:s.now 0=gv
 cfg:s.now 1=c.log∧s.now 2=c.roots∧s.now 3=c.space
theorem uV{s:Dev}{c:Cfg}{N:Nat}(hc:bx c)(hn:(s.n:Int)=c.words)(hN:s.n=N)(hl:s.pow.lim<0)(hs:AH s):Run (s.format c) (fun s'=>AH s'∧s'.pow.lim<0∧s'.n=N∧Cg c s'):=by
 have hw:=words_b hc
 have hact:=hc.act
 have:=hc.r1;have:=hc.r2;have:=hc.l1;have:=hc.l2;have:=hc.s1;have:=hc.s2
 have hroot:c.active≤c.root c.roots∧c.root c.roots≤c.words:=by
  have h1:=gb (n:=c.root c.roots) (by simp only[Cfg.root];omega)
  have h2:=gb (n:=c.space) (by omega)
  refine⟨by simp only[Cfg.root];omega,?_⟩
  simp only[Cfg.words,Cfg.frm]
  omega
 have hN40:40≤N:=by omega
 have h0:FI N (fun _=>False) (fun _ _=>False) s:=⟨hl,hN,fun x _=>by rw[Dev.pk,hs.q];show s.kept x=_;rw[hs.kept],fun _ _ h=>h.elim⟩
 unfold Dev.format
 rw[if_neg (cJ hc hn)]
 refine du (i6 (V':=fun _ _=>False) h0 ⟨by omega,by omega⟩ fun _ _ h=>h.elim) fun _ s1 h1=> ?_
 refine du (i7 (D':=fun _=>False) h1 ⟨by omega,by omega⟩ fun l hl=>hl) fun _ s2 h2=> ?_
 refine du (mz h2) fun _ s3 h3=> ?_
 refine du (vH _ hN40 3 0 _ s3 (by omega) (h3.1.weak (V':=fun _ _=>False) (fun _ h=>h.elim) fun _ _ h=>h)) fun _ s4 h4=> ?_
 refine du (i6 (V':=fun x y=>(x=8∧y=1)∨(x=1∧y=c.log)∨(x=2∧y=c.roots)∨(x=3∧y=c.space)) h4 ⟨by omega,by omega⟩ fun x y hp=> ?_) fun _ s5 h5=> ?_
 ·rcases hp with ⟨e1,e2⟩ | ⟨e1,e2⟩ | ⟨e1,e2⟩ | ⟨e1,e2⟩
  ·exact .inl ⟨e1,e2⟩
  ·exact .inr ⟨by rw[e1];decide,.inr ⟨by omega,by omega,by rw[e2,e1];rfl⟩⟩
  ·exact .inr ⟨by rw[e1];decide,.inr ⟨by omega,by omega,by rw[e2,e1];rfl⟩⟩
  ·exact .inr ⟨by rw[e1];decide,.inr ⟨by omega,by omega,by rw[e2,e1];rfl⟩⟩
 refine du (i7 (D':=fun l=>l=0) h5 ⟨by omega,by omega⟩ fun l hl=>hl) fun _ s6 h6=> ?_
 refine du (oB c.record c.log.toNat _ 0 s6 h6 fun j h3 h4=>⟨by simp only[Cfg.record];omega,by simp only[Cfg.record];omega⟩) fun _ s7 h7=> ?_
 refine du (oB id (c.root c.roots - c.active).toNat _ c.active s7 h7 fun j h3 h4=>⟨by simp only[id];omega,by simp only[id];omega⟩) fun _ s8 h8=> ?_
 refine du (i7 (D':=fun _=>False) h8 ⟨by omega,by omega⟩ fun l hl=> .inr (by simpa using hl)) fun _ s9 h9=> ?_
 refine du (mz h9) fun _ s10 h10=> ?_
 have hold:∀ x y,x≠0→VZ (VZ (fun x y=>(x=8∧y=1)∨(x=1∧y=c.log)∨(x=2∧y=c.roots)∨(x=3∧y=c.space)) c.record 0 c.log.toNat) id c.active (c.root c.roots - c.active).toNat x y→True:=fun _ _ _ _=>trivial
 refine du (i6 (V':=fun x y=>(x=0∧y=gv)∨(x≠0∧VZ (VZ (fun x y=>(x=8∧y=1)∨(x=1∧y=c.log)∨(x=2∧y=c.roots)∨(x=3∧y=c.space)) c.record 0 c.log.toNat) id c.active (c.root c.roots - c.active).toNat x y)) h10.1 ⟨by omega,by omega⟩ fun x y hp=> ?_) fun _ s11 h11=> ?_
 ·rcases hp with ⟨e1,e2⟩ | ⟨e1,e2⟩
  ·exact .inl ⟨e1,e2⟩
  ·exact .inr ⟨e1,e2⟩
 refine du (i7 (D':=fun _=>False) h11 ⟨by omega,by omega⟩ fun l hl=>hl) fun _ s12 h12=> ?_
 refine du (mz h12) fun _ s13 h13=> ?_
 have hkeep:∀ x y,x≠0→x<16→((x=8∧y=1)∨(x=1∧y=c.log)∨(x=2∧y=c.roots)∨(x=3∧y=c.space))→s13.now x=y:=fun x y h1 h2 h3=>h13.1.v x y (.inr ⟨h1,.inl ⟨.inl ⟨h3,fun j _ _=>by simp only[Cfg.record];omega⟩,fun j _ _=>by simp only[id];omega⟩⟩)
 refine⟨0,s13,rfl,⟨?_,h13.2.2⟩,h13.1.lim,h13.1.n,hkeep 8 1 (by decide) (by decide) (.inl ⟨rfl,rfl⟩),fun k hk=> ?_,fun x hx1 hx2=> ?_,h13.1.v 0 _ (.inl ⟨rfl,rfl⟩),hkeep 1 _ (by decide) (by decide) (.inr (.inl ⟨rfl,rfl⟩)),hkeep 2 _ (by decide) (by decide) (.inr (.inr (.inl ⟨rfl,rfl⟩))),hkeep 3 _ (by decide) (by decide) (.inr (.inr (.inr ⟨rfl,rfl⟩)))⟩
 ·rw[h13.2.1];funext x;exact h13.1.p x (fun h=>h)
 ·exact h13.1.v _ _ (.inr ⟨by omega,.inl ⟨.inr ⟨rfl,k,by omega,by omega,by simp only[Cfg.record];omega⟩,fun j h1 _=>by simp only[id];omega⟩⟩)
 ·exact h13.1.v _ _ (.inr ⟨by omega,.inr ⟨rfl,x,by omega,by omega,by simp⟩⟩)
structure Fmt(c:Cfg)(N:Nat)(s:Dev):Prop where
 calm:AH s
 lim:s.pow.lim<0
 n:s.n=N
 log:∀ d,bP d c s=⟨d,c,1,0⟩
 ep:s.now 8=1∧s.now 16=0
 st:Cg c s
theorem uH{s:Dev}{c:Cfg}{e:Int}(h:s.load (c.record 0)≠gp e 0):∀ f,gK s c e f 0=0
 | 0=>rfl
 | f+1=>by simp only[gK];rw[if_neg h]
theorem mN{pa N:Nat}{xs:List Int}{c:Cfg}{s:Dev}(hc:bx c)(hN:(N:Int)=c.words)(h:(iU pa xs N).format c= .ok 0 s):Fmt c N s:=by
 have hw:=words_b hc
 obtain⟨a,t,e,h1,h2,h3,hst⟩:=uV (s:=iU pa xs N) hc hN rfl (show(-1:Int)<0 by decide) ⟨rfl,rfl⟩
 rw[h] at e;cases e
 have h3:s.n=N:=h3
 have h4:=hst.ep
 have h5:s.now 16=0:=hst.recs 0 (by have:=hc.l1;have:=hc.r1;omega)
 refine⟨h1,h2,h3,fun d=> ?_,⟨h4,h5⟩,hst⟩
 have e8:s.load 8=1:=by
  have:s.has 8=true:=by simp[Dev.has,h3];omega
  simp[Dev.load,this,h4]
 have e16:s.load (c.record 0)=0:=by
  have:s.has 16=true:=by simp[Dev.has,h3];omega
  show s.load 16=0
  simp[Dev.load,this,h5]
 unfold bP
 rw[e8]
 have:gK s c (1%4294967296) c.log.toNat 0=0:=uH (by rw[e16];decide) _
 rw[this];rfl
structure Blk where
 act:Int
 used:Int
 rts:List Int
def U64(s:Dev):Prop:=∀ x,0≤s.now x∧s.now x<18446744073709551616
theorem U64.load{s:Dev}(h:U64 s)(i:Int):0≤s.load i∧s.load i<18446744073709551616:=by
 unfold Dev.load
 split
 ·exact h _
 ·omega
def Dev.block(s:Dev)(c:Cfg):Blk×Int:=
 if 1<s.load c.active∨c.space<s.load (c.active+1) then (⟨0,0,[]⟩,10)
 else (⟨s.load c.active,s.load (c.active+1),tab c.roots.toNat fun i=>s.load (c.root i)⟩,0)
structure fU(c:Cfg)(b:Blk):Prop where
 act:0≤b.act∧b.act≤1
 used:0≤b.used∧b.used≤c.space
theorem dB{s:Dev}{c:Cfg}(hc:bx c)(hu:U64 s):fU c (s.block c).1:=by
 have h1:=hu.load c.active
 have h2:=hu.load (c.active+1)
 have:=hc.s1
 unfold Dev.block
 split
 ·exact⟨⟨by decide,by decide⟩,⟨by decide,by show(0:Int)≤c.space;omega⟩⟩
 ·rename_i h
  exact⟨⟨by simp only;omega,by simp only;omega⟩,⟨by simp only;omega,by simp only;omega⟩⟩
def Blk.place(b:Blk)(c:Cfg)(i:Int):Int:=c.frm b.act+i
def Blk.has(b:Blk)(c:Cfg)(w:Int):Bool:=decide (c.frm b.act≤w)&&decide (w - c.frm b.act<b.used)
abbrev dq:=Int×Int×Int
def Dev.objOf(s:Dev)(c:Cfg)(b:Blk)(at_:Int):dq×Int:=
 if at_<0∨b.has c at_=false then ((0,0,0),6)
 else if (unp (s.load at_)).2.2=false∨b.place c b.used - at_<(unp (s.load at_)).1+1 then ((0,0,0),8)
 else (((unp (s.load at_)).1,(unp (s.load at_)).2.1,at_),0)
def bK(o:dq)(i:Int)(ref:Bool):Int×Int:=
 if i<0∨o.1≤i then (0,1) else if decide (i<o.2.1)≠ref then (0,5) else (o.2.2+1+i,0)
def Dev.objRead(s:Dev)(o:dq)(i:Int):Int×Int:=if (bK o i false).2≠0 then (0,(bK o i false).2) else (s.load (bK o i false).1,0)
def Dev.objRef(s:Dev)(o:dq)(i:Int):Int×Int:=if (bK o i true).2≠0 then (0,(bK o i true).2) else (IntKind.i64.wrap (s.load (bK o i true).1),0)
def Dev.objNames(s:Dev)(o:dq):Nat→Int→List (Int×Int)
 | 0,_=>[]
 | f+1,k=>if IntKind.i64.wrap (s.load (o.2.2+1+k))≠0 then (k,IntKind.i64.wrap (s.load (o.2.2+1+k)))::s.objNames o f (k+1) else s.objNames o f (k+1)
def Dev.objs(s:Dev)(c:Cfg)(b:Blk):Nat→Int→List (dq×Int)
 | 0,_=>[]
 | f+1,at_=>if b.place c b.used≤at_ then [] else
   if (s.objOf c b at_).2≠0 then [((0,0,at_),(s.objOf c b at_).2)]
   else s.objOf c b at_::s.objs c b f (at_+((s.objOf c b at_).1.1+1))
theorem iI{c:Cfg}(hc:bx c){k:Int}(hk:0≤k∧k≤2):24<c.frm k∧c.frm k+(2 - k)*c.space≤c.words∧c.words≤20000∧c.active+2+c.roots≤c.frm k∧c.frm k≤c.words:=by
 have h1:=hc.act
 have h2:=words_b hc
 have:=hc.r1;have:=hc.r2;have:=hc.l1;have:=hc.l2;have:=hc.s1;have:=hc.s2
 have h3:=gb (n:=c.root c.roots) (by simp only[Cfg.root];omega)
 have h4:=gb (n:=c.space) (by omega)
 simp only[Cfg.words,Cfg.frm,Cfg.root] at*
 rcases (by omega:k=0∨k=1∨k=2) with rfl | rfl | rfl<;>omega
theorem kJ{c:Cfg}{b:Blk}(hc:bx c)(hb:fU c b){w:Int}(h:b.has c w=true):c.frm b.act≤w∧w<c.frm b.act+b.used∧w<20000∧24<w:=by
 have h1:=hb.act
 have h2:=hb.used
 have h3:=iI hc (k:=b.act) (by omega)
 have:=hc.s1
 unfold Blk.has at h
 simp only[Bool.and_eq_true,decide_eq_true_eq] at h
 rcases (by omega:b.act=0∨b.act=1) with e | e<;>(rw[e] at h h3 ⊢;omega)
def mkC(l r s:Int):Cfg:=⟨1+r%6+2+l%12,1+r%6,8+s%90⟩
theorem vT{l r s:Int}(hl:0≤l)(hr:0≤r)(hs:0≤s):bx (mkC l r s):=⟨by simp only[mkC];omega,by simp only[mkC];omega,by simp only[mkC];omega,by simp only[mkC];omega,by simp only[mkC];omega,by simp only[mkC];omega⟩
abbrev u16(x:Int):Value:= .int .u16 x
theorem lQ{a:Int}(k:Int)(h:0≤a):a.tmod k=a%k:=Int.tmod_eq_emod_of_nonneg h
theorem vU(B:World)(H:List HP)(l r s:Int)(hl:0≤l)(hr:0≤r)(hs:0≤s):
 ∀ w,Holds B H w→Calls Tryz.prog 24 [.agg #[u16 l,u16 r,u16 s]].toArray w (aZ B H (dU (mkC l r s))):=by
 refine ak func24 aa ntmps24 aa (ac (ab (kPb (aY aa) aa fun b1=>(kPb (aD zeroValue39 aa) aa fun b2=>(ad (ac (ab (kPl BG isAgg46 aa aa aa aa (kPv (et (c:=r%6) aa aa (by decide) (lQ 6 (by omega))) aa (kPv (bY runUnderlying46 runUnderlying3 aa) aa (kPv (aP aa aa) aa ?_)))))))))))
 refine kPa aa aa (ad (ac (ab (kPm aa aa (kPm aa aa (kPv (aP aa aa) aa (kPl BH isAgg46 aa aa aa aa (kPv (et (c:=l%12) aa aa (by decide) (lQ 12 (by omega))) aa (kPv (bY runUnderlying46 runUnderlying3 aa) aa (kPv (aP aa aa) aa (kPl BF isAgg46 aa aa aa aa ?_)))))))))))
 refine kPv (et (c:=s%90) aa aa (by decide) (lQ 90 (by omega))) aa (kPv (bY runUnderlying46 runUnderlying3 aa) aa (kPv (aP aa aa) aa (kPv (aR aa (rS _ _ _ aa aa aa)) aa (kPs (aA (vs:=_) sizeOf39 aa aa aa aa aa) aa (ad (aj [2] rfl (au ?_)))))))
 exact qg results24 (.cellA aa isAgg39 sizeOf39 aa aa) (fun w hw=>⟨rfl,hw.tail.tail⟩)
theorem Ab(B:World)(H:List HP)(q1 q2:Option Addr)(c1 c2:Nat)(xs ys:List Int)(hx:xs.length≤1000000)(hy:ys.length≤1000000)(h1:∀ i,i<xs.length→∃ b off,q1=some ⟨b,off,none⟩)(h2:∀ i,i<ys.length→∃ b off,q2=some ⟨b,off,none⟩)(r1:SlR B H (.slice q1 xs.length c1) (xs.map w64))(r2:SlR B H (.slice q2 ys.length c2) (ys.map w64)):
 ∀ w,Holds B H w→Calls Tryz.prog 20 [.slice q1 xs.length c1,.slice q2 ys.length c2].toArray w (aZ B H (.bool (decide (xs=ys)))):=by
 refine ak func20 aa ntmps20 aa (ac (ab (kPa aa aa (ad (ac (ac (ab (kPm aa aa (kPv (bS aa runUnderlying22 ⟨_,rfl⟩ rfl) aa (kPm aa aa (kPv (bS aa runUnderlying22 ⟨_,rfl⟩ rfl) aa ?_)))))))))))
 refine kPv (am aa aa aa) aa (ad ?_)
 refine aV aa (fun h10=> ?_) (fun h10=> ?_)
 ·have hne:xs.length≠ys.length:=by intro e;rw[e] at h10;simp at h10
  refine ac (ab (kPa aa aa (ad (au ?_))))
  exact aq results20 aa (fun w hw=>⟨by rw[decide_eq_false (fun e=>hne (by rw[e]))],hw⟩)
 ·have hle:xs.length=ys.length:=by simp at h10;omega
  refine aw (ac (ac (ab (kPm aa aa (kPv (bS aa runUnderlying22 ⟨_,rfl⟩ rfl) aa (kPm aa aa (ad (aI (dF (ι:=Nat) (fun k=>k≤xs.length∧∀ j,j<k→xs[j]? =ys[j]?) (fun k=>[(0,.slice q1 xs.length c1),(1,.slice q2 ys.length c2),(4,.bool false),(12,i64 xs.length),(13,i64 k)]) (fun _=>H) (fun k=>xs.length - k) 0 ⟨Nat.zero_le _,fun j h=>absurd h (Nat.not_lt_zero _)⟩ (fun a w st=>st.to ⟨rfl,rfl,rfl,rfl,rfl,trivial⟩ id) ?_)))))))))
  rintro k ⟨hk1,hk2⟩
  refine ac (ab (kPv (am aa aa aa) aa (ad (ac ?_))))
  refine aV aa (fun h14=> ?_) (fun h14=> ?_)
  ·have hk:k<xs.length:=by simp at h14;omega
   refine aw (ac (aI (ac (ab (kPm aa aa (kPa aa aa (ad (aj [5,13,12,4,0,1] rfl (ac (cN Tryz.mixed (by kernel_rfl) (by kernel_rfl) ?_))))))))))
   obtain⟨b1,o1,rfl⟩:=h1 k hk
   obtain⟨b2,o2,rfl⟩:=h2 k (by omega)
   refine kQm aa aa (kQm aa aa (kQv (cC runUnderlying22 sizeOf24 aa aa (by omega) (by omega)) aa ?_))
   refine kQv (cf (v:=w64 xs[k]) isAgg24 r1 aa (by rw[Int.toNat_natCast,List.getElem?_map,List.getElem?_eq_getElem hk];rfl)) aa ?_
   refine kQm aa aa (kQm aa aa (kQv (cC runUnderlying22 sizeOf24 aa aa (by omega) (by omega)) aa ?_))
   refine kQv (cf (v:=w64 (ys[k]'(by omega))) isAgg24 r2 aa (by rw[Int.toNat_natCast,List.getElem?_map,List.getElem?_eq_getElem (by omega)];rfl)) aa ?_
   refine kQv (am aa aa aa) aa (bM (aj [24,13,12,4,0,1] rfl ?_))
   refine aV aa (fun h24=> ?_) (fun h24=> ?_)
   ·have hkk:xs[k]? ≠ys[k]? :=by
     rw[List.getElem?_eq_getElem hk,List.getElem?_eq_getElem (by omega)]
     simpa using h24
    refine ac (ab (kPa aa aa (ad (au ?_))))
    exact aq results20 aa (fun w hw=>⟨by rw[decide_eq_false (fun e=>hkk (by rw[e]))],hw⟩)
   ·have hkk:xs[k]? =ys[k]? :=by
     rw[List.getElem?_eq_getElem hk,List.getElem?_eq_getElem (by omega)]
     simpa using h24
    refine aw (ab (kPv (aP aa aa) aa (kPm aa aa (ad ?_))))
    exact fun a w st=>⟨k+1,⟨by omega,fun j hj=>by
     rcases Nat.lt_succ_iff_lt_or_eq.1 hj with h | h
     ·exact hk2 j h
     ·subst h;exact hkk⟩,by omega,st.to ⟨rfl,rfl,rfl,rfl,rfl,trivial⟩ id⟩
  ·have hk:¬ k<xs.length:=by simp at h14;omega
   refine bJ (ac (ab (kPa aa aa (ad (aj [4] rfl (au ?_))))))
   exact aq results20 aa (fun w hw=>⟨by
   have e:xs=ys:=List.ext_getElem? fun j=>by
    by_cases hj:j<k
    ·exact hk2 j hj
    ·rw[List.getElem?_eq_none (by omega),List.getElem?_eq_none (by omega)]
   rw[decide_eq_true e],hw⟩)
theorem zj(B:World)(H:List HP)(l r s:Int)(c:Cfg)(hc:c=mkC l r s)(hl:0≤l)(hr:0≤r)(hs:0≤s):∀ w,Holds B H w→Calls Tryz.prog 24 [.agg #[u16 l,u16 r,u16 s]].toArray w (aZ B H (dU c)):=by subst hc;exact vU B H l r s hl hr hs
abbrev da(b:Nat)(x:Value×List Int):HP:=dQ 24 w64 b x
theorem eB{a b:Int}{sv:Value}(h:aN sv=true):([i64 a,i64 b,sv]:List Value).all aN=true:=by
 simp only[List.all_cons,List.all_nil,h];rfl
theorem D1{v f:Int}(h:decide (v≥f)=true)(h1:0≤f)(h2:v<18446744073709551616):IntKind.u64.wrap (v - f)=v - f:=by
 have h9:f≤v:=by simpa using h
 exact fk (by omega)
abbrev lC(b:Blk)(sv:Value):Value:= .agg #[i64 b.act,i64 b.used,sv]
theorem ik(B:World)(H:List HP)(c:Cfg)(hc:bx c)(b:Blk)(sv:Value)(hb:fU c b)(hsv:aN sv=true)(i:Int)(hi: -1000000000000≤i∧i≤1000000000000):
 ∀ w,Holds B H w→Calls Tryz.prog 136 [lC b sv,dU c,i64 i].toArray w (aZ B H (i64 (b.place c i))):=by
 refine ak func136 aa ntmps136 aa ?_
 have hb1:=hb.act
 have hb2:=hb.used
 have hfb:=iI hc (k:=b.act) (by omega)
 have hcs:=hc.s2
 refine ac (ab (kPb (aY aa) aa fun b3=>(kPb (aY aa) aa fun b4=>(kPa aa aa (ad (ac (ab (kPv (ah isAgg39 sizeOf39 aa aa) aa ?_))))))))
 refine kPl iy isAgg3 aa aa aa aa (ap aa (ar call67 aa) (jL _ _ c hc b.act hb.act.1 (by have:=hb.act.2;omega)) .free aa aa ?_)
 refine kPm aa aa (kPv (aP aa aa) aa (kPa aa aa (ad (aj [6] rfl (au ?_)))))
 exact aq results136 aa (fun w hh=>⟨rfl,hh.tail.tail⟩)
theorem pj(B:World)(H:List HP)(c:Cfg)(hc:bx c)(b:Blk)(sv:Value)(hb:fU c b)(hsv:aN sv=true)(v:Int)(hv:0≤v∧v<18446744073709551616):
 ∀ w,Holds B H w→Calls Tryz.prog 98 [lC b sv,dU c,w64 v].toArray w (aZ B H (.bool (b.has c v))):=by
 refine ak func98 aa ntmps98 aa ?_
 have hb1:=hb.act
 have hb2:=hb.used
 have hfb:=iI hc (k:=b.act) (by omega)
 have hcs:=hc.s2
 refine ac (ab (kPb (aY aa) aa fun b3=>(kPb (aY aa) aa fun b4=>(kPa aa aa (ad (ac (ab (kPv (ah isAgg39 sizeOf39 aa aa) aa ?_))))))))
 refine kPl iy isAgg3 aa aa aa aa (ap aa (ar call67 aa) (jL _ _ c hc b.act hb.act.1 (by have:=hb.act.2;omega)) .free aa aa ?_)
 refine kPv (bY runUnderlying3 runUnderlying24 aa) aa (kPa aa aa (ad (aj [7,6,3,2] rfl (ac (ab (kPm aa aa (kPm aa aa (kPv (am aa aa aa) aa (kPm aa aa ?_)))))))))
 apply dS (tp:=24) (t:=16) (σ1:=[(16,_),(6,_)]) 8 rfl ⟨rfl,rfl,trivial⟩
 ·intro hg1
  refine ao aa (al aa) (.on aa aa (ae hg1)) aa aa (ao aa (al aa) (.on aa aa (ae hg1)) aa aa (ao aa (mP (c:=v - c.frm b.act) aa aa (D1 hg1 (by omega) (by omega))) (.on aa aa (ae hg1)) aa aa (ao aa (aC (m:=_) dM aa aa) (.on aa aa (ae hg1)) aa aa (ao aa (ag isAgg3 aa aa) (.on aa aa (ae hg1)) aa aa (ao aa (bY runUnderlying3 runUnderlying24 aa) (.on aa aa (ae hg1)) aa aa (ao aa (am aa aa aa) (.on aa aa (ae hg1)) aa aa (kPv (aB aa hg1 aa) aa ?_)))))))
  exact bf aa ⟨rfl,rfl,trivial⟩ (dj hg1)
 ·intro hg1
  refine ay aa (.on aa aa (ai hg1)) aa (ay aa (.on aa aa (ai hg1)) aa (ay aa (.on aa aa (ai hg1)) aa (ay aa (.on aa aa (ai hg1)) aa (ay aa (.on aa aa (ai hg1)) aa (ay aa (.on aa aa (ai hg1)) aa (ay aa (.on aa aa (ai hg1)) aa (kPv (aJ aa hg1 aa) aa ?_)))))))
  exact bf aa ⟨rfl,rfl,trivial⟩ (dl hg1)
 refine kPa aa aa (ad (au ?_))
 exact aq results98 aa (fun w hh=>⟨by rfl,hh.tail.tail⟩)
theorem yt{α:Type}{n:Nat}{f:Nat→α}:tab (n+1) f=tab n f++[f n]:=by simp[tab,List.range_succ]
theorem AB{c:Cfg}(hc:bx c):24≤c.active∧c.active+2+c.roots≤c.words∧c.words≤20000:=by
 have h1:=iI hc (k:=0) (by decide)
 have h2:=hc.act
 have:=hc.r1
 have:=hc.l1
 omega
theorem fX(B:World)(Fr:List HP)(bd:Nat)(s:Dev)(c:Cfg)(hc:bx c)(hu:U64 s):
 ∀ w,Holds B (ax bd s::Fr) w→Calls Tryz.prog 135 [ptr bd,dU c].toArray w (Ret B (fun rv H'=>∃ sv,aN sv=true∧rv= .tuple #[lC (s.block c).1 sv,i64 (s.block c).2]∧H'=da 0 (sv,(s.block c).1.rts)::ax bd s::Fr) (fun _ _=>False)):=by
 refine ak func135 aa ntmps135 aa ?_
 obtain⟨hA1,hA2,hA3⟩:=AB hc
 have hl1:=hu.load c.active
 have hl2:=hu.load (c.active+1)
 have hr1:=hc.r1
 have hr2:=hc.r2
 have hs2:=hc.s2
 have hs1:=hc.s1
 obtain⟨nr,hnr⟩:∃ nr:Nat,(nr:Int)=c.roots:=⟨c.roots.toNat,by omega⟩
 have hnr2:c.roots.toNat=nr:=by omega
 refine ac (ab (kPb (aY aa) aa fun b3=>(kPb (aD zeroValue125 aa) aa fun b4=>(kPa aa aa (ad (ac (cN Tryz.mixed (by kernel_rfl) (by kernel_rfl) ?_)))))))
 refine kQm aa aa (kQv (ah isAgg39 sizeOf39 aa aa) aa ?_)
 refine bj aa (ar call108 aa) (fS _ _ c hc) .free aa ?_
 refine bj aa (ar call101 aa) (bF (q:=ax) (fun Fr=>ck _ Fr _ _ _)) .free aa ?_
 refine kQm aa aa (kQv (ah isAgg39 sizeOf39 aa aa) aa ?_)
 refine bj aa (ar call139 aa) (tN _ _ c hc) .free aa ?_
 refine bj aa (ar call101 aa) (bF (q:=ax) (fun Fr=>ck _ Fr _ _ _)) .free aa ?_
 refine kQa aa aa (kQa aa aa (bM (aj [7,6,5,4,3,0] rfl (ac (ac (ab (kPm aa aa (kPv (am aa aa aa) aa (kPm aa aa ?_)))))))))
 apply gJ (tp:=26) (t:=20) (σ1:=[(20,_),(7,_),(6,_),(5,_),(4,_),(3,_),(0,_)]) 6 rfl (aG rfl)
 ·intro hg1
  refine ao aa (al aa) (.on aa aa (ae hg1)) aa aa (ao aa (aC (m:=_) gD aa aa) (.on aa aa (ae hg1)) aa aa (ao aa (ag isAgg3 aa aa) (.on aa aa (ae hg1)) aa aa (ao aa (bY runUnderlying3 runUnderlying24 aa) (.on aa aa (ae hg1)) aa aa (ao aa (am aa aa aa) (.on aa aa (ae hg1)) aa aa (kPv (aJ aa hg1 aa) aa ?_)))))
  exact bf aa (aG aa) (ga hg1)
 ·intro hg1
  refine ay aa (.on aa aa (ai hg1)) aa (ay aa (.on aa aa (ai hg1)) aa (ay aa (.on aa aa (ai hg1)) aa (ay aa (.on aa aa (ai hg1)) aa (ay aa (.on aa aa (ai hg1)) aa (kPv (aB aa hg1 aa) aa ?_)))))
  exact bf aa (aG aa) (f9 hg1)
 refine ad ?_
 refine aV aa (fun h26=> ?_) (fun h26=> ?_)
 ·have hbad:1<s.load c.active∨c.space<s.load (c.active+1):=by simpa using h26
  have hblk:s.block c=(⟨0,0,[]⟩,10):=by unfold Dev.block;rw[if_pos hbad]
  refine ac (ab (kPv (aR aa (BU)) aa ?_))
  refine kPs (aA (vs:=_) sizeOf125 aa aa aa (by first | rfl | exact eB (by assumption)) rfl) rfl ?_;refine kPa aa aa ?_;refine ad ?_;refine au ?_
  exact fY results135 (.cellA aa isAgg125 sizeOf125 aa aa) (.tmp aa) (fun w hh=>⟨_,⟨.slice none 0 0,rfl,by rw[hblk];rfl,rfl⟩,by rw[hblk];exact fE hh.tail.tail⟩)
 ·have hgd:¬(1<s.load c.active∨c.space<s.load (c.active+1)):=by simpa using h26
  have hblk:s.block c=(⟨s.load c.active,s.load (c.active+1),tab nr fun i=>s.load (c.root i)⟩,0):=by unfold Dev.block;rw[if_neg hgd,hnr2]
  refine aw (ac (ab (kPm aa aa (kPv (bY runUnderlying24 runUnderlying3 aa) aa (kPm aa aa (kPv (bY runUnderlying24 runUnderlying3 aa) aa (kPv (aR aa (nD _ _ aa aa)) aa (kPb (aD zeroValue125 aa) aa fun b8=> ?_))))))))
  refine kPs (aA (vs:=_) sizeOf125 aa aa aa (by first | rfl | exact eB (by assumption)) rfl) rfl ?_
  refine ad (aj [8,5,4,3,0] rfl (ac (ac (ab (kPl gc isAgg3 aa aa aa aa (kPm aa aa (ad (aI (dF (ι:=Nat×Value) (fun i=>i.1≤nr∧aN i.2=true) (fun i=>[(0,ptr bd),(3,ptr b3),(4,ptr b4),(5,i64 0),(8,ptr b8),(34,i64 c.roots),(35,i64 i.1)]) (fun i=>da 0 (i.2,tab i.1 fun j=>s.load (c.root j))::row b8 [i64 (s.load c.active),i64 (s.load (c.active+1)),i.2] 125::row b4 [i64 0,i64 0,.slice none 0 0] 125::row b3 [i64 c.log,i64 c.roots,i64 c.space] 39::ax bd s::Fr) (fun i=>nr - i.1) (0,.slice none 0 0) ⟨Nat.zero_le _,rfl⟩ (fun a w st=>st.to ⟨rfl,rfl,rfl,rfl,rfl,rfl,rfl,trivial⟩ (fun hh=>fE hh)) ?_)))))))))
  rintro⟨k,sv⟩ ⟨hk0,hsv⟩
  simp only at hk0 hsv ⊢
  refine ac (ab (kPv (am aa aa aa) aa (ad (ac ?_))))
  refine aV aa (fun h36=> ?_) (fun h36=> ?_)
  ·have hk:k<nr:=by simp at h36;omega
   refine aw (ac (aI (ac (ab (kPm aa aa (kPa aa aa (ad (cQ [0,1,2,3,4,5,6,7,8,9,10] [5,6,7,8,10] [0,1,2] [5,6,7] [row b8 [i64 (s.load c.active),i64 (s.load (c.active+1)),sv] 125] Tryz.mixed (by kernel_rfl) ?_))))))))
   refine an aa aa aa (aC (m:=_) eO aa aa) .free aa (an aa aa aa (ag isAgg22 aa aa) .free aa (an aa aa aa (al aa) .free aa (aT aa aa aa (ah isAgg39 sizeOf39 aa aa) .free aa ?_)))
   refine aT aa aa aa (al aa) .free aa (aS aa aa (ap aa (ar call82 aa) (jz _ _ c hc _ (by omega) (by omega)) .free aa aa ?_))
   refine ad (cL (aS aa aa (ap aa (ar call101 aa) (bF (q:=ax) (fun Fr=>ck _ Fr _ _ _)) .free aa aa ?_)))
   refine ad (cL (aS aa aa (kPb (gA runUnderlying22 sizeOf24 zeroValue24 aa aa aa) aa fun b1=>(dE 1 aa ?_))))
   simp only[List.eraseIdx_cons_succ,List.eraseIdx_cons_zero]
   refine ad (cL (aS aa aa (cX aa (fC aa aa runUnderlying22 runUnderlying22 ⟨_,rfl⟩ sizeOf24 zeroValue24 aa (fun _=>rfl) gh aa aa (by rw[aW];omega)) .free aa aa ?_)))
   rintro sv2 _ ⟨hsv2,rfl⟩
   refine ad (cZ aa (aT aa aa aa (aC (m:=_) eO aa aa) .free aa (aS aa aa (kPs (aO sizeOf22 aa aa hsv2 aa) aa (ad (cZ aa (cM (aj [35,34,8,5,4,3,0] rfl (ab (kPv (aP aa aa) aa (kPm aa aa ?_)))))))))))
   refine ad ?_
   exact fun a w st=>⟨(k+1,sv2),⟨by simp only;omega,hsv2⟩,by simp only;omega,st.to ⟨rfl,rfl,rfl,rfl,rfl,rfl,rfl,trivial⟩ (fun hh=>by rw[←yt] at hh;exact hh)⟩
  ·have hk:¬ k<nr:=by simp at h36;omega
   obtain rfl:k=nr:=by omega
   refine bJ (ac (ab (kPv (ah isAgg125 sizeOf125 aa aa) aa ?_)))
   refine kPs (aA (vs:=[i64 (s.load c.active),i64 (s.load (c.active+1)),sv]) sizeOf125 aa aa aa (eB hsv) aa) aa (kPa aa aa (ad (aj [5,4] rfl (au ?_))))
   exact fY results135 (.cellA aa isAgg125 sizeOf125 aa aa) (.tmp aa) (fun w hh=>⟨_,⟨sv,hsv,by rw[hblk];rfl,rfl⟩,by rw[hblk];exact(((hh.front 3 aa).front 3 aa).front 3 aa).tail.tail.tail⟩)
abbrev gL(o:dq):Value:= .agg #[i64 o.1,i64 o.2.1,i64 o.2.2]
theorem Dz{x:Int}(h:decide (x<0)=false):0≤x:=by simpa using h
theorem va{w r:Int}(h:mo w r=0):0≤w∧w≤64∧0≤r∧r≤w:=by
 unfold mo at h
 split at h
 ·assumption
 ·cases h
theorem p7(v:Int):0≤(unp v).1∧(unp v).1≤64∧0≤(unp v).2.1∧(unp v).2.1≤(unp v).1:=by
 unfold unp
 split
 ·rename_i h;exact va h.1
 ·exact⟨by decide,by decide,by decide,by decide⟩
theorem kc(B:World)(Fr:List HP)(bd:Nat)(s:Dev)(c:Cfg)(hc:bx c)(b:Blk)(sv:Value)(hb:fU c b)(hsv:aN sv=true)(at_:Int)(hat: -9223372036854775808≤at_∧at_≤9223372036854775807):
 ∀ w,Holds B (ax bd s::Fr) w→Calls Tryz.prog 143 [ptr bd,dU c,lC b sv,i64 at_].toArray w (aZ B (ax bd s::Fr) (.tuple #[gL (s.objOf c b at_).1,i64 (s.objOf c b at_).2])):=by
 refine ak func143 aa ntmps143 aa ?_
 have hb1:=hb.act
 have hb2:=hb.used
 have hcs:=hc.s2
 have hub:=p7 (s.load at_)
 have hfb:=iI hc (k:=b.act) (by omega)
 refine ac (ab (kPb (aY aa) aa fun b5=>(kPb (aY aa) aa fun b6=>(kPb (aD zeroValue134 aa) aa fun b8=>(kPa aa aa (ad (ac (ac (ab (kPm aa aa (kPv (am aa aa aa) aa ?_)))))))))))
 refine kPm aa aa ?_
 apply gJ (tp:=21) (t:=14) (σ1:=[(14,_),(9,_),(8,_),(6,_),(5,_),(0,_),(3,_)]) 7 rfl (aG rfl)
 ·intro hg1
  refine ao aa (ah isAgg125 sizeOf125 aa aa) (.on aa aa (ae hg1)) aa aa ?_
  refine ao aa (ah isAgg39 sizeOf39 aa aa) (.on aa aa (ae hg1)) aa aa ?_
  refine ao aa (al aa) (.on aa aa (ae hg1)) aa aa (ao aa (cR runUnderlying3 runUnderlying24 aa (fk ⟨Dz hg1,by omega⟩)) (.on aa aa (ae hg1)) aa aa (ap aa (ar call98 aa) (pj _ _ c hc b sv hb hsv _ ⟨Dz hg1,by omega⟩) (.on aa aa (ae hg1)) aa aa ?_))
  refine ao aa (bu aa) (.on aa aa (ae hg1)) aa aa (kPv (aJ aa hg1 aa) aa ?_)
  exact bf aa (aG aa) (ga hg1)
 ·intro hg1
  refine ay aa (.on aa aa (ai hg1)) aa (ay aa (.on aa aa (ai hg1)) aa (ay aa (.on aa aa (ai hg1)) aa (ay aa (.on aa aa (ai hg1)) aa (ay aa (.on aa aa (ai hg1)) aa (ay aa (.on aa aa (ai hg1)) aa (kPv (aB aa hg1 aa) aa ?_))))))
  exact bf aa (aG aa) (f9 hg1)
 refine ad ?_
 refine aV aa (fun h21=> ?_) (fun h21=> ?_)
 ·have hbad:at_<0∨b.has c at_=false:=by simpa using h21
  have hres:s.objOf c b at_=((0,0,0),6):=by unfold Dev.objOf;rw[if_pos hbad]
  refine ac (ab (kPv (aR aa (rU)) aa (kPs (aA (vs:=_) sizeOf134 aa aa aa aa aa) aa (kPa aa aa (ad (au ?_))))))
  exact fY results143 (.cellA aa isAgg134 sizeOf134 aa aa) (.tmp aa) (fun w hh=>⟨by rw[hres];rfl,hh.tail.tail.tail⟩)
 ·have hgd:¬(at_<0∨b.has c at_=false):=by simpa using h21
  have hat2:=kJ hc hb (w:=at_) (by cases hh:b.has c at_ with
   | true=>rfl
   | false=>exact absurd (.inr hh) hgd)
  have hplace:b.place c b.used=c.frm b.act+b.used:=rfl
  refine aw (ac (ab (kPm aa aa (kPm aa aa (ap aa (ar call101 aa) (bF (q:=ax) (fun Fr=>ck _ Fr _ _ _)) .free aa aa ?_)))))
  refine ap aa (ar call176 aa) (iZ _ _ _) .free aa aa ?_
  refine kPm aa aa (kPv (az aa aa) aa (kPv (az aa aa) aa (kPb (aD zeroValue63 aa) aa fun b10=>(kPs (aA (vs:=_) sizeOf63 aa aa aa aa aa) aa (kPa aa aa (ad (aj [11,10,9,8,6,5,3] rfl (ac (ac (cN Tryz.mixed (by kernel_rfl) (by kernel_rfl) ?_))))))))))
  refine kQm aa aa (kQv (bu aa) aa (kQm aa aa ?_))
  apply CB (tp:=43) (t:=32) (σ1:=[(32,_),(10,_),(9,_),(8,_),(3,_)]) 11 rfl (aG rfl)
  ·intro hg2
   refine bg aa (ah isAgg63 sizeOf63 aa aa) (.on aa aa (ae hg2)) aa ?_
   refine bj aa (ar call138 aa) (eJ _ _ _ _ (by omega)) (.on aa aa (ae hg2)) aa ?_
   refine bg aa (ah isAgg125 sizeOf125 aa aa) (.on aa aa (ae hg2)) aa ?_
   refine bg aa (ah isAgg39 sizeOf39 aa aa) (.on aa aa (ae hg2)) aa ?_
   refine bg aa (aC (m:=_) dM aa aa) (.on aa aa (ae hg2)) aa (bg aa (ag isAgg3 aa aa) (.on aa aa (ae hg2)) aa (bj aa (ar call136 aa) (ik _ _ c hc b sv hb hsv _ (by omega)) (.on aa aa (ae hg2)) aa ?_))
   refine bg aa (al aa) (.on aa aa (ae hg2)) aa (bg aa (fF aa aa) (.on aa aa (ae hg2)) aa (bg aa (am aa aa aa) (.on aa aa (ae hg2)) aa (kQv (aJ aa hg2 aa) aa ?_)))
   exact fp aa (aG aa) (ga hg2)
  ·intro hg2
   refine ba aa (.on aa aa (ai hg2)) aa (ba aa (.on aa aa (ai hg2)) aa (ba aa (.on aa aa (ai hg2)) aa (ba aa (.on aa aa (ai hg2)) aa (ba aa (.on aa aa (ai hg2)) aa (ba aa (.on aa aa (ai hg2)) aa (ba aa (.on aa aa (ai hg2)) aa (ba aa (.on aa aa (ai hg2)) aa (ba aa (.on aa aa (ai hg2)) aa (ba aa (.on aa aa (ai hg2)) aa (kQv (aB aa hg2 aa) aa ?_))))))))))
   exact fp aa (aG aa) (f9 hg2)
  refine bM ?_
  refine aV aa (fun h43=> ?_) (fun h43=> ?_)
  ·have hbad:(unp (s.load at_)).2.2=false∨b.place c b.used - at_<(unp (s.load at_)).1+1:=by simpa using h43
   have hres:s.objOf c b at_=((0,0,0),8):=by unfold Dev.objOf;rw[if_neg hgd,if_pos hbad]
   refine ac (ab (kPv (aR aa (rU)) aa (kPs (aA (vs:=_) sizeOf134 aa aa aa aa aa) aa (kPa aa aa (ad (au ?_))))))
   exact fY results143 (.cellA aa isAgg134 sizeOf134 aa aa) (.tmp aa) (fun w hh=>⟨by rw[hres];rfl,hh.tail.tail.tail.tail⟩)
  ·have hgd2:¬((unp (s.load at_)).2.2=false∨b.place c b.used - at_<(unp (s.load at_)).1+1):=by simpa using h43
   have hres:s.objOf c b at_=(((unp (s.load at_)).1,(unp (s.load at_)).2.1,at_),0):=by unfold Dev.objOf;rw[if_neg hgd,if_neg hgd2]
   refine aw (ac (ab (kPv (ah isAgg63 sizeOf63 aa aa) aa ?_)))
   refine kPm aa aa (kPv (aR aa (t8 _ _ _ aa)) aa (kPs (aA (vs:=_) sizeOf134 aa aa aa aa aa) aa (kPa aa aa (ad (aj [9,8] rfl (au ?_))))))
   exact fY results143 (.cellA aa isAgg134 sizeOf134 aa aa) (.tmp aa) (fun w hh=>⟨by rw[hres];rfl,hh.tail.tail.tail.tail⟩)
structure k8(o:dq):Prop where
 w:0≤o.1∧o.1≤64
 r:0≤o.2.1∧o.2.1≤o.1
 at_:0≤o.2.2∧o.2.2≤1000000
theorem l4(B:World)(H:List HP)(o:dq)(ho:k8 o)(i:Int)(ref:Bool):
 ∀ w,Holds B H w→Calls Tryz.prog 144 [gL o,i64 i,.bool ref].toArray w (aZ B H (.tuple #[i64 (bK o i ref).1,i64 (bK o i ref).2])):=by
 refine ak func144 aa ntmps144 aa ?_
 have h1:=ho.w
 have h2:=ho.r
 have h3:=ho.at_
 refine ac (ab (kPb (aY aa) aa fun b3=>(kPa aa aa (kPa aa aa (ad (ac (aI (ac (ab (kPm aa aa (kPv (am aa aa aa) aa ?_)))))))))))
 refine kPm aa aa ?_
 apply gJ (tp:=17) (t:=11) (σ1:=[(11,_),(7,_),(6,_),(3,_),(1,_),(2,_)]) 6 rfl (aG rfl)
 ·intro hg1
  refine ao aa (al aa) (.on aa aa (ae hg1)) aa aa (ao aa (aC (m:=_) eN aa aa) (.on aa aa (ae hg1)) aa aa (ao aa (aC (m:=_) iK aa aa) (.on aa aa (ae hg1)) aa aa (ao aa (ag isAgg3 aa aa) (.on aa aa (ae hg1)) aa aa (ao aa (am aa aa aa) (.on aa aa (ae hg1)) aa aa (kPv (aJ aa hg1 aa) aa ?_)))))
  exact bf aa (aG aa) (ga hg1)
 ·intro hg1
  refine ay aa (.on aa aa (ai hg1)) aa (ay aa (.on aa aa (ai hg1)) aa (ay aa (.on aa aa (ai hg1)) aa (ay aa (.on aa aa (ai hg1)) aa (ay aa (.on aa aa (ai hg1)) aa (kPv (aB aa hg1 aa) aa ?_)))))
  exact bf aa (aG aa) (f9 hg1)
 refine kPa aa aa (ad ?_)
 refine aV aa (fun h8=> ?_) (fun h8=> ?_)
 ·have hbad:i<0∨o.1≤i:=by simpa using h8
  have hres:bK o i ref=(0,1):=by unfold bK;rw[if_pos hbad]
  refine ac (ab (kPa aa aa (kPa aa aa (ad (au ?_)))))
  exact bz results144 aa aa (fun w hh=>⟨by rw[hres],hh.tail⟩)
 ·have hgd:¬(i<0∨o.1≤i):=by simpa using h8
  refine ac (ab (kPm aa aa (kPv (aC (m:=_) eN aa aa) aa (kPl gC isAgg3 aa aa aa aa (kPv (am aa aa aa) aa (kPm aa aa (kPv (Aa runUnderlying4 aa aa aa) aa (kPa aa aa (ad (aj [18,7,6,3,1] rfl ?_))))))))))
  refine aV aa (fun h18=> ?_) (fun h18=> ?_)
  ·have hk:decide (i<o.2.1)≠ref:=by simpa using h18
   have hres:bK o i ref=(0,5):=by unfold bK;rw[if_neg hgd,if_pos hk]
   refine ac (ab (kPa aa aa (kPa aa aa (ad (au ?_)))))
   exact bz results144 aa aa (fun w hh=>⟨by rw[hres],hh.tail⟩)
  ·have hk:¬ decide (i<o.2.1)≠ref:=by simpa using h18
   have hres:bK o i ref=(o.2.2+1+i,0):=by unfold bK;rw[if_neg hgd,if_neg hk]
   refine aw (ac (ab (kPl kA isAgg3 aa aa aa aa (kPv (aP aa aa) aa (kPm aa aa (kPv (aP aa aa) aa (kPa aa aa (kPa aa aa (ad (aj [7,6] rfl (au ?_)))))))))))
   exact bz results144 aa aa (fun w hh=>⟨by rw[hres],hh.tail⟩)
theorem oR(B:World)(Fr:List HP)(bd:Nat)(s:Dev)(o:dq)(ho:k8 o)(i:Int):
 ∀ w,Holds B (ax bd s::Fr) w→Calls Tryz.prog 99 [gL o,ptr bd,i64 i].toArray w (aZ B (ax bd s::Fr) (.tuple #[w64 (s.objRead o i).1,i64 (s.objRead o i).2])):=by
 refine ak func99 aa ntmps99 aa (ac (ab (kPb (aY aa) aa fun b3=>(kPa aa aa (kPa aa aa (ad (ac (ab (kPv (ah isAgg134 sizeOf134 aa aa) aa ?_)))))))))
 refine kPm aa aa (ap aa (ar call144 aa) (l4 _ _ o ho i _) .free aa aa ?_)
 refine kPm aa aa (kPv (az aa aa) aa (kPv (az aa aa) aa (kPa aa aa (kPa aa aa (ad (aj [9,8,7,6,1] rfl (ac (ac (ab (kPm aa aa (kPv (am aa aa aa) aa ?_)))))))))))
 refine ad ?_
 refine aV aa (fun h17=> ?_) (fun h17=> ?_)
 ·have hk:(bK o i false).2≠0:=by simpa using h17
  have hres:s.objRead o i=(0,(bK o i false).2):=by unfold Dev.objRead;rw[if_pos hk]
  refine ac (ab (kPm aa aa (kPa aa aa (kPa aa aa (ad (au ?_))))))
  exact bz results99 aa aa (fun w hh=>⟨by rw[hres]<;>rfl,hh.tail⟩)
 ·have hk:¬ (bK o i false).2≠0:=by simpa using h17
  have hres:s.objRead o i=(s.load (bK o i false).1,0):=by unfold Dev.objRead;rw[if_neg hk]
  refine aw (ac (ab (kPm aa aa (kPm aa aa (ap aa (ar call101 aa) (bF (q:=ax) (fun Fr=>ck _ Fr _ _ _)) .free aa aa ?_)))))
  refine kPa aa aa (kPa aa aa (ad (aj [7,6] rfl (au ?_))))
  exact bz results99 aa aa (fun w hh=>⟨by rw[hres]<;>rfl,hh.tail⟩)
structure m8(B:World)(f:FuncId)(fi:List Value)(bd be:Nat)(ε:Type)(ExA:Nat→ε→HP)(op:Int→Int→Dev→ε→Out (Int×ε))(ok:Dev→ε→Prop):Prop where
 enter:∀ args w,(callFunc f args).run Tryz.prog w= .ok (.enter f args) w
 u64:∀ s e,ok s e→U64 s
 says:∀ (Fr:List HP) (i v:Int) (s:Dev) (e:ε),ok s e→∀ w,Holds B (ax bd s::ExA be e::Fr) w→Calls Tryz.prog f (fi++[i64 i,w64 v]++[]).toArray w (Ret B (fun rv H'=>∃ a e' s',op i v s e= .ok (a,e') s'∧rv=i64 a∧H'=ax bd s'::ExA be e'::Fr) (fun c H'=>∃ s',op i v s e= .off s'∧c=dh∧H'=ax bd s'::Fr))
 keeps:∀ i v s e a e' s',ok s e→0≤v∧v<18446744073709551616→op i v s e= .ok (a,e') s'→ok s' e'
section
variable {ε:Type}
def fA(op:Int→Int→Dev→ε→Out (Int×ε))(at_ h0:Int):Nat→Int→Dev→ε→Out ((Int×Int)×ε)
 | 0,_,s,e=> .ok ((at_,0),e) s
 | f+1,i,s,e=>(op (at_+i) (if i=0 then h0 else 0) s e).then fun x s=>if x.1≠0 then .ok ((0,x.1),x.2) s else fA op at_ h0 f (i+1) s x.2
def cY(op:Int→Int→Dev→ε→Out (Int×ε))(c:Cfg)(w r:Int)(s:Dev)(e:ε):Out ((Int×Int)×ε):=
 if mo w r≠0 then .ok ((0,mo w r),e) s
 else if (s.block c).2≠0 then .ok ((0,(s.block c).2),e) s
 else if c.space - (s.block c).1.used<w+1 then .ok ((0,4),e) s
 else (op (c.active+1) ((s.block c).1.used+(w+1)) s e).then fun x s'=>if x.1≠0 then .ok ((0,x.1),x.2) s' else fA op ((s.block c).1.place c (s.block c).1.used) (eA w r) (w+1).toNat 0 s' x.2
def hO(op:Int→Int→Dev→ε→Out (Int×ε))(o:dq)(i:Int)(ref:Bool)(v:Int)(s:Dev)(e:ε):Out (Int×ε):=
 if (bK o i ref).2≠0 then .ok ((bK o i ref).2,e) s else op (bK o i ref).1 v s e
def gT(op:Int→Int→Dev→ε→Out (Int×ε)):List Int→Int→Dev→ε→Out (Int×ε)
 | [],_,s,e=> .ok (0,e) s
 | v::vs,i,s,e=>if s.load i=v then gT op vs (i+1) s e else (op i v s e).then fun x s=>if x.1≠0 then .ok x s else gT op vs (i+1) s x.2
def lk(op:Int→Int→Dev→ε→Out (Int×ε))(c:Cfg)(b:Blk)(s:Dev)(e:ε):Out (Int×ε):=gT op (b.act::b.used::b.rts) c.active s e
end
theorem rt(w r:Int):0≤eA w r∧eA w r<18446744073709551616:=by
 unfold eA pK
 simp only[IntKind.wrap,IntKind.bits,IntKind.signed]
 simp;omega
theorem ub(B:World)(Fr:List HP)(f:FuncId)(fi:List Value)(bd be:Nat)(ε:Type)(ExA:Nat→ε→HP)(op:Int→Int→Dev→ε→Out (Int×ε))(ok:Dev→ε→Prop)(hS:m8 B f fi bd be ε ExA op ok)(c:Cfg)(hc:bx c)(w r:Int)(s:Dev)(e:ε)(hok:ok s e):
 ∀ w_,Holds B (ax bd s::ExA be e::Fr) w_→Calls Tryz.prog 76 [ptr bd,dU c,.agg #[i64 w,i64 r],.func (.func f) fi.toArray #[]].toArray w_ (Ret B (fun rv H'=>∃ x e' s',cY op c w r s e= .ok (x,e') s'∧rv= .tuple #[i64 x.1,i64 x.2]∧ok s' e'∧H'=ax bd s'::ExA be e'::Fr) (fun ch H'=>∃ s',cY op c w r s e= .off s'∧ch=dh∧H'=ax bd s'::Fr)):=by
 refine ak func76 aa ntmps76 aa ?_
 have hb:=dB (s:=s) hc (hS.u64 _ _ hok)
 have hb1:=hb.act
 have hb2:=hb.used
 have hcs:=hc.s2
 have hfb:=iI hc (k:=(s.block c).1.act) (by omega)
 have hplace:(s.block c).1.place c (s.block c).1.used=c.frm (s.block c).1.act+(s.block c).1.used:=rfl
 refine ac (ab (kPb (aY aa) aa fun b5=>(kPb (aY aa) aa fun b6=>(kPa aa aa (kPa aa aa (ad (ac (ac (ab (kPv (ah isAgg63 sizeOf63 aa aa) aa ?_))))))))))
 refine ap aa (ar call137 aa) (qK _ _ _ _) .free aa aa ?_
 refine kPa aa aa (ad (ac (ab (kPm aa aa (kPv (am aa aa aa) aa (ad ?_))))))
 refine aV aa (fun h21=> ?_) (fun h21=> ?_)
 ·have hk1:mo w r≠0:=by simpa using h21
  refine ac (ab (kPm aa aa (kPa aa aa (kPa aa aa (ad (aj [9,8,6,5,0,3] rfl (au ?_)))))))
  exact bz results76 aa aa (fun w_ hh=>⟨_,⟨_,e,s,by unfold cY;rw[if_pos hk1],rfl,hok,rfl⟩,hh.tail.tail⟩)
 ·have hk1:¬ mo w r≠0:=by simpa using h21
  have hwb:=va (w:=w) (r:=r) (by omega)
  refine aw (ac (ab (kPm aa aa (kPv (ah isAgg39 sizeOf39 aa aa) aa ?_))))
  refine dG ax bd (aE aa (ar call135 aa) (fX _ _ _ _ c hc (hS.u64 _ _ hok)) .free aa aa ?_)
  rintro _ _ ⟨sv,hsv,rfl,rfl⟩
  refine kPm aa aa (kPv (az aa aa) aa (kPv (az aa aa) aa (kPb (aD zeroValue125 aa) aa fun b11=>(kPs (aA (vs:=[i64 (s.block c).1.act,i64 (s.block c).1.used,sv]) sizeOf125 aa aa aa (eB hsv) aa) aa (kPa aa aa (ad (aj [12,11,9,8,6,5,3] rfl (ac (ac (ab (kPm aa aa ?_)))))))))))
  refine kPv (am aa aa aa) aa (ad ?_)
  refine aV aa (fun h30=> ?_) (fun h30=> ?_)
  ·have hk2:(s.block c).2≠0:=by simpa using h30
   refine ac (ab (kPm aa aa (kPa aa aa (kPa aa aa (ad (au ?_))))))
   exact bz results76 aa aa (fun w_ hh=>⟨_,⟨_,e,s,by unfold cY;rw[if_neg hk1,if_pos hk2],rfl,hok,rfl⟩,((((((hh.front 0 aa).tail.front 0 aa).tail.front 1 aa).tail.front 1 aa).tail.front 1 aa).front 1 aa)⟩)
  ·have hk2:¬ (s.block c).2≠0:=by simpa using h30
   refine aw (ac (ac (cN Tryz.mixed (by kernel_rfl) (by kernel_rfl) ?_)))
   refine kQv (ah isAgg63 sizeOf63 aa aa) aa ?_
   refine bj aa (ar call138 aa) (eJ _ _ _ _ (by omega)) .free aa ?_
   refine kQv (aC (m:=_) gD aa aa) aa (kQv (ag isAgg3 aa aa) aa (kQv (aC (m:=_) dM aa aa) aa (kQv (ag isAgg3 aa aa) aa (kQv (fF aa aa) aa (kQv (am aa aa aa) aa (bM (aj [39,11,9,8,6,5,3] rfl ?_)))))))
   refine aV aa (fun h39=> ?_) (fun h39=> ?_)
   ·have hk3:c.space - (s.block c).1.used<w+1:=by simpa using h39
    refine ac (ab (kPa aa aa (kPa aa aa (ad (au ?_)))))
    exact bz results76 aa aa (fun w_ hh=>⟨_,⟨_,e,s,by unfold cY;rw[if_neg hk1,if_neg hk2,if_pos hk3],rfl,hok,rfl⟩,((((((hh.front 0 aa).tail.front 0 aa).tail.front 1 aa).tail.front 1 aa).tail.front 1 aa).front 1 aa)⟩)
   ·have hk3:¬ c.space - (s.block c).1.used<w+1:=by simpa using h39
    refine aw (ac (ab (kPv (ah isAgg125 sizeOf125 aa aa) aa ?_)))
    refine kPv (ah isAgg39 sizeOf39 aa aa) aa ?_
    refine kPl dM isAgg3 aa aa aa aa (ap aa (ar call136 aa) (ik _ _ c hc _ sv hb hsv _ (by omega)) .free aa aa ?_)
    refine kPa aa aa (ad (ac (ac (cH 9 Tryz.mixed (by kernel_rfl) (by kernel_rfl) ?_))))
    refine kQm aa aa (kQv (ah isAgg39 sizeOf39 aa aa) aa ?_)
    refine bj aa (ar call139 aa) (tN _ _ c hc) .free aa ?_
    refine kQv (aC (m:=_) dM aa aa) aa (kQv (ag isAgg3 aa aa) aa (kQv (ah isAgg63 sizeOf63 aa aa) aa ?_))
    refine bj aa (ar call138 aa) (eJ _ _ _ _ (by omega)) .free aa ?_
    refine kQv (aP aa aa) aa (kQv (cR runUnderlying3 runUnderlying24 aa (fk (by omega))) aa (bM (dG ExA be (dG ax bd ?_))))
    refine aQ aa (fa hS.enter aa aa) (hS.says _ _ _ _ _ hok) .free aa aa ?_ ?_
    rotate_left
    ·rintro _ _ ⟨s9,hm9,rfl,rfl⟩
     exact aX fun w hh=>⟨_,⟨s9,by unfold cY;rw[if_neg hk1,if_neg hk2,if_neg hk3];rw[hm9];rfl,rfl,rfl⟩,((((hh.front 4 aa).front 4 aa).front 4 aa).front 4 aa).tail.tail.tail.tail⟩
    rintro _ _ ⟨a1,e1,s1,hm1,rfl,rfl⟩
    have hok1:=hS.keeps _ _ _ _ _ _ _ hok ⟨by omega,by omega⟩ hm1
    refine kPa aa aa (ad (aj [14,13,9,8,6,3] rfl (ac (ab (kPm aa aa (kPv (am aa aa aa) aa (ad ?_)))))))
    refine aV aa (fun h56=> ?_) (fun h56=> ?_)
    ·have hk4:a1≠0:=by simpa using h56
     refine ac (ab (kPm aa aa (kPa aa aa (kPa aa aa (ad (au ?_))))))
     exact bz results76 aa aa (fun w_ hh=>⟨_,⟨_,e1,s1,by unfold cY;rw[if_neg hk1,if_neg hk2,if_neg hk3];rw[hm1,aU,if_pos hk4],rfl,hok1,rfl⟩,((((((hh.front 2 aa).tail.front 2 aa).tail.front 2 aa).tail.front 2 aa).tail.front 1 aa).front 1 aa)⟩)
    ·have hk4:¬ a1≠0:=by simpa using h56
     have hmid:cY op c w r s e=fA op ((s.block c).1.place c (s.block c).1.used) (eA w r) (w+1).toNat 0 s1 e1:=by
      unfold cY;rw[if_neg hk1,if_neg hk2,if_neg hk3,hm1,aU,if_neg hk4]
     refine aw (ac (ac (ab (kPv (ah isAgg63 sizeOf63 aa aa) aa ?_))))
     refine ap aa (ar call138 aa) (eJ _ _ _ _ (by omega)) .free aa aa ?_
     refine kPm aa aa (ad (aI (dF (ι:=Nat×Dev×ε) (fun i=>(i.1:Int)≤w+1∧ok i.2.1 i.2.2∧fA op ((s.block c).1.place c (s.block c).1.used) (eA w r) (w+1).toNat 0 s1 e1=fA op ((s.block c).1.place c (s.block c).1.used) (eA w r) ((w+1).toNat - i.1) i.1 i.2.1 i.2.2) (fun i=>[(3,.func (.func f) fi.toArray #[]),(6,ptr b6),(8,i64 0),(9,i64 0),(13,i64 ((s.block c).1.place c (s.block c).1.used)),(59,i64 (w+1)),(60,i64 i.1)]) (fun i=>ax bd i.2.1::ExA be i.2.2::row b11 [i64 (s.block c).1.act,i64 (s.block c).1.used,sv] 125::da 0 (sv,(s.block c).1.rts)::row b6 [i64 w,i64 r] 63::row b5 [i64 c.log,i64 c.roots,i64 c.space] 39::Fr) (fun i=>(w+1).toNat - i.1) (0,s1,e1) ⟨by simp only;omega,hok1,rfl⟩ (fun a w st=>st.to ⟨rfl,rfl,rfl,rfl,rfl,rfl,rfl,trivial⟩ id) ?_)))
     rintro⟨k,sL,eL⟩ ⟨hkw,hok2,hinv⟩
     simp only at hkw hok2 hinv ⊢
     refine ac (ab (kPv (am aa aa aa) aa (ad (ac ?_))))
     refine aV aa (fun h61=> ?_) (fun h61=> ?_)
     ·have hk:(k:Int)<w+1:=by simpa using h61
      refine aw (ac (aI (ac (ab (kPm aa aa (kPa aa aa (ad (ac (ab (kPa aa aa (ad ?_)))))))))))
      refine ac (ac (ab (kPm aa aa (kPv (am aa aa aa) aa (ad (aj [64,16,15,60,59,13,9,8,6,3] rfl ?_))))))
      refine aV aa (fun h64=> ?_) (fun h64=> ?_)
      ·have hk0':k=0:=by simp at h64;omega
       have hst:fA op ((s.block c).1.place c (s.block c).1.used) (eA w r) ((w+1).toNat - k) k sL eL=(op (((s.block c).1.place c (s.block c).1.used)+k) (eA w r) sL eL).then fun x sz=>if x.1≠0 then .ok ((0,x.1),x.2) sz else fA op ((s.block c).1.place c (s.block c).1.used) (eA w r) ((w+1).toNat - (k+1)) ((k:Int)+1) sz x.2:=by
        rw[show(w+1).toNat - k=((w+1).toNat - (k+1))+1 by omega]
        simp only[fA]
        rw[if_pos (by omega)]
       have hVb:=rt w r
       refine ab (kPv (ah isAgg63 sizeOf63 aa aa) aa ?_)
       refine ap aa (ar call140 aa) (pg _ _ _ _) .free aa aa ?_
       refine kPa aa aa (ad (ac (ab (kPm aa aa (kPm aa aa (kPm aa aa (kPv (aP aa aa) aa (kPm aa aa (dG ExA be (dG ax bd ?_))))))))))
       refine aQ aa (fa hS.enter aa aa) (hS.says _ _ _ _ _ hok2) .free aa aa ?_ ?_
       rotate_left
       ·rintro _ _ ⟨s9,hm9,rfl,rfl⟩
        exact aX fun w hh=>⟨_,⟨s9,by rw[hmid,hinv,hst,hm9];rfl,rfl,rfl⟩,((((hh.front 4 aa).front 4 aa).front 4 aa).front 4 aa).tail.tail.tail.tail⟩
       rintro _ _ ⟨a2,e2,s2,hm2,rfl,rfl⟩
       have hok3:=hS.keeps _ _ _ _ _ _ _ hok2 hVb hm2
       refine kPa aa aa (ad (aj [17,60,59,13,9,8,6,3] rfl (ac (ab (kPm aa aa (kPv (am aa aa aa) aa (ad ?_)))))))
       refine aV aa (fun h74=> ?_) (fun h74=> ?_)
       ·have hk5:a2≠0:=by simpa using h74
        refine ac (ab (kPm aa aa (kPa aa aa (kPa aa aa (ad (au ?_))))))
        exact bz results76 aa aa (fun w_ hh=>⟨_,⟨_,e2,s2,by rw[hmid,hinv,hst,hm2,aU,if_pos hk5],rfl,hok3,rfl⟩,((((((hh.front 2 aa).tail.front 2 aa).tail.front 2 aa).tail.front 2 aa).tail.front 1 aa).front 1 aa)⟩)
       ·have hk5:¬ a2≠0:=by simpa using h74
        refine aw (ab (kPv (aP aa aa) aa (kPm aa aa (ad ?_))))
        exact fun a w_ st=>⟨(k+1,s2,e2),⟨by simp only;omega,hok3,by rw[hinv,hst,hm2,aU,if_neg hk5];push_cast;rfl⟩,by simp only;omega,st.to ⟨rfl,rfl,rfl,rfl,rfl,rfl,rfl,trivial⟩ id⟩
      ·have hk0':k≠0:=by simp at h64;omega
       have hst:fA op ((s.block c).1.place c (s.block c).1.used) (eA w r) ((w+1).toNat - k) k sL eL=(op (((s.block c).1.place c (s.block c).1.used)+k) 0 sL eL).then fun x sz=>if x.1≠0 then .ok ((0,x.1),x.2) sz else fA op ((s.block c).1.place c (s.block c).1.used) (eA w r) ((w+1).toNat - (k+1)) ((k:Int)+1) sz x.2:=by
        rw[show(w+1).toNat - k=((w+1).toNat - (k+1))+1 by omega]
        simp only[fA]
        rw[if_neg (by omega)]
       have hVb:(0:Int)≤0∧(0:Int)<18446744073709551616:=by decide
       refine aw (ac (ab (kPm aa aa (kPm aa aa (kPm aa aa (kPv (aP aa aa) aa (kPm aa aa (dG ExA be (dG ax bd ?_)))))))))
       refine aQ aa (fa hS.enter aa aa) (hS.says _ _ _ _ _ hok2) .free aa aa ?_ ?_
       rotate_left
       ·rintro _ _ ⟨s9,hm9,rfl,rfl⟩
        exact aX fun w hh=>⟨_,⟨s9,by rw[hmid,hinv,hst,hm9];rfl,rfl,rfl⟩,((((hh.front 4 aa).front 4 aa).front 4 aa).front 4 aa).tail.tail.tail.tail⟩
       rintro _ _ ⟨a2,e2,s2,hm2,rfl,rfl⟩
       have hok3:=hS.keeps _ _ _ _ _ _ _ hok2 hVb hm2
       refine kPa aa aa (ad (aj [17,60,59,13,9,8,6,3] rfl (ac (ab (kPm aa aa (kPv (am aa aa aa) aa (ad ?_)))))))
       refine aV aa (fun h74=> ?_) (fun h74=> ?_)
       ·have hk5:a2≠0:=by simpa using h74
        refine ac (ab (kPm aa aa (kPa aa aa (kPa aa aa (ad (au ?_))))))
        exact bz results76 aa aa (fun w_ hh=>⟨_,⟨_,e2,s2,by rw[hmid,hinv,hst,hm2,aU,if_pos hk5],rfl,hok3,rfl⟩,((((((hh.front 2 aa).tail.front 2 aa).tail.front 2 aa).tail.front 2 aa).tail.front 1 aa).front 1 aa)⟩)
       ·have hk5:¬ a2≠0:=by simpa using h74
        refine aw (ab (kPv (aP aa aa) aa (kPm aa aa (ad ?_))))
        exact fun a w_ st=>⟨(k+1,s2,e2),⟨by simp only;omega,hok3,by rw[hinv,hst,hm2,aU,if_neg hk5];push_cast;rfl⟩,by simp only;omega,st.to ⟨rfl,rfl,rfl,rfl,rfl,rfl,rfl,trivial⟩ id⟩
     ·have hk:¬ (k:Int)<w+1:=by simpa using h61
      refine bJ (ac (ab (kPm aa aa (kPa aa aa (kPa aa aa (ad (aj [9,8] rfl (au ?_))))))))
      exact bz results76 aa aa (fun w_ hh=>⟨_,⟨(((s.block c).1.place c (s.block c).1.used),0),eL,sL,by rw[hmid,hinv,show(w+1).toNat - k=0 by omega];rfl,rfl,hok2,rfl⟩,((((((hh.front 2 aa).tail.front 2 aa).tail.front 2 aa).tail.front 2 aa).tail.front 1 aa).front 1 aa)⟩)
end Go.Proofs.YtipdhkmphngmoaaGreatDoor
