/- Part of a law's texts. Conditions: none. -/
import Derived.Test.YtoakdoeajpjgkaaGreatDoorQL18Mg
open Go.Proofs.Tryz
set_option linter.all false
namespace Go.Proofs.YtoakdoeajpjgkaaGreatDoor
open Go
def bZ(s:Dev)(j:Nat):Int:=IntKind.i64.wrap (s.load (1+(j:Int)))
def Dev.readC(s:Dev):Cfg×Int:=
 if s.load 0≠gg then (⟨0,0,0⟩,7)
 else if 4096<s.load 1∨4096<s.load 2∨4096<s.load 3 then (⟨0,0,0⟩,1)
 else if ¬ bj ⟨bZ s 0,bZ s 1,bZ s 2⟩∨(s.n:Int)≠Cfg.words ⟨bZ s 0,bZ s 1,bZ s 2⟩ then (⟨0,0,0⟩,1)
 else (⟨bZ s 0,bZ s 1,bZ s 2⟩,0)
def tP(s:Dev)(k:Nat):List Value:=tab 3 fun j=>i64 (if j<k then bZ s j else 0)
theorem xY{s:Dev}{k:Nat}{x:Int}(h:x=bZ s k):(tP s k).set k (i64 x)=tP s (k+1):=by
 subst h
 unfold tP
 rw[mI]
 refine fc fun j _=> ?_
 simp only[upd]
 by_cases e:j=k
 ·subst e;simp
 ·rw[if_neg e]
  by_cases e2:j<k
  ·rw[if_pos e2,if_pos (by omega)]
  ·rw[if_neg e2,if_neg (by omega)]
theorem nB{s:Dev}{k:Nat}(h:k<3):(tP s 3)[k]? =some (i64 (bZ s k)):=by
 unfold tP;rw[dK h,if_pos h]
theorem qy(B:World)(Fr:List HP)(b:Nat)(s:Dev):
 ∀ w,Holds B (az b s::Fr) w→Calls Tryz.prog 123 [ptr b].toArray w (aZ B (az b s::Fr) (.tuple #[dQ s.readC.1,i64 s.readC.2])):=by
 refine ap func123 aa ntmps123 aa ?_
 generalize hres:s.readC=res
 refine ac (ab (kPb (aE zeroValue134 aa) aa fun b2=>(kPa aa aa (ad (ac (ac (ab (kPm aa aa (ax aa (ar call173 aa) (bF (q:=az) (fun Fr=>cf _ Fr _ _ _)) .free aa aa ?_)))))))))
 refine kPv (am aa aa aa) aa (ad ?_)
 refine ba aa (fun h10=> ?_) (fun h10=> ?_)
 ·try simp only[decide_eq_true_eq,decide_eq_false_iff_not,Bool.not_eq_true',Bool.not_eq_false',Bool.or_eq_true,Bool.and_eq_true,Bool.and_eq_false_iff,Bool.or_eq_false_iff,beq_iff_eq,bne_iff_ne,beq_eq_false_iff_ne,bne_eq_false_iff_eq,ge_iff_le,gt_iff_lt,ne_eq] at h10
  refine ac (ab (kPv (aP aa (ra)) aa (kPs (ay (vs:=_) sizeOf134 aa aa aa aa aa) aa (kPa aa aa (ad (aB ?_))))))
  exact fU results123 (.cellA aa isAgg134 sizeOf134 aa aa) (.tmp aa) (fun w hw=>⟨by rw[←hres];unfold Dev.readC;rw[if_pos (by simpa [gg] using h10)];rfl,hw.tail⟩)
 ·try simp only[decide_eq_true_eq,decide_eq_false_iff_not,Bool.not_eq_true',Bool.not_eq_false',Bool.or_eq_true,Bool.and_eq_true,Bool.and_eq_false_iff,Bool.or_eq_false_iff,beq_iff_eq,bne_iff_ne,beq_eq_false_iff_ne,bne_eq_false_iff_eq,ge_iff_le,gt_iff_lt,ne_eq] at h10
  refine aq (ac (ab (kPb (aE zeroValue248 aa) aa fun b4=>(ad (ac (ac (ab (kPm aa aa (ad (aK (di (ι:=Nat) (fun k=>k≤3∧∀ j:Nat,j<k→s.load (1+(j:Int))≤4096) (fun k=>[(0,ptr b),(2,ptr b2),(3,i64 0),(4,ptr b4),(12,i64 k)]) (fun k=>row b4 (tP s k) 248::row b2 [i64 0,i64 0,i64 0] 134::az b s::Fr) (fun k=>3 - k) 0 ⟨Nat.zero_le _,fun j h=>absurd h (Nat.not_lt_zero _)⟩ (fun a w st=>st.to ⟨rfl,rfl,rfl,rfl,rfl,trivial⟩ id) ?_)))))))))))
  rintro k ⟨hk1,hk2⟩
  refine ac (ab (kPv (am aa aa aa) aa (ad (ac ?_))))
  refine ba aa (fun h13=> ?_) (fun h13=> ?_)
  ·have hk3:k<3:=by simp at h13;omega
   refine aq (ac (aK (ac (ab (kPm aa aa (kPa aa aa (ad (ac (ab (kPm aa aa (kPm aa aa ?_)))))))))))
   refine kPv (aN aa aa) aa (ax aa (ar call173 aa) (bF (q:=az) (fun Fr=>cf _ Fr _ _ _)) .free aa aa ?_)
   refine kPa aa aa (ad (ao [6,5,12,4,3,2,0] rfl (ac (ac (ab (kPm aa aa (kPv (am aa aa aa) aa (ad ?_))))))))
   refine ba aa (fun h20=> ?_) (fun h20=> ?_)
   ·try simp only[decide_eq_true_eq,decide_eq_false_iff_not,Bool.not_eq_true',Bool.not_eq_false',Bool.or_eq_true,Bool.and_eq_true,Bool.and_eq_false_iff,Bool.or_eq_false_iff,beq_iff_eq,bne_iff_ne,beq_eq_false_iff_ne,bne_eq_false_iff_eq,ge_iff_le,gt_iff_lt,ne_eq] at h20
    refine ac (ab (kPv (aP aa (ra)) aa (kPs (ay (vs:=_) sizeOf134 aa aa aa aa aa) aa (kPa aa aa (ad (aB ?_))))))
    exact fU results123 (.cellA aa isAgg134 sizeOf134 aa aa) (.tmp aa) (fun w hw=>⟨by
   rw[←hres];unfold Dev.readC;rw[if_neg (by simpa [gg] using h10),if_pos (by
    rcases (by omega:k=0∨k=1∨k=2) with rfl | rfl | rfl
    ·left;exact h20
    ·right;left;exact h20
    ·right;right;exact h20)];rfl,hw.tail.tail⟩)
   ·try simp only[decide_eq_true_eq,decide_eq_false_iff_not,Bool.not_eq_true',Bool.not_eq_false',Bool.or_eq_true,Bool.and_eq_true,Bool.and_eq_false_iff,Bool.or_eq_false_iff,beq_iff_eq,bne_iff_ne,beq_eq_false_iff_ne,bne_eq_false_iff_eq,ge_iff_le,gt_iff_lt,ne_eq] at h20
    refine aq (ab (kPm aa aa (kPm aa aa (kPv (bK runUnderlying25 runUnderlying3 aa) aa (kPv (lY (m:=k) runUnderlying248 sizeOf3 aa aa (by omega) (by omega) (by omega)) aa (kPs (aO sizeOf3 aa aa aa (by rw[Nat.blt_eq];simp[tP,aX];omega)) aa (ad (ao [12,4,3,2,0] rfl (ab (kPv (aN aa aa) aa (kPm aa aa ?_)))))))))))
    refine ad ?_
    exact fun a w st=>⟨k+1,⟨by omega,fun j hj=>by
     rcases Nat.lt_succ_iff_lt_or_eq.1 hj with h | h
     ·exact hk2 j h
     ·subst h;omega⟩,by omega,st.to ⟨rfl,rfl,rfl,rfl,rfl,trivial⟩ (fun hh=>by rw[show(Value.int IntKind.i64 (IntKind.i64.wrap (s.load (1+(k:Int)))))=i64 (bZ s k) from rfl,xY rfl] at hh;exact hh)⟩
  ·have hk3:¬ k<3:=by simp at h13;omega
   obtain rfl:k=3:=by omega
   have hb0:s.load 1≤4096:=hk2 0 (by decide)
   have hb1:s.load 2≤4096:=hk2 1 (by decide)
   have hb2:s.load 3≤4096:=hk2 2 (by decide)
   refine bD (ac (ab (kPv (lY (m:=0) runUnderlying248 sizeOf3 aa aa (by decide) (by decide) (by decide)) aa (kPv (ai (v:=i64 (bZ s 0)) isAgg3 aa (nB (by decide))) aa (kPv (lY (m:=1) runUnderlying248 sizeOf3 aa aa (by decide) (by decide) (by decide)) aa (kPv (ai (v:=i64 (bZ s 1)) isAgg3 aa (nB (by decide))) aa (kPv (lY (m:=2) runUnderlying248 sizeOf3 aa aa (by decide) (by decide) (by decide)) aa (kPv (ai (v:=i64 (bZ s 2)) isAgg3 aa (nB (by decide))) aa (kPv (aP aa (da _ _ _ aa aa aa)) aa (kPb (aE zeroValue134 aa) aa fun b7=>(kPs (ay (vs:=_) sizeOf134 aa aa aa aa aa) aa ?_)))))))))))
   refine ad (ao [7,3,2,0] rfl (ac (ac (cL Tryz.mixed (by kernel_rfl) (by kernel_rfl) ?_))))
   refine kQv (ah isAgg134 sizeOf134 aa aa) aa ?_
   refine bC aa (ar call175 aa) (oI _ _ ⟨bZ s 0,bZ s 1,bZ s 2⟩) .free aa ?_
   refine kQv (am aa aa aa) aa (kQm aa aa ?_)
   apply BB (tp:=43) (t:=37) (σ1:=[(37,_),(7,_),(3,_),(2,_)]) 6 rfl (aC rfl)
   ·intro hg1
    refine bf aa (ak aa) (.on aa aa (ae hg1)) aa (bC aa (ar call143 aa) (bF (q:=az) (fun Fr=>kj _ Fr _ _)) (.on aa aa (ae hg1)) aa ?_)
    refine bf aa (ah isAgg134 sizeOf134 aa aa) (.on aa aa (ae hg1)) aa ?_
    refine bC aa (ar call120 aa) (iQ _ _ ⟨bZ s 0,bZ s 1,bZ s 2⟩ (Bi hg1)) (.on aa aa (ae hg1)) aa ?_
    refine bf aa (am aa aa aa) (.on aa aa (ae hg1)) aa (kQv (aD aa hg1 aa) aa ?_)
    exact eG aa (aC aa) (eM hg1)
   ·intro hg1
    refine aW aa (.on aa aa (ag hg1)) aa (aW aa (.on aa aa (ag hg1)) aa (aW aa (.on aa aa (ag hg1)) aa (aW aa (.on aa aa (ag hg1)) aa (aW aa (.on aa aa (ag hg1)) aa (kQv (au aa hg1 aa) aa ?_)))))
    exact eG aa (aC aa) (eK hg1)
   refine bU ?_
   refine ba aa (fun h43=> ?_) (fun h43=> ?_)
   ·have hbad:¬ bj ⟨bZ s 0,bZ s 1,bZ s 2⟩∨(s.n:Int)≠Cfg.words ⟨bZ s 0,bZ s 1,bZ s 2⟩:=by
     by_cases q:bj ⟨bZ s 0,bZ s 1,bZ s 2⟩
     ·right;simpa [chk,q] using h43
     ·exact .inl q
    refine ac (ab (kPv (aP aa (ra)) aa (kPs (ay (vs:=_) sizeOf134 aa aa aa aa aa) aa (kPa aa aa (ad (aB ?_))))))
    exact fU results123 (.cellA aa isAgg134 sizeOf134 aa aa) (.tmp aa) (fun w hw=>⟨by rw[←hres];unfold Dev.readC;rw[if_neg (by simpa [gg] using h10),if_neg (by omega),if_pos hbad];rfl,hw.tail.tail.tail⟩)
   ·have hgd:¬ (¬ bj ⟨bZ s 0,bZ s 1,bZ s 2⟩∨(s.n:Int)≠Cfg.words ⟨bZ s 0,bZ s 1,bZ s 2⟩):=by
     by_cases q:bj ⟨bZ s 0,bZ s 1,bZ s 2⟩
     ·simp[chk,q] at h43;simp[q,h43]
     ·simp[chk,q] at h43
    refine aq (ac (ab (kPv (ah isAgg134 sizeOf134 aa aa) aa ?_)))
    refine kPs (ay (vs:=_) sizeOf134 aa aa aa aa aa) aa (kPa aa aa (ad (aB ?_)))
    exact fU results123 (.cellA aa isAgg134 sizeOf134 aa aa) (.tmp aa) (fun w hw=>⟨by rw[←hres];unfold Dev.readC;rw[if_neg (by simpa [gg] using h10),if_neg (by omega),if_neg hgd];rfl,hw.tail.tail.tail⟩)
def okB{α:Type}(m:Out α)(p:α→Dev→Bool):Bool:=match m with
 | .ok a s=>p a s
 | .off _=>false
theorem bR{α:Type}{m:Out α}{p:α→Dev→Bool}{a:α}{s:Dev}(h:okB m p=true)(e:m= .ok a s):p a s=true:=by rw[e] at h;exact h
theorem jd{α:Type}{m:Out α}{p:α→Dev→Bool}{s:Dev}(h:okB m p=true)(e:m= .off s):False:=by rw[e] at h;cases h
def mc{α:Type}(m:Out α)(p:α→Prop)(n:Nat):Prop:=∃ a s,m= .ok a s∧p a∧s.pow.lim<0∧s.n=n
theorem ck{α β:Type}{m:Out α}{f:α→Dev→Out β}{p:α→Prop}{q:β→Prop}{n:Nat}(h:mc m p n)(g:∀ a s,p a→s.pow.lim<0→s.n=n→mc (f a s) q n):mc (m.then f) q n:=by
 obtain⟨a,s,rfl,h1,h2,h3⟩:=h
 exact g a s h1 h2 h3
theorem eY{s:Dev}{i v:Int}(h:s.pow.lim<0):mc (s.store i v) (fun _=>True) s.n:=by
 unfold Dev.store
 split
 ·exact⟨_,_,rfl,trivial,h,rfl⟩
 ·rw[nO h];exact⟨_,_,rfl,trivial,h,rfl⟩
theorem gW{s:Dev}{i:Int}(h:s.pow.lim<0):mc (s.flush i) (fun _=>True) s.n:=by
 unfold Dev.flush
 split
 ·exact⟨_,_,rfl,trivial,h,rfl⟩
 ·rw[nO h];exact⟨_,_,rfl,trivial,h,rfl⟩
theorem kM{s:Dev}(h:s.pow.lim<0):mc s.fence (fun _=>True) s.n:=⟨(),_,lr h,trivial,h,rfl⟩
theorem lU(f:Int→Int):∀ (k:Nat) (i:Int) (s:Dev),s.pow.lim<0→mc (dZ f k i s) (fun _=>True) s.n
 | 0,_,s,h=>⟨(),s,rfl,trivial,h,rfl⟩
 | k+1,i,s,h=>ck (eY h) fun _ s1 _ h1 e1=>e1▸ck (gW h1) fun _ s2 _ h2 e2=>e2▸lU f k (i+1) s2 h2
theorem su(l:List Int):∀ (k i:Nat) (s:Dev),s.pow.lim<0→mc (st3 l k i s) (fun _=>True) s.n
 | 0,_,s,h=>⟨(),s,rfl,trivial,h,rfl⟩
 | k+1,i,s,h=>ck (eY h) fun _ s1 _ h1 e1=>e1▸su l k (i+1) s1 h1
theorem mu{s:Dev}{c:Cfg}(h:s.pow.lim<0)(hc:bj c)(hn:(s.n:Int)=c.words):mc (s.format c) (fun a=>a=0) s.n:=by
 unfold Dev.format
 rw[if_neg (cq hc hn)]
 refine ck (eY h) fun _ s1 _ h1 e1=>(e1▸ck (gW h1) fun _ s2 _ h2 e2=>(e2▸ck (kM h2) fun _ s3 _ h3 e3=>(e3▸ck (su _ _ _ _ h3) fun _ s4 _ h4 e4=>(e4▸ck (eY h4) fun _ s5 _ h5 e5=>(e5▸ck (gW h5) fun _ s6 _ h6 e6=>(e6▸ck (lU _ _ _ _ h6) fun _ s7 _ h7 e7=>(e7▸ck (lU _ _ _ _ h7) fun _ s8 _ h8 e8=>(e8▸ck (gW h8) fun _ s9 _ h9 e9=>(e9▸ck (kM h9) fun _ s10 _ h10 e10=>(e10▸ck (eY h10) fun _ s11 _ h11 e11=>(e11▸ck (gW h11) fun _ s12 _ h12 e12=> ?_)))))))))))
 refine e12▸ck (kM h12) fun _ s13 _ h13 e13=> ?_
 exact⟨0,s13,rfl,rfl,h13,e13⟩
def kL(xs:List Int)(j:Nat):Int:=if xs.length=0 then 0 else xs.getD (j%xs.length) 0
def iz(pa:Nat)(xs:List Int)(n:Nat):Dev:=⟨pa,⟨-1,0⟩,n,fun i=>(tab n (kL xs)).getD i 0,fun i=>(tab n (kL xs)).getD i 0,fun _=>none⟩
theorem words_b{c:Cfg}(h:bj c):40≤c.words∧c.words≤20000∧c.words%8=0:=by
 have h1:=h.act
 have:=h.r1;have:=h.r2;have:=h.l1;have:=h.l2;have:=h.s1;have:=h.s2
 have hl:=fL (n:=c.root c.roots) (by simp only[Cfg.root];omega)
 have hs:=fL (n:=c.space) (by omega)
 simp only[Cfg.words,Cfg.frm,Cfg.root] at*
 omega
def oe(xs:List Int)(n k:Nat):List Value:=tab n fun j=>w64 (if j<k then kL xs j else 0)
theorem yK{xs:List Int}{n k:Nat}{x:Int}(h:x=kL xs k):(oe xs n k).set k (w64 x)=oe xs n (k+1):=by
 subst h
 unfold oe
 rw[mI]
 refine fc fun j _=> ?_
 simp only[upd]
 by_cases e:j=k
 ·subst e;simp
 ·rw[if_neg e]
  by_cases e2:j<k
  ·rw[if_pos e2,if_pos (by omega)]
  ·rw[if_neg e2,if_neg (by omega)]
theorem pR{xs:List Int}{n k:Nat}(h:xs.length=0):oe xs n (k+1)=oe xs n k:=by
 refine fc fun j _=> ?_
 simp[kL,h]
theorem w6(xs:List Int)(n:Nat):List.replicate n (.int .u64 0)=oe xs n 0:=by
 apply List.ext_getElem?
 intro j
 by_cases h:j<n
 ·rw[oe,dK h];simp[h]
 ·rw[List.getElem?_eq_none (by simpa using h),List.getElem?_eq_none (by rw[oe,aX];omega)]
theorem yL(xs:List Int)(n:Nat):oe xs n n=(tab n (kL xs)).map w64:=by
 rw[kZ];exact fc fun j hj=>by rw[if_pos hj]
theorem AN{pa N:Nat}{xs:List Int}(h:N%8=0):(⟨pa,⟨-1,0⟩,((tab N (kL xs)).length+7) / 8*8,fun i=>(tab N (kL xs)).getD i 0,fun i=>(tab N (kL xs)).getD i 0,fun _=>none⟩:Dev)=iz pa xs N:=by
 rw[aX,show(N+7) / 8*8=N by omega];rfl
theorem yQ{pa N:Nat}{xs:List Int}{c:Cfg}{a:Int}{s:Dev}(hc:bj c)(hN:(N:Int)=c.words)(h:(iz pa xs N).format c= .ok a s):a=0:=by
 obtain⟨b,t,e,hb,_⟩:=mu (s:=iz pa xs N) (show(-1:Int)<0 by decide) hc hN
 rw[e] at h;cases h;exact hb
theorem AC{pa N:Nat}{xs:List Int}{c:Cfg}{s:Dev}(hc:bj c)(hN:(N:Int)=c.words)(h:(iz pa xs N).format c= .off s):False:=by
 obtain⟨b,t,e,hb,_⟩:=mu (s:=iz pa xs N) (show(-1:Int)<0 by decide) hc hN
 rw[e] at h;cases h
theorem dO(B:World)(Fr:List HP)(c:Cfg)(hc:bj c)(q:Option Addr)(cap:Nat)(xs:List Int)(hx:xs.length≤100000)(hq:∀ i,i<xs.length→∃ b off,q=some ⟨b,off,none⟩)(hr:SlR B Fr (.slice q xs.length cap) (xs.map w64)):
 ∀ w,Holds B Fr w→Calls Tryz.prog 74 [dQ c,.slice q xs.length cap].toArray w (Ret B (fun rv H'=>∃ (b pa N:Nat) (s':Dev),(N:Int)=c.words∧(iz pa xs N).format c= .ok 0 s'∧rv= .tuple #[ptr b,.bool true]∧H'=az b s'::Fr) (fun _ _=>False)):=by
 refine ap func74 aa ntmps74 aa ?_
 have hwb:=words_b hc
 obtain⟨N,hN⟩:∃ N:Nat,(N:Int)=c.words:=⟨c.words.toNat,by omega⟩
 refine ac (ab (kPb (aY aa) aa fun b2=>(kPa aa aa (kPa aa aa (ad (ac (ab (kPv (ah isAgg134 sizeOf134 aa aa) aa ?_))))))))
 refine ax aa (ar call120 aa) (iQ _ _ c hc) .free aa aa ?_
 rw[←hN]
 refine kPb (mX runUnderlying30 ik sizeOf25 zeroValue25 aa aa aa (by omega)) aa fun bl=> ?_
 rw[w6 xs]
 refine kPa aa aa (ad (ac (ac (ab (kPm aa aa (kPv (bH aa runUnderlying30 ⟨_,rfl⟩ rfl) aa (kPm aa aa (ad (aK (di (ι:=Nat) (fun k=>k≤N) (fun k=>[(1,.slice q xs.length cap),(2,ptr b2),(4,.pointer none),(5,.bool false),(6,.slice (some ⟨bl,0,none⟩) N N),(13,i64 N),(14,i64 k)]) (fun k=>row bl (oe xs N k) 25::row b2 [i64 c.log,i64 c.roots,i64 c.space] 134::Fr) (fun k=>N - k) 0 (Nat.zero_le _) (fun a w st=>st.to ⟨rfl,rfl,rfl,rfl,rfl,rfl,rfl,trivial⟩ id) ?_))))))))))
 intro k hk
 refine ac (ab (kPv (am aa aa aa) aa (ad (ac ?_))))
 refine ba aa (fun h15=> ?_) (fun h15=> ?_)
 ·have hkN:k<N:=by simp at h15;omega
  refine aq (ac (aK (ac (ab (kPm aa aa (kPa aa aa (ad (ao [7,14,13,6,5,4,2,1] rfl (ac (ab (kPm aa aa ?_)))))))))))
  refine kPv (bH aa runUnderlying30 ⟨_,rfl⟩ rfl) aa (kPv (am aa aa aa) aa (ad ?_))
  refine ba aa (fun h19=> ?_) (fun h19=> ?_)
  ·have hpos:0<xs.length:=by simp at h19;omega
   refine ab (kPm aa aa (kPm aa aa (kPm aa aa (kPm aa aa (kPm aa aa (kPv (bH aa runUnderlying30 ⟨_,rfl⟩ rfl) aa (kPv (fP (c:=((k%xs.length:Nat):Int)) aa aa (by omega) (by rw[Int.tmod_eq_emod_of_nonneg (by omega)];omega)) aa ?_)))))))
   obtain⟨ob,oo,rfl⟩:=hq 0 hpos
   refine kPv (cA runUnderlying30 sizeOf25 aa aa (by omega) (by have:=Nat.mod_lt k hpos;omega)) aa (kPv (cj (v:=w64 (kL xs k)) isAgg25 ((hr.cons _).cons _) aa (by have:=Nat.mod_lt k hpos;rw[Int.toNat_natCast];simp[kL,show ¬ xs.length=0 by omega,this,List.getD])) aa (kPv (cA runUnderlying30 sizeOf25 aa aa (by omega) (by omega)) aa (kPs (aO sizeOf25 aa aa aa (by rw[Nat.blt_eq,oe,aX];omega)) aa ?_)))
   rw[show 0+(k:Int).toNat=k by omega,yK rfl]
   refine ad (ao [14,13,6,5,4,2,1] rfl (ab (kPv (aN aa aa) aa (kPm aa aa (ad ?_)))))
   first
    | exact fun a w st=>⟨k+1,by omega,by omega,st.to ⟨rfl,rfl,rfl,rfl,rfl,rfl,rfl,trivial⟩ id⟩
    | exact fun a w st=>⟨k+1,by omega,by omega,st.to ⟨rfl,rfl,rfl,rfl,rfl,rfl,rfl,trivial⟩ (fun hh=>by rw[pR hz];exact hh)⟩
  ·have hz:xs.length=0:=by have:=of_decide_eq_false h19;omega
   refine aq (ab (kPv (aN aa aa) aa (kPm aa aa (ad ?_))))
   first
    | exact fun a w st=>⟨k+1,by omega,by omega,st.to ⟨rfl,rfl,rfl,rfl,rfl,rfl,rfl,trivial⟩ id⟩
    | exact fun a w st=>⟨k+1,by omega,by omega,st.to ⟨rfl,rfl,rfl,rfl,rfl,rfl,rfl,trivial⟩ (fun hh=>by rw[pR hz];exact hh)⟩
 ·have hkN:¬ k<N:=by simp at h15;omega
  have hkN2:k=N:=by omega
  rw[hkN2]
  refine bD (ac (ab (kPm aa aa (aI aa (ar call121 aa) (qF _ _ _ (tab N (kL xs)) (by rw[aX];omega) (by rw[aX];omega) (SlR.row (by rw[List.drop_zero,yL,List.take_of_length_le (by rw[List.length_map,aX];omega)]) (by rw[List.length_map,aX]))) .free aa aa ?_))))
  rintro _ _ ⟨bd,pa,rfl,rfl⟩
  refine kPa aa aa (ad (ao [8,5,4,2] rfl (ac (ac (ab ?_)))))
  rw[AN (by omega)]
  refine kPm aa aa (kPv (du runUnderlying90 aa aa aa) aa (kPm aa aa (aj aa (ak aa) (.on aa aa (ae aa)) aa aa (aj aa (ah isAgg134 sizeOf134 aa aa) (.on aa aa (ae aa)) aa aa ?_))))
  refine aS aa (ar call122 aa) (of _ _ _ _ c) (.on aa aa (ae aa)) aa aa ?_ ?_
  rotate_left
  ·rintro _ _ ⟨s9,hm9,rfl,rfl⟩
   exact(AC hc hN hm9).elim
  rintro _ _ ⟨a,s1,hm1,rfl,rfl⟩
  refine aj aa (am aa aa aa) (.on aa aa (ae aa)) aa aa (kPv (aD aa aa aa) aa (ad (ao [40,8,5,4] rfl (bE aa (by have:=yQ hc hN hm1;subst this;rfl) (aq (ac (ab (kPm aa aa (kPa aa aa (kPa aa aa (ad ?_)))))))))))
  refine aB ?_
  exact bY results74 aa aa (fun w hh=>⟨_,⟨bd,pa,N,s1,rfl,by rw[←yQ hc hN hm1];exact hm1,rfl,rfl⟩,(((hh.front 1 aa).tail).front 1 aa).tail⟩)
def d5(pa:Nat):Dev:=⟨pa,⟨-1,0⟩,56,fun i=>(List.replicate 56 (0:Int)).getD i 0,fun i=>(List.replicate 56 (0:Int)).getD i 0,fun _=>none⟩
set_option maxRecDepth 100000 in
theorem vT(pa:Nat):okB ((d5 pa).format ⟨3,1,8⟩) (fun a s=>a==0&&s.readC.1.log==3&&s.readC.1.roots==1&&s.readC.1.space==8&&s.readC.2==0&&(d5 pa).readC.2==7)=true:=by kernel_rfl
theorem xj(B:World)(H:List HP):
 ∀ w,Holds B H w→Calls Tryz.prog 242 [].toArray w (aZ B H (.bool true)):=by
 refine ap func242 aa ntmps242 aa (ac (ab (kPa aa aa (ad (ac (ac (ab (ax aa (ar call244 aa) (xk _ _) .free aa aa ?_))))))))
 refine kPv (bu aa) aa (ad (bE aa (rfl) (aq (ac (ab (kPb (mX (n:=56) runUnderlying30 ik sizeOf25 zeroValue25 aa aa aa (by omega)) aa fun bl=>(aI aa (ar call121 aa) (qF _ _ _ (List.replicate 56 0) (by decide) (by decide) (SlR.row (by simp[w64]) (by simp))) .free aa aa ?_)))))))
 rintro _ _ ⟨bd,pa,rfl,rfl⟩
 rw[show(⟨pa,⟨-1,0⟩,((List.replicate 56 (0:Int)).length+7) / 8*8,fun i=>(List.replicate 56 (0:Int)).getD i 0,fun i=>(List.replicate 56 (0:Int)).getD i 0,fun _=>none⟩:Dev)=d5 pa from rfl]
 refine kPa aa aa (ad (ac (ac (ab (kPm aa aa (kPv (du runUnderlying90 aa aa aa) aa (ad (bE aa (rfl) (aq (ac (ab ?_)))))))))))
 refine kPm aa aa (ax aa (ar call123 aa) (bF (q:=az) (fun Fr=>qy _ Fr _ _)) .free aa aa ?_)
 refine kPm aa aa (kPv (aA aa aa) aa (kPv (aA aa aa) aa (kPb (aE zeroValue134 aa) aa fun b2=>(kPs (ay (vs:=_) sizeOf134 aa aa aa aa aa) aa (kPa aa aa (ad (ao [3,1,0] rfl (ac (ab (dh 1 aa (kPm aa aa ?_)))))))))))
 refine kPv (aP aa (da _ _ _ aa aa aa)) aa ?_
 refine aS aa (ar call122 aa) (of _ _ _ _ ⟨3,1,8⟩) .free aa aa ?_ ?_
 rotate_left
 ·rintro _ _ ⟨s9,hm9,rfl,rfl⟩
  exact(jd (vT pa) hm9).elim
 rintro _ _ ⟨a,s1,hm1,rfl,rfl⟩
 have hev:=bR (vT pa) hm1
 simp only[Bool.and_eq_true,beq_iff_eq] at hev
 obtain⟨⟨⟨⟨⟨v1,v2⟩,v3⟩,v4⟩,v5⟩,v6⟩:=hev
 have hw5:bj s1.readC.1:=⟨by omega,by omega,by omega,by omega,by omega,by omega⟩
 refine kPa aa aa (ad (ac (ab (kPm aa aa (ax aa (ar call123 aa) (bF (q:=az) (fun Fr=>qy _ Fr _ _)) .free aa aa ?_)))))
 refine kPm aa aa (kPv (aA aa aa) aa (kPv (aA aa aa) aa (kPb (aE zeroValue134 aa) aa fun b5=>(kPs (ay (vs:=_) sizeOf134 aa aa aa aa aa) aa (kPa aa aa (ad (ao [6,5,4,3,0] rfl (ac (ab (kPm aa aa (kPv (am aa aa aa) aa ?_)))))))))))
 refine kPm aa aa ?_
 apply dq (tp:=31) (t:=28) (σ1:=[(28,_),(6,_),(5,_),(0,_)]) 3 rfl (aC rfl)
 ·intro hg1
  refine aj aa (ak aa) (.on aa aa (ae hg1)) aa aa (aj aa (am aa aa aa) (.on aa aa (ae hg1)) aa aa (kPv (au aa hg1 aa) aa ?_))
  exact aT aa (aC aa) (cE hg1)
 ·intro hg1
  refine al aa (.on aa aa (ag hg1)) aa (al aa (.on aa aa (ag hg1)) aa (kPv (aD aa hg1 aa) aa ?_))
  exact aT aa (aC aa) (cF hg1)
 refine kPm aa aa ?_
 apply dq (tp:=35) (t:=32) (σ1:=[(32,_),(5,_),(0,_)]) 3 rfl (aC rfl)
 ·intro hg2
  refine aj aa (ak aa) (.on aa aa (ae hg2)) aa aa (aj aa (am aa aa aa) (.on aa aa (ae hg2)) aa aa (kPv (au aa hg2 aa) aa ?_))
  exact aT aa (aC aa) (cE hg2)
 ·intro hg2
  refine al aa (.on aa aa (ag hg2)) aa (al aa (.on aa aa (ag hg2)) aa (kPv (aD aa hg2 aa) aa ?_))
  exact aT aa (aC aa) (cF hg2)
 refine kPm aa aa ?_
 apply dq (tp:=40) (t:=36) (σ1:=[(36,_),(0,_)]) 4 rfl ⟨rfl,rfl,trivial⟩
 ·intro hg3
  refine aj aa (ah isAgg134 sizeOf134 aa aa) (.on aa aa (ae hg3)) aa aa ?_
  refine ax aa (ar call120 aa) (iQ _ _ _ hw5) (.on aa aa (ae hg3)) aa aa ?_
  refine aj aa (am aa aa aa) (.on aa aa (ae hg3)) aa aa (kPv (au aa hg3 aa) aa ?_)
  exact aT aa ⟨rfl,rfl,trivial⟩ (cE hg3)
 ·intro hg3
  refine al aa (.on aa aa (ag hg3)) aa (al aa (.on aa aa (ag hg3)) aa (al aa (.on aa aa (ag hg3)) aa (kPv (aD aa hg3 aa) aa ?_)))
  exact aT aa ⟨rfl,rfl,trivial⟩ (cF hg3)
 refine kPa aa aa (ad (aB ?_))
 exact aw results242 aa (fun w hw=>⟨rG (by rw[v6,v1,v5];simp[Cfg.words,Cfg.frm,Cfg.root,Cfg.active,Cfg.record,gU,v2,v3,v4]),hw.tail.tail.tail.tail⟩)
def l6(d:Nat)(s:Dev):Out (Int×bJ):=((bP d ⟨3,1,8⟩ s).append s 40)
set_option maxRecDepth 100000 in
theorem vS(pa d:Nat):okB ((iz pa [] 56).format ⟨3,1,8⟩) (fun _ s=>okB (l6 d s) fun x s'=>x.1==0&&(bP d ⟨3,1,8⟩ s').n==1&&(bP d ⟨3,1,8⟩ s').epoch==1)=true:=by kernel_rfl
def s7(d:Nat)(s:Dev):bz:=⟨bP d ⟨3,1,8⟩ s,0,0,[],[]⟩
set_option maxRecDepth 100000 in
theorem vR(pa d:Nat):okB ((iz pa [] 56).format ⟨3,1,8⟩) (fun _ s=>okB ((s7 d s).store s 40 5) fun x s'=>x.1==0&&s'.load 40==5&&okB (x.2.abort s') fun _ s2=>s2.load 40==0)=true:=by kernel_rfl
theorem xi(B:World)(H:List HP):
 ∀ w,Holds B H w→Calls Tryz.prog 241 [].toArray w (aZ B H (.bool true)):=by
 refine ap func241 aa ntmps241 aa (ac (ab (kPa aa aa (ad (ac (ac (ab (ax aa (ar call242 aa) (xj _ _) .free aa aa ?_))))))))
 refine kPv (bu aa) aa (ad (bE aa (rfl) (aq (ac (ab (kPv (aP aa (da _ _ _ aa aa aa)) aa (kPb (aE zeroValue134 aa) aa fun b1=>(kPs (ay (vs:=_) sizeOf134 aa aa aa aa aa) aa (ad (ac (ab ?_)))))))))))
 refine kPv (ah isAgg134 sizeOf134 aa aa) aa ?_
 refine aI aa (ar call74 aa) (dO _ _ ⟨3,1,8⟩ fQ none 0 [] (by decide) (fun _ h=>absurd h (Nat.not_lt_zero _)) SlR.nil) .free aa aa ?_
 rintro _ _ ⟨bd,pa,N,s0,hN,hf,rfl,rfl⟩
 obtain rfl:N=56:=by have:(N:Int)=56:=hN.trans (by decide);omega
 refine kPm aa aa (kPv (aA aa aa) aa (kPv (aA aa aa) aa (kPa aa aa (kPa aa aa (ad (ao [3,2,1,0] rfl (ac (ac (ab (kPm aa aa (kPv (bu aa) aa ?_)))))))))))
 refine ad (bE aa (rfl) (aq (ac (ab (kPm aa aa (kPv (ah isAgg134 sizeOf134 aa aa) aa ?_))))))
 refine aI aa (ar call124 aa) (jO _ _ _ _ ⟨3,1,8⟩ fQ) .free aa aa ?_
 rintro _ _ ⟨bl2,rfl,rfl⟩
 refine kPa aa aa (ad (ac (ac (ab (kPm aa aa (kPv (du runUnderlying168 aa aa aa) aa (kPm aa aa (aj aa (ak aa) (.on aa aa (ae aa)) aa aa ?_))))))))
 refine aS aa (ar call144 aa) (nZ _ _ _ (bP bd ⟨3,1,8⟩ s0) s0 (il fQ) 40) (.on aa aa (ae aa)) aa aa ?_ ?_
 rotate_left
 ·rintro _ _ ⟨s9,hm9,rfl,rfl⟩
  exact(jd (bR (vS pa bd) hf) hm9).elim
 rintro _ _ ⟨a,L1,s1,hm1,rfl,rfl⟩
 have hev:=bR (bR (vS pa bd) hf) hm1
 simp only[Bool.and_eq_true,beq_iff_eq] at hev
 obtain⟨⟨e1,e2⟩,e3⟩:=hev
 refine aj aa (am aa aa aa) (.on aa aa (ae aa)) aa aa (kPv (aD aa aa aa) aa (kPm aa aa (aj aa (ak aa) (.on aa aa (ae (by rw[e1];rfl))) aa aa (aI aa (ar call179 aa) (mq _ _ _) (.on aa aa (ae (by rw[e1];rfl))) aa aa ?_))))
 rintro _ _ ⟨bb,rfl,rfl⟩
 refine aj aa (mU runUnderlying257 ⟨_,_,_,rfl⟩ rfl aa aa) (.on aa aa (ae (by rw[e1];rfl))) aa aa (kPv (aD aa (by rw[e1];rfl) aa) aa (ad (ao [30,2,1,0] rfl (bE aa (rfl) (aq (ac (ab (dh 2 aa ?_))))))))
 simp only[List.eraseIdx_cons_succ,List.eraseIdx_cons_zero]
 refine kPm aa aa (kPv (ah isAgg134 sizeOf134 aa aa) aa ?_)
 refine aI aa (ar call124 aa) (jO _ _ _ _ ⟨3,1,8⟩ fQ) .free aa aa ?_
 rintro _ _ ⟨bl5,rfl,rfl⟩
 refine kPa aa aa (ad (ac (ab (kPm aa aa (kPv (du runUnderlying168 aa aa aa) aa (kPm aa aa ?_))))))
 apply dq (tp:=40) (t:=36) (σ1:=[(36,_),(5,_),(0,_)]) 4 rfl (aC rfl)
 ·intro hg1
  refine aj aa (ak aa) (.on aa aa (ae hg1)) aa aa (ax aa (ar call93 aa) (vk _ _ _ _) (.on aa aa (ae hg1)) aa aa ?_)
  refine aj aa (am aa aa aa) (.on aa aa (ae hg1)) aa aa (kPv (au aa hg1 aa) aa ?_)
  exact aT aa (aC aa) (cE hg1)
 ·intro hg1
  refine al aa (.on aa aa (ag hg1)) aa (al aa (.on aa aa (ag hg1)) aa (al aa (.on aa aa (ag hg1)) aa (kPv (aD aa hg1 aa) aa ?_)))
  exact aT aa (aC aa) (cF hg1)
 refine kPm aa aa ?_
 apply dq (tp:=45) (t:=41) (σ1:=[(41,_),(0,_)]) 4 rfl ⟨rfl,rfl,trivial⟩
 ·intro hg2
  refine aj aa (ak aa) (.on aa aa (ae hg2)) aa aa (ax aa (ar call243 aa) (wR _ _ _ _) (.on aa aa (ae hg2)) aa aa ?_)
  refine aj aa (am aa aa aa) (.on aa aa (ae hg2)) aa aa (kPv (au aa hg2 aa) aa ?_)
  exact aT aa ⟨rfl,rfl,trivial⟩ (cE hg2)
 ·intro hg2
  refine al aa (.on aa aa (ag hg2)) aa (al aa (.on aa aa (ag hg2)) aa (al aa (.on aa aa (ag hg2)) aa (kPv (aD aa hg2 aa) aa ?_)))
  exact aT aa ⟨rfl,rfl,trivial⟩ (cF hg2)
 refine kPa aa aa (ad (aB ?_))
 exact aw results241 aa (fun w hw=>⟨rG (by
  show(!(some (⟨bl5,0,none⟩:Addr)).isNone&&(bP bd ⟨3,1,8⟩ s1).n==1&&(bP bd ⟨3,1,8⟩ s1).epoch==1)=true
  rw[e2,e3];rfl),hw.tail.tail.tail.tail.tail⟩)
theorem Bc{d:Nat}{c:Cfg}{s:Dev}{f t:Int}(h:bj c):kT ⟨bP d c s,f,t,[],[]⟩:=⟨il h,by simp⟩
theorem qh{S S':bz}{s s':Dev}{i v a:Int}(h:kT S)(hs:s.n≤1000000)(ha:0≤S.L.c.active)(e:S.store s i v= .ok (a,S') s')(hw:dD S'.L):kT S':=by
 refine⟨hw,?_⟩
 unfold bz.store at e
 split at e
 ·cases e;exact h.dirty
 ·rename_i hb
  split at e
  ·cases h1:S.L.append s i with
   | off t=>rw[h1] at e;cases e
   | ok x t=>
     rw[h1,aQ] at e
     split at e
     ·cases e;exact h.dirty
     ·cases h2:t.store i v with
      | off u=>rw[h2] at e;cases e
      | ok y u=>
        rw[h2,aQ] at e;cases e
        intro p hp
        rcases lk hp with rfl | hp
        ·simp only;omega
        ·exact h.dirty p hp
  ·cases h2:s.store i v with
   | off u=>rw[h2] at e;cases e
   | ok y u=>
     rw[h2,aQ] at e;cases e
     intro p hp
     rcases lk hp with rfl | hp
     ·simp only;omega
     ·exact h.dirty p hp
theorem zD{L L':bJ}{s s':Dev}{i a:Int}(h:dD L)(e:L.append s i= .ok (a,L') s'):dD L':=by
 unfold bJ.append at e
 split at e
 ·cases e;exact h
 ·split at e
  ·cases e;exact h
  ·rename_i hn
   have h1:=h.n2
   have h2:=h.n1
   simp only[Out.then] at e
   repeat' split at e
   all_goals first | (cases e;exact⟨h.c,h.e1,h.e2,by simp only;omega,by simp only;omega⟩) | cases e
theorem jF{S S':bz}{s s':Dev}{i v a:Int}(h:dD S.L)(e:S.store s i v= .ok (a,S') s'):dD S'.L:=by
 unfold bz.store at e
 split at e
 ·cases e;exact h
 ·split at e
  ·cases h1:S.L.append s i with
   | off t=>rw[h1] at e;cases e
   | ok x t=>
     obtain⟨x1,x2⟩:=x
     have hx:=zD h h1
     rw[h1,aQ] at e
     split at e
     ·cases e;exact hx
     ·cases h2:t.store i v with
      | off u=>rw[h2] at e;cases e
      | ok y u=>rw[h2,aQ] at e;cases e;exact hx
  ·cases h2:s.store i v with
   | off u=>rw[h2] at e;cases e
   | ok y u=>rw[h2,aQ] at e;cases e;exact h
theorem ni{S S':bz}{s s':Dev}{i v a:Int}(e:S.store s i v= .ok (a,S') s'):S'.L.d=S.L.d∧S'.L.c=S.L.c∧S'.ff=S.ff∧S'.ft=S.ft:=by
 unfold bz.store at e
 split at e
 ·cases e;exact⟨rfl,rfl,rfl,rfl⟩
 ·split at e
  ·cases h1:S.L.append s i with
   | off t=>rw[h1] at e;cases e
   | ok x t=>
     obtain⟨x1,x2⟩:=x
     have hx:=l5 h1
     rw[h1,aQ] at e
     split at e
     ·cases e;exact⟨hx.1,hx.2,rfl,rfl⟩
     ·cases h2:t.store i v with
      | off u=>rw[h2] at e;cases e
      | ok y u=>rw[h2,aQ] at e;cases e;exact⟨hx.1,hx.2,rfl,rfl⟩
  ·cases h2:s.store i v with
   | off u=>rw[h2] at e;cases e
   | ok y u=>rw[h2,aQ] at e;cases e;exact⟨rfl,rfl,rfl,rfl⟩
theorem xh(B:World)(H:List HP):
 ∀ w,Holds B H w→Calls Tryz.prog 240 [].toArray w (aZ B H (.bool true)):=by
 refine ap func240 aa ntmps240 aa (ac (ab (kPa aa aa (ad (ac (ac (ab (ax aa (ar call241 aa) (xi _ _) .free aa aa ?_))))))))
 refine kPv (bu aa) aa (ad (bE aa (rfl) (aq (ac (ab (kPv (aP aa (da _ _ _ aa aa aa)) aa (kPb (aE zeroValue134 aa) aa fun b1=>(kPs (ay (vs:=_) sizeOf134 aa aa aa aa aa) aa (ad (ac (ab ?_)))))))))))
 refine kPv (ah isAgg134 sizeOf134 aa aa) aa ?_
 refine aI aa (ar call74 aa) (dO _ _ ⟨3,1,8⟩ fQ none 0 [] (by decide) (fun _ h=>absurd h (Nat.not_lt_zero _)) SlR.nil) .free aa aa ?_
 rintro _ _ ⟨bd,pa,N,s0,hN,hf,rfl,rfl⟩
 obtain rfl:N=56:=by have:(N:Int)=56:=hN.trans (by decide);omega
 refine kPm aa aa (kPv (aA aa aa) aa (kPv (aA aa aa) aa (kPa aa aa (kPa aa aa (ad (ao [3,2,1,0] rfl (ac (ac (ab (kPm aa aa (kPv (bu aa) aa ?_)))))))))))
 refine ad (bE aa (rfl) (aq (ac (ab (kPm aa aa (kPv (ah isAgg134 sizeOf134 aa aa) aa ?_))))))
 refine aI aa (ar call115 aa) (qk _ _ _ _ ⟨3,1,8⟩ fQ) .free aa aa ?_
 rintro _ _ ⟨bs,rfl,rfl⟩
 refine kPa aa aa (ad (ao [4,2,0] rfl (ac (ac (ab (kr fun bl o1 o2=>(kPm aa aa (kPv (du runUnderlying146 aa aa aa) aa (kPm aa aa (aj aa (ak aa) (.on aa aa (ae aa)) aa aa (aj aa (aJ aa) (.on aa aa (ae aa)) aa aa ?_)))))))))))
 refine aj aa (aF (m:=_) hG aa aa) (.on aa aa (ae aa)) aa aa (aj aa (ai isAgg168 aa aa) (.on aa aa (ae aa)) aa aa (aj aa (du runUnderlying168 aa aa aa) (.on aa aa (ae aa)) aa aa (kPv (aD aa aa aa) aa (ad (ao [30,4,2,0] rfl (bE aa (rfl) (aq (ac (ab (aM (H':=fa bs (⟨bP bd ⟨3,1,8⟩ s0,0,0,[],[]⟩:bz)::az bd s0::row b1 _ 134::H) (fun w hh=>dL (S:=(⟨bP bd ⟨3,1,8⟩ s0,0,0,[],[]⟩:bz)) hh) (kE bd fun hn1 hn2 hn3=> ?_)))))))))))
 refine kPm aa aa (kPv (aP aa (vY)) aa (dM aa (ar call83 aa) (jb _ _ _ _ _ _) .free aa aa ?_))
 refine kPm aa aa ?_
 refine aS aa (ar call86 aa) (nj _ _ _ (⟨bP bd ⟨3,1,8⟩ s0,0,0,[],[]⟩:bz) s0 (Bc fQ) _ _) .free aa aa ?_ ?_
 rotate_left
 ·rintro _ _ ⟨s9,hm9,rfl,rfl⟩
  exact(jd (bR (vR pa bd) hf) hm9).elim
 rintro _ _ ⟨a,S1,s1,hm1,rfl,rfl⟩
 have hev:=bR (bR (vR pa bd) hf) hm1
 simp only[Bool.and_eq_true,beq_iff_eq] at hev
 obtain⟨⟨e1,e2⟩,e3⟩:=hev
 have hd:=(ni hm1).1
 have hW1:kT S1:=qh (Bc fQ) hn3 (show(0:Int)≤(Cfg.mk 3 1 8).active by decide) hm1 (jF (il fQ) hm1)
 refine aM (H':=iB bs S1::az bd s1::row b1 _ 134::H) (fun w hh=>hh) (kPa aa aa (kPa aa aa (ad (ac (ab (kPm aa aa (ax aa (ar call173 aa) (bF (q:=az) (fun Fr=>cf _ Fr _ _ _)) .free aa aa ?_)))))))
 refine kPa aa aa (ad (ao [7,6,5,4,2,0] rfl (ac (ab (aM (H':=iB bs S1::az S1.L.d s1::row b1 _ 134::H) (fun w hh=>by rw[hd];exact hh) (kPm aa aa ?_))))))
 refine aS aa (ar call206 aa) (nx _ _ _ S1 s1 hW1) .free aa aa ?_ ?_
 rotate_left
 ·rintro _ _ ⟨s9,hm9,rfl,rfl⟩
  exact(jd e3 hm9).elim
 rintro _ _ ⟨S2,s2,hm2,rfl,rfl⟩
 have e4:=bR e3 hm2
 simp only[beq_iff_eq] at e4
 refine aM (H':=fa bs S2::az bd s2::row b1 _ 134::H) (fun w hh=>by rw[hd] at hh;exact hh) (kPa aa aa (ad (ac (ab (kPm aa aa (kPv (am aa aa aa) aa (kPm aa aa ?_)))))))
 apply dq (tp:=45) (t:=42) (σ1:=[(42,_),(8,_),(7,_),(4,_),(2,_),(0,_)]) 3 rfl (aC rfl)
 ·intro hg1
  refine aj aa (ak aa) (.on aa aa (ae hg1)) aa aa (aj aa (am aa aa aa) (.on aa aa (ae hg1)) aa aa (kPv (au aa hg1 aa) aa ?_))
  exact aT aa (aC aa) (cE hg1)
 ·intro hg1
  refine al aa (.on aa aa (ag hg1)) aa (al aa (.on aa aa (ag hg1)) aa (kPv (aD aa hg1 aa) aa ?_))
  exact aT aa (aC aa) (cF hg1)
 refine kPm aa aa ?_
 apply dq (tp:=49) (t:=46) (σ1:=[(46,_),(7,_),(4,_),(2,_),(0,_)]) 3 rfl (aC rfl)
 ·intro hg2
  refine aj aa (ak aa) (.on aa aa (ae hg2)) aa aa (aj aa (am aa aa aa) (.on aa aa (ae hg2)) aa aa (kPv (au aa hg2 aa) aa ?_))
  exact aT aa (aC aa) (cE hg2)
 ·intro hg2
  refine al aa (.on aa aa (ag hg2)) aa (al aa (.on aa aa (ag hg2)) aa (kPv (aD aa hg2 aa) aa ?_))
  exact aT aa (aC aa) (cF hg2)
 refine kPm aa aa ?_
 apply dq (tp:=53) (t:=50) (σ1:=[(50,_),(4,_),(2,_),(0,_)]) 3 rfl (aC rfl)
 ·intro hg3
  refine aj aa (ak aa) (.on aa aa (ae hg3)) aa aa (aj aa (am aa aa aa) (.on aa aa (ae hg3)) aa aa (kPv (au aa hg3 aa) aa ?_))
  exact aT aa (aC aa) (cE hg3)
 ·intro hg3
  refine al aa (.on aa aa (ag hg3)) aa (al aa (.on aa aa (ag hg3)) aa (kPv (aD aa hg3 aa) aa ?_))
  exact aT aa (aC aa) (cF hg3)
 refine kPm aa aa ?_
 apply dq (tp:=58) (t:=54) (σ1:=[(54,_),(4,_),(0,_)]) 4 rfl (aC rfl)
 ·intro hg4
  refine aj aa (ak aa) (.on aa aa (ae hg4)) aa aa (ax aa (ar call173 aa) (bF (q:=az) (fun Fr=>cf _ Fr _ _ _)) (.on aa aa (ae hg4)) aa aa ?_)
  refine aj aa (am aa aa aa) (.on aa aa (ae hg4)) aa aa (kPv (au aa hg4 aa) aa ?_)
  exact aT aa (aC aa) (cE hg4)
 ·intro hg4
  refine al aa (.on aa aa (ag hg4)) aa (al aa (.on aa aa (ag hg4)) aa (al aa (.on aa aa (ag hg4)) aa (kPv (aD aa hg4 aa) aa ?_)))
  exact aT aa (aC aa) (cF hg4)
 refine kPm aa aa ?_
 apply dq (tp:=63) (t:=59) (σ1:=[(59,_),(0,_)]) 4 rfl ⟨rfl,rfl,trivial⟩
 ·intro hg5
  refine aj aa (ak aa) (.on aa aa (ae hg5)) aa aa (ax aa (ar call80 aa) (lM _ _ _ _) (.on aa aa (ae hg5)) aa aa ?_)
  refine aj aa (bu aa) (.on aa aa (ae hg5)) aa aa (kPv (au aa hg5 aa) aa ?_)
  exact aT aa ⟨rfl,rfl,trivial⟩ (cE hg5)
 ·intro hg5
  refine al aa (.on aa aa (ag hg5)) aa (al aa (.on aa aa (ag hg5)) aa (al aa (.on aa aa (ag hg5)) aa (kPv (aD aa hg5 aa) aa ?_)))
  exact aT aa ⟨rfl,rfl,trivial⟩ (cF hg5)
 refine kPa aa aa (ad (aB ?_))
 exact aw results240 aa (fun w hw=>⟨rG (by rw[e1,e2,e4];rfl),hw.tail.tail.tail⟩)
def Dev.pk(s:Dev)(x:Nat):Int:=eA s.kept s.q x
def Run{α:Type}(m:Out α)(R:Dev→Prop):Prop:=∃ a s,m= .ok a s∧R s
theorem cV{α β:Type}{m:Out α}{f:α→Dev→Out β}{R Q:Dev→Prop}(h:Run m R)(g:∀ a s,R s→Run (f a s) Q):Run (m.then f) Q:=by
 obtain⟨a,s,rfl,h1⟩:=h
 exact g a s h1
structure FI(N:Nat)(D:Nat→Prop)(V:Nat→Int→Prop)(s:Dev):Prop where
 lim:s.pow.lim<0
 n:s.n=N
 p:∀ x,¬ D (x / 8)→s.pk x=s.now x
 v:∀ x y,V x y→s.now x=y
theorem nK(s:Dev)(i x:Nat):(s.up.fl i).pk x=if x / 8=i / 8 then s.now x else s.pk x:=by
 simp only[Dev.pk,Dev.fl,Dev.up,eA,upd]
 by_cases e:x / 8=i / 8
 ·rw[if_pos e,if_pos e]
  simp only
  congr 1;omega
 ·rw[if_neg e,if_neg e]
theorem x9(s:Dev)(x:Nat):s.up.fe.pk x=s.pk x:=rfl
theorem iD{N:Nat}{D:Nat→Prop}{V V':Nat→Int→Prop}{s:Dev}{i v:Int}(h:FI N D V s)(hi:0≤i∧i<N)(hv:∀ x y,V' x y→(x=i.toNat∧y=v)∨(x≠i.toNat∧V x y)):
 Run (s.store i v) (FI N (fun l=>D l∨l=i.toNat / 8) V'):=by
 refine⟨0,_,k8 h.lim ⟨hi.1,by rw[h.n];exact hi.2⟩,?_⟩
 refine⟨h.lim,h.n,fun x hx=> ?_,fun x y hp=> ?_⟩
 ·have hne:x≠i.toNat:=fun e=>hx (.inr (by rw[e]))
  show s.pk x=upd s.now i.toNat v x
  simp only[upd,if_neg hne]
  exact h.p x fun hd=>hx (.inl hd)
 ·show upd s.now i.toNat v x=y
  rcases hv x y hp with ⟨e1,e2⟩ | ⟨e1,e2⟩
  ·simp only[upd,if_pos e1,e2]
  ·simp only[upd,if_neg e1];exact h.v x y e2
theorem iE{N:Nat}{D D':Nat→Prop}{V:Nat→Int→Prop}{s:Dev}{i:Int}(h:FI N D V s)(hi:0≤i∧i<N)(hD:∀ l,D l→D' l∨l=i.toNat / 8):
 Run (s.flush i) (FI N D' V):=by
 refine⟨0,_,oh h.lim ⟨hi.1,by rw[h.n];exact hi.2⟩,?_⟩
 refine⟨h.lim,h.n,fun x hx=> ?_,h.v⟩
 rw[nK]
 by_cases e:x / 8=i.toNat / 8
 ·rw[if_pos e];rfl
 ·rw[if_neg e]
  exact h.p x fun hd=>(hD _ hd).elim hx e
theorem lN{N:Nat}{D:Nat→Prop}{V:Nat→Int→Prop}{s:Dev}(h:FI N D V s):Run s.fence (fun s'=>FI N D V s'∧s'.kept=s'.pk∧s'.q=fun _=>none):=by
 refine⟨(),_,lr h.lim,⟨h.lim,h.n,fun x hx=> ?_,h.v⟩,rfl,rfl⟩
 rw[x9];exact h.p x hx
def VZ(V:Nat→Int→Prop)(f:Int→Int)(i:Int)(k:Nat)(x:Nat)(y:Int):Prop:=(V x y∧∀ j:Int,i≤j→j<i+k→x≠(f j).toNat)∨(y=0∧∃ j:Int,i≤j∧j<i+k∧x=(f j).toNat)
theorem ny{N:Nat}{D:Nat→Prop}(f:Int→Int):∀ (k:Nat) (V:Nat→Int→Prop) (i:Int) (s:Dev),FI N D V s→(∀ j:Int,i≤j→j<i+k→0≤f j∧f j<N)→Run (dZ f k i s) (FI N D (VZ V f i k))
 | 0,V,i,s,h,_=>⟨(),s,rfl,h.lim,h.n,h.p,fun x y hv=>by
   rcases hv with ⟨h1,_⟩ | ⟨_,j,h1,h2,_⟩
   ·exact h.v x y h1
   ·omega⟩
 | k+1,V,i,s,h,hf=>by
   have hfi:=hf i (Int.le_refl _) (by omega)
   refine cV (iD (V':=fun x y=>(V x y∧x≠(f i).toNat)∨(y=0∧x=(f i).toNat)) h hfi fun x y hp=> ?_) fun _ s1 h1=>cV (iE (D':=D) h1 hfi fun l hl=>hl) fun _ s2 h2=> ?_
   ·rcases hp with ⟨h1,h2⟩ | ⟨h1,h2⟩
    ·exact .inr ⟨h2,h1⟩
    ·exact .inl ⟨h2,h1⟩
   ·obtain⟨a,s3,e,h3⟩:=ny f k _ (i+1) s2 h2 (fun j h3 h4=>hf j (by omega) (by omega))
    refine⟨a,s3,e,h3.lim,h3.n,h3.p,fun x y hv=>h3.v x y ?_⟩
    rcases hv with ⟨g1,g2⟩ | ⟨g1,j,g2,g3,g4⟩
    ·exact .inl ⟨.inl ⟨g1,g2 i (by omega) (by omega)⟩,fun j h5 h6=>g2 j (by omega) (by omega)⟩
    ·by_cases hx:∃ j:Int,i+1≤j∧j<i+1+k∧x=(f j).toNat
     ·exact .inr ⟨g1,hx⟩
     ·refine .inl ⟨.inr ⟨g1,?_⟩,fun j' h5 h6 h7=>hx ⟨j',h5,h6,h7⟩⟩
      by_cases hj:j=i
      ·rw[g4,hj]
      ·exact absurd ⟨j,by omega,by omega,g4⟩ hx
theorem uZ{N:Nat}(l:List Int)(hN:40≤N):∀ (k i:Nat) (V:Nat→Int→Prop) (s:Dev),i+k≤3→FI N (fun l=>l=0) V s→Run (st3 l k i s) (FI N (fun l=>l=0) (fun x y=>(V x y∧(x<1+i∨1+i+k≤x))∨(1+i≤x∧x<1+i+k∧y=l.getD (x - 1) 0)))
 | 0,i,V,s,_,h=>⟨(),s,rfl,h.lim,h.n,h.p,fun x y hv=>by
   rcases hv with ⟨h1,_⟩ | ⟨h1,h2,_⟩
   ·exact h.v x y h1
   ·omega⟩
 | k+1,i,V,s,hk,h=>by
   refine cV (iD (V':=fun x y=>(V x y∧x≠1+i)∨(x=1+i∧y=l.getD i 0)) h ⟨by omega,by omega⟩ fun x y hp=> ?_) fun _ s1 h1=> ?_
   ·have e:(1+(i:Int)).toNat=1+i:=by omega
    rw[e]
    rcases hp with ⟨h1,h2⟩ | ⟨h1,h2⟩
    ·exact .inr ⟨h2,h1⟩
    ·exact .inl ⟨h1,h2⟩
   ·obtain⟨a,s3,e,h3⟩:=uZ l hN k (i+1) _ s1 (by omega) ⟨h1.lim,h1.n,fun x hx=>h1.p x fun hd=>by
     rcases hd with h2 | h2
     ·exact hx h2
     ·exact hx (by rw[h2];omega),h1.v⟩
    refine⟨a,s3,e,h3.lim,h3.n,h3.p,fun x y hv=>h3.v x y ?_⟩
    rcases hv with ⟨g1,g2⟩ | ⟨g1,g2,g3⟩
    ·exact .inl ⟨.inl ⟨g1,by omega⟩,by omega⟩
    ·by_cases hx:x=1+i
     ·exact .inl ⟨.inr ⟨hx,by rw[g3,hx];congr 1;omega⟩,by omega⟩
     ·exact .inr ⟨by omega,by omega,g3⟩
theorem FI.weak{N:Nat}{D D':Nat→Prop}{V V':Nat→Int→Prop}{s:Dev}(h:FI N D V s)(hD:∀ l,D l→D' l)(hv:∀ x y,V' x y→V x y):FI N D' V' s:=⟨h.lim,h.n,fun x hx=>h.p x fun hd=>hx (hD _ hd),fun x y hp=>h.v x y (hv x y hp)⟩
structure zK(s:Dev):Prop where
 kept:s.kept=s.now
 q:s.q=fun _=>none
structure Bj(c:Cfg)(s:Dev):Prop where
 ep:s.now 8=1
 recs:∀ k:Nat,(k:Int)<c.log→s.now (16+4*k)=0
 block:∀ x:Nat,c.active≤x→x<c.root c.roots→s.now x=0
 magic:s.now 0=gg
 cfg:s.now 1=c.log∧s.now 2=c.roots∧s.now 3=c.space
theorem uj{s:Dev}{c:Cfg}{N:Nat}(hc:bj c)(hn:(s.n:Int)=c.words)(hN:s.n=N)(hl:s.pow.lim<0)(hs:zK s):Run (s.format c) (fun s'=>zK s'∧s'.pow.lim<0∧s'.n=N∧Bj c s'):=by
 have hw:=words_b hc
 have hact:=hc.act
 have:=hc.r1;have:=hc.r2;have:=hc.l1;have:=hc.l2;have:=hc.s1;have:=hc.s2
 have hroot:c.active≤c.root c.roots∧c.root c.roots≤c.words:=by
  have h1:=fL (n:=c.root c.roots) (by simp only[Cfg.root];omega)
  have h2:=fL (n:=c.space) (by omega)
  refine⟨by simp only[Cfg.root];omega,?_⟩
  simp only[Cfg.words,Cfg.frm]
  omega
 have hN40:40≤N:=by omega
 have h0:FI N (fun _=>False) (fun _ _=>False) s:=⟨hl,hN,fun x _=>by rw[Dev.pk,hs.q];show s.kept x=_;rw[hs.kept],fun _ _ h=>h.elim⟩
 unfold Dev.format
 rw[if_neg (cq hc hn)]
 refine cV (iD (V':=fun _ _=>False) h0 ⟨by omega,by omega⟩ fun _ _ h=>h.elim) fun _ s1 h1=> ?_
 refine cV (iE (D':=fun _=>False) h1 ⟨by omega,by omega⟩ fun l hl=>hl) fun _ s2 h2=> ?_
 refine cV (lN h2) fun _ s3 h3=> ?_
 refine cV (uZ _ hN40 3 0 _ s3 (by omega) (h3.1.weak (V':=fun _ _=>False) (fun _ h=>h.elim) fun _ _ h=>h)) fun _ s4 h4=> ?_
 refine cV (iD (V':=fun x y=>(x=8∧y=1)∨(x=1∧y=c.log)∨(x=2∧y=c.roots)∨(x=3∧y=c.space)) h4 ⟨by omega,by omega⟩ fun x y hp=> ?_) fun _ s5 h5=> ?_
 ·rcases hp with ⟨e1,e2⟩ | ⟨e1,e2⟩ | ⟨e1,e2⟩ | ⟨e1,e2⟩
  ·exact .inl ⟨e1,e2⟩
  ·exact .inr ⟨by rw[e1];decide,.inr ⟨by omega,by omega,by rw[e2,e1];rfl⟩⟩
  ·exact .inr ⟨by rw[e1];decide,.inr ⟨by omega,by omega,by rw[e2,e1];rfl⟩⟩
  ·exact .inr ⟨by rw[e1];decide,.inr ⟨by omega,by omega,by rw[e2,e1];rfl⟩⟩
 refine cV (iE (D':=fun l=>l=0) h5 ⟨by omega,by omega⟩ fun l hl=>hl) fun _ s6 h6=> ?_
 refine cV (ny c.record c.log.toNat _ 0 s6 h6 fun j h3 h4=>⟨by simp only[Cfg.record];omega,by simp only[Cfg.record];omega⟩) fun _ s7 h7=> ?_
 refine cV (ny id (c.root c.roots - c.active).toNat _ c.active s7 h7 fun j h3 h4=>⟨by simp only[id];omega,by simp only[id];omega⟩) fun _ s8 h8=> ?_
 refine cV (iE (D':=fun _=>False) h8 ⟨by omega,by omega⟩ fun l hl=> .inr (by simpa using hl)) fun _ s9 h9=> ?_
 refine cV (lN h9) fun _ s10 h10=> ?_
 have hold:∀ x y,x≠0→VZ (VZ (fun x y=>(x=8∧y=1)∨(x=1∧y=c.log)∨(x=2∧y=c.roots)∨(x=3∧y=c.space)) c.record 0 c.log.toNat) id c.active (c.root c.roots - c.active).toNat x y→True:=fun _ _ _ _=>trivial
 refine cV (iD (V':=fun x y=>(x=0∧y=gg)∨(x≠0∧VZ (VZ (fun x y=>(x=8∧y=1)∨(x=1∧y=c.log)∨(x=2∧y=c.roots)∨(x=3∧y=c.space)) c.record 0 c.log.toNat) id c.active (c.root c.roots - c.active).toNat x y)) h10.1 ⟨by omega,by omega⟩ fun x y hp=> ?_) fun _ s11 h11=> ?_
 ·rcases hp with ⟨e1,e2⟩ | ⟨e1,e2⟩
  ·exact .inl ⟨e1,e2⟩
  ·exact .inr ⟨e1,e2⟩
 refine cV (iE (D':=fun _=>False) h11 ⟨by omega,by omega⟩ fun l hl=>hl) fun _ s12 h12=> ?_
 refine cV (lN h12) fun _ s13 h13=> ?_
 have hkeep:∀ x y,x≠0→x<16→((x=8∧y=1)∨(x=1∧y=c.log)∨(x=2∧y=c.roots)∨(x=3∧y=c.space))→s13.now x=y:=fun x y h1 h2 h3=>h13.1.v x y (.inr ⟨h1,.inl ⟨.inl ⟨h3,fun j _ _=>by simp only[Cfg.record];omega⟩,fun j _ _=>by simp only[id];omega⟩⟩)
 refine⟨0,s13,rfl,⟨?_,h13.2.2⟩,h13.1.lim,h13.1.n,hkeep 8 1 (by decide) (by decide) (.inl ⟨rfl,rfl⟩),fun k hk=> ?_,fun x hx1 hx2=> ?_,h13.1.v 0 _ (.inl ⟨rfl,rfl⟩),hkeep 1 _ (by decide) (by decide) (.inr (.inl ⟨rfl,rfl⟩)),hkeep 2 _ (by decide) (by decide) (.inr (.inr (.inl ⟨rfl,rfl⟩))),hkeep 3 _ (by decide) (by decide) (.inr (.inr (.inr ⟨rfl,rfl⟩)))⟩
 ·rw[h13.2.1];funext x;exact h13.1.p x (fun h=>h)
 ·exact h13.1.v _ _ (.inr ⟨by omega,.inl ⟨.inr ⟨rfl,k,by omega,by omega,by simp only[Cfg.record];omega⟩,fun j h1 _=>by simp only[id];omega⟩⟩)
 ·exact h13.1.v _ _ (.inr ⟨by omega,.inr ⟨rfl,x,by omega,by omega,by simp⟩⟩)
structure Fmt(c:Cfg)(N:Nat)(s:Dev):Prop where
 calm:zK s
 lim:s.pow.lim<0
 n:s.n=N
 log:∀ d,bP d c s=⟨d,c,1,0⟩
 ep:s.now 8=1∧s.now 16=0
 st:Bj c s
theorem tW{s:Dev}{c:Cfg}{e:Int}(h:s.load (c.record 0)≠ga e 0):∀ f,gt s c e f 0=0
 | 0=>rfl
 | f+1=>by simp only[gt];rw[if_neg h]
theorem og{pa N:Nat}{xs:List Int}{c:Cfg}{s:Dev}(hc:bj c)(hN:(N:Int)=c.words)(h:(iz pa xs N).format c= .ok 0 s):Fmt c N s:=by
 have hw:=words_b hc
 obtain⟨a,t,e,h1,h2,h3,hst⟩:=uj (s:=iz pa xs N) hc hN rfl (show(-1:Int)<0 by decide) ⟨rfl,rfl⟩
 rw[h] at e;cases e
 have h3:s.n=N:=h3
 have h4:=hst.ep
 have h5:s.now 16=0:=hst.recs 0 (by have:=hc.l1;have:=hc.r1;omega)
 refine⟨h1,h2,h3,fun d=> ?_,⟨h4,h5⟩,hst⟩
 have e8:s.load 8=1:=by
  have:s.has 8=true:=by simp[Dev.has,h3];omega
  simp[Dev.load,this,h4]
 have e16:s.load (c.record 0)=0:=by
  have:s.has 16=true:=by simp[Dev.has,h3];omega
  show s.load 16=0
  simp[Dev.load,this,h5]
 unfold bP
 rw[e8]
 have:gt s c (1%4294967296) c.log.toNat 0=0:=tW (by rw[e16];decide) _
 rw[this];rfl
structure Blk where
 act:Int
 used:Int
 rts:List Int
def U64(s:Dev):Prop:=∀ x,0≤s.now x∧s.now x<18446744073709551616
theorem U64.load{s:Dev}(h:U64 s)(i:Int):0≤s.load i∧s.load i<18446744073709551616:=by
 unfold Dev.load
 split
 ·exact h _
 ·omega
def Dev.block(s:Dev)(c:Cfg):Blk×Int:=
 if 1<s.load c.active∨c.space<s.load (c.active+1) then (⟨0,0,[]⟩,10)
 else (⟨s.load c.active,s.load (c.active+1),tab c.roots.toNat fun i=>s.load (c.root i)⟩,0)
structure fS(c:Cfg)(b:Blk):Prop where
 act:0≤b.act∧b.act≤1
 used:0≤b.used∧b.used≤c.space
theorem dA{s:Dev}{c:Cfg}(hc:bj c)(hu:U64 s):fS c (s.block c).1:=by
 have h1:=hu.load c.active
 have h2:=hu.load (c.active+1)
 have:=hc.s1
 unfold Dev.block
 split
 ·exact⟨⟨by decide,by decide⟩,⟨by decide,by show(0:Int)≤c.space;omega⟩⟩
 ·rename_i h
  exact⟨⟨by simp only;omega,by simp only;omega⟩,⟨by simp only;omega,by simp only;omega⟩⟩
def Blk.place(b:Blk)(c:Cfg)(i:Int):Int:=c.frm b.act+i
def Blk.has(b:Blk)(c:Cfg)(w:Int):Bool:=decide (c.frm b.act≤w)&&decide (w - c.frm b.act<b.used)
abbrev cX:=Int×Int×Int
def Dev.objOf(s:Dev)(c:Cfg)(b:Blk)(at_:Int):cX×Int:=
 if at_<0∨b.has c at_=false then ((0,0,0),6)
 else if (unp (s.load at_)).2.2=false∨b.place c b.used - at_<(unp (s.load at_)).1+1 then ((0,0,0),8)
 else (((unp (s.load at_)).1,(unp (s.load at_)).2.1,at_),0)
def ce(o:cX)(i:Int)(ref:Bool):Int×Int:=
 if i<0∨o.1≤i then (0,1) else if decide (i<o.2.1)≠ref then (0,5) else (o.2.2+1+i,0)
def Dev.objRead(s:Dev)(o:cX)(i:Int):Int×Int:=if (ce o i false).2≠0 then (0,(ce o i false).2) else (s.load (ce o i false).1,0)
def Dev.objNames(s:Dev)(o:cX):Nat→Int→List (Int×Int)
 | 0,_=>[]
 | f+1,k=>if IntKind.i64.wrap (s.load (o.2.2+1+k))≠0 then (k,IntKind.i64.wrap (s.load (o.2.2+1+k)))::s.objNames o f (k+1) else s.objNames o f (k+1)
def Dev.objs(s:Dev)(c:Cfg)(b:Blk):Nat→Int→List (cX×Int)
 | 0,_=>[]
 | f+1,at_=>if b.place c b.used≤at_ then [] else
   if (s.objOf c b at_).2≠0 then [((0,0,at_),(s.objOf c b at_).2)]
   else s.objOf c b at_::s.objs c b f (at_+((s.objOf c b at_).1.1+1))
theorem ip{c:Cfg}(hc:bj c){k:Int}(hk:0≤k∧k≤2):24<c.frm k∧c.frm k+(2 - k)*c.space≤c.words∧c.words≤20000∧c.active+2+c.roots≤c.frm k∧c.frm k≤c.words:=by
 have h1:=hc.act
 have h2:=words_b hc
 have:=hc.r1;have:=hc.r2;have:=hc.l1;have:=hc.l2;have:=hc.s1;have:=hc.s2
 have h3:=fL (n:=c.root c.roots) (by simp only[Cfg.root];omega)
 have h4:=fL (n:=c.space) (by omega)
 simp only[Cfg.words,Cfg.frm,Cfg.root] at*
 rcases (by omega:k=0∨k=1∨k=2) with rfl | rfl | rfl<;>omega
theorem kb{c:Cfg}{b:Blk}(hc:bj c)(hb:fS c b){w:Int}(h:b.has c w=true):c.frm b.act≤w∧w<c.frm b.act+b.used∧w<20000∧24<w:=by
 have h1:=hb.act
 have h2:=hb.used
 have h3:=ip hc (k:=b.act) (by omega)
 have:=hc.s1
 unfold Blk.has at h
 simp only[Bool.and_eq_true,decide_eq_true_eq] at h
 rcases (by omega:b.act=0∨b.act=1) with e | e<;>(rw[e] at h h3 ⊢;omega)
def mkC(l r s:Int):Cfg:=⟨1+r%6+2+l%12,1+r%6,8+s%90⟩
theorem vi{l r s:Int}(hl:0≤l)(hr:0≤r)(hs:0≤s):bj (mkC l r s):=⟨by simp only[mkC];omega,by simp only[mkC];omega,by simp only[mkC];omega,by simp only[mkC];omega,by simp only[mkC];omega,by simp only[mkC];omega⟩
abbrev u16(x:Int):Value:= .int .u16 x
theorem jH{a:Int}(k:Int)(h:0≤a):a.tmod k=a%k:=Int.tmod_eq_emod_of_nonneg h
theorem vj(B:World)(H:List HP)(l r s:Int)(hl:0≤l)(hr:0≤r)(hs:0≤s):
 ∀ w,Holds B H w→Calls Tryz.prog 73 [.agg #[u16 l,u16 r,u16 s]].toArray w (aZ B H (dQ (mkC l r s))):=by
 refine ap func73 aa ntmps73 aa (ac (ab (kPb (aY aa) aa fun b1=>(kPb (aE zeroValue134 aa) aa fun b2=>(ad (ac (ab (kPl AI isAgg48 aa aa aa aa (kPv (fP (c:=r%6) aa aa (by decide) (jH 6 (by omega))) aa (kPv (bK runUnderlying48 runUnderlying3 aa) aa (kPv (aN aa aa) aa ?_)))))))))))
 refine kPa aa aa (ad (ac (ab (kPm aa aa (kPm aa aa (kPv (aN aa aa) aa (kPl AJ isAgg48 aa aa aa aa (kPv (fP (c:=l%12) aa aa (by decide) (jH 12 (by omega))) aa (kPv (bK runUnderlying48 runUnderlying3 aa) aa (kPv (aN aa aa) aa (kPl AH isAgg48 aa aa aa aa ?_)))))))))))
 refine kPv (fP (c:=s%90) aa aa (by decide) (jH 90 (by omega))) aa (kPv (bK runUnderlying48 runUnderlying3 aa) aa (kPv (aN aa aa) aa (kPv (aP aa (ph _ _ _ aa aa aa)) aa (kPs (ay (vs:=_) sizeOf134 aa aa aa aa aa) aa (ad (ao [2] rfl (aB ?_)))))))
 exact pv results73 (.cellA aa isAgg134 sizeOf134 aa aa) (fun w hw=>⟨rfl,hw.tail.tail⟩)
theorem zg(B:World)(H:List HP)(q1 q2:Option Addr)(c1 c2:Nat)(xs ys:List Int)(hx:xs.length≤1000000)(hy:ys.length≤1000000)(h1:∀ i,i<xs.length→∃ b off,q1=some ⟨b,off,none⟩)(h2:∀ i,i<ys.length→∃ b off,q2=some ⟨b,off,none⟩)(r1:SlR B H (.slice q1 xs.length c1) (xs.map w64))(r2:SlR B H (.slice q2 ys.length c2) (ys.map w64)):
 ∀ w,Holds B H w→Calls Tryz.prog 25 [.slice q1 xs.length c1,.slice q2 ys.length c2].toArray w (aZ B H (.bool (decide (xs=ys)))):=by
 refine ap func25 aa ntmps25 aa (ac (ab (kPa aa aa (ad (ac (ac (ab (kPm aa aa (kPv (bH aa runUnderlying30 ⟨_,rfl⟩ rfl) aa (kPm aa aa (kPv (bH aa runUnderlying30 ⟨_,rfl⟩ rfl) aa ?_)))))))))))
 refine kPv (am aa aa aa) aa (ad ?_)
 refine ba aa (fun h10=> ?_) (fun h10=> ?_)
 ·have hne:xs.length≠ys.length:=by intro e;rw[e] at h10;simp at h10
  refine ac (ab (kPa aa aa (ad (aB ?_))))
  exact aw results25 aa (fun w hw=>⟨by rw[decide_eq_false (fun e=>hne (by rw[e]))],hw⟩)
 ·have hle:xs.length=ys.length:=by simp at h10;omega
  refine aq (ac (ac (ab (kPm aa aa (kPv (bH aa runUnderlying30 ⟨_,rfl⟩ rfl) aa (kPm aa aa (ad (aK (di (ι:=Nat) (fun k=>k≤xs.length∧∀ j,j<k→xs[j]? =ys[j]?) (fun k=>[(0,.slice q1 xs.length c1),(1,.slice q2 ys.length c2),(4,.bool false),(12,i64 xs.length),(13,i64 k)]) (fun _=>H) (fun k=>xs.length - k) 0 ⟨Nat.zero_le _,fun j h=>absurd h (Nat.not_lt_zero _)⟩ (fun a w st=>st.to ⟨rfl,rfl,rfl,rfl,rfl,trivial⟩ id) ?_)))))))))
  rintro k ⟨hk1,hk2⟩
  refine ac (ab (kPv (am aa aa aa) aa (ad (ac ?_))))
  refine ba aa (fun h14=> ?_) (fun h14=> ?_)
  ·have hk:k<xs.length:=by simp at h14;omega
   refine aq (ac (aK (ac (ab (kPm aa aa (kPa aa aa (ad (ao [5,13,12,4,0,1] rfl (ac (cL Tryz.mixed (by kernel_rfl) (by kernel_rfl) ?_))))))))))
   obtain⟨b1,o1,rfl⟩:=h1 k hk
   obtain⟨b2,o2,rfl⟩:=h2 k (by omega)
   refine kQm aa aa (kQm aa aa (kQv (cA runUnderlying30 sizeOf25 aa aa (by omega) (by omega)) aa ?_))
   refine kQv (cj (v:=w64 xs[k]) isAgg25 r1 aa (by rw[Int.toNat_natCast,List.getElem?_map,List.getElem?_eq_getElem hk];rfl)) aa ?_
   refine kQm aa aa (kQm aa aa (kQv (cA runUnderlying30 sizeOf25 aa aa (by omega) (by omega)) aa ?_))
   refine kQv (cj (v:=w64 (ys[k]'(by omega))) isAgg25 r2 aa (by rw[Int.toNat_natCast,List.getElem?_map,List.getElem?_eq_getElem (by omega)];rfl)) aa ?_
   refine kQv (am aa aa aa) aa (bU (ao [24,13,12,4,0,1] rfl ?_))
   refine ba aa (fun h24=> ?_) (fun h24=> ?_)
   ·have hkk:xs[k]? ≠ys[k]? :=by
     rw[List.getElem?_eq_getElem hk,List.getElem?_eq_getElem (by omega)]
     simpa using h24
    refine ac (ab (kPa aa aa (ad (aB ?_))))
    exact aw results25 aa (fun w hw=>⟨by rw[decide_eq_false (fun e=>hkk (by rw[e]))],hw⟩)
   ·have hkk:xs[k]? =ys[k]? :=by
     rw[List.getElem?_eq_getElem hk,List.getElem?_eq_getElem (by omega)]
     simpa using h24
    refine aq (ab (kPv (aN aa aa) aa (kPm aa aa (ad ?_))))
    exact fun a w st=>⟨k+1,⟨by omega,fun j hj=>by
     rcases Nat.lt_succ_iff_lt_or_eq.1 hj with h | h
     ·exact hk2 j h
     ·subst h;exact hkk⟩,by omega,st.to ⟨rfl,rfl,rfl,rfl,rfl,trivial⟩ id⟩
  ·have hk:¬ k<xs.length:=by simp at h14;omega
   refine bD (ac (ab (kPa aa aa (ad (ao [4] rfl (aB ?_))))))
   exact aw results25 aa (fun w hw=>⟨by
   have e:xs=ys:=List.ext_getElem? fun j=>by
    by_cases hj:j<k
    ·exact hk2 j hj
    ·rw[List.getElem?_eq_none (by omega),List.getElem?_eq_none (by omega)]
   rw[decide_eq_true e],hw⟩)
theorem yn(B:World)(H:List HP)(l r s:Int)(c:Cfg)(hc:c=mkC l r s)(hl:0≤l)(hr:0≤r)(hs:0≤s):∀ w,Holds B H w→Calls Tryz.prog 73 [.agg #[u16 l,u16 r,u16 s]].toArray w (aZ B H (dQ c)):=by subst hc;exact vj B H l r s hl hr hs
abbrev cN(b:Nat)(x:Value×List Int):HP:=dC 25 w64 b x
theorem eC{a b:Int}{sv:Value}(h:aL sv=true):([i64 a,i64 b,sv]:List Value).all aL=true:=by
 simp only[List.all_cons,List.all_nil,h];rfl
theorem CX{v f:Int}(h:decide (v≥f)=true)(h1:0≤f)(h2:v<18446744073709551616):IntKind.u64.wrap (v - f)=v - f:=by
 have h9:f≤v:=by simpa using h
 exact fD (by omega)
abbrev kR(b:Blk)(sv:Value):Value:= .agg #[i64 b.act,i64 b.used,sv]
theorem gQ(B:World)(H:List HP)(c:Cfg)(hc:bj c)(b:Blk)(sv:Value)(hb:fS c b)(hsv:aL sv=true)(i:Int)(hi: -1000000000000≤i∧i≤1000000000000):
 ∀ w,Holds B H w→Calls Tryz.prog 137 [kR b sv,dQ c,i64 i].toArray w (aZ B H (i64 (b.place c i))):=by
 refine ap func137 aa ntmps137 aa ?_
 have hb1:=hb.act
 have hb2:=hb.used
 have hfb:=ip hc (k:=b.act) (by omega)
 have hcs:=hc.s2
 refine ac (ab (kPb (aY aa) aa fun b3=>(kPb (aY aa) aa fun b4=>(kPa aa aa (ad (ac (ab (kPv (ah isAgg134 sizeOf134 aa aa) aa ?_))))))))
 refine kPl hJ isAgg3 aa aa aa aa (ax aa (ar call119 aa) (jk _ _ c hc b.act hb.act.1 (by have:=hb.act.2;omega)) .free aa aa ?_)
 refine kPm aa aa (kPv (aN aa aa) aa (kPa aa aa (ad (ao [6] rfl (aB ?_)))))
 exact aw results137 aa (fun w hh=>⟨rfl,hh.tail.tail⟩)
theorem qK(B:World)(H:List HP)(c:Cfg)(hc:bj c)(b:Blk)(sv:Value)(hb:fS c b)(hsv:aL sv=true)(v:Int)(hv:0≤v∧v<18446744073709551616):
 ∀ w,Holds B H w→Calls Tryz.prog 182 [kR b sv,dQ c,w64 v].toArray w (aZ B H (.bool (b.has c v))):=by
 refine ap func182 aa ntmps182 aa ?_
 have hb1:=hb.act
 have hb2:=hb.used
 have hfb:=ip hc (k:=b.act) (by omega)
 have hcs:=hc.s2
 refine ac (ab (kPb (aY aa) aa fun b3=>(kPb (aY aa) aa fun b4=>(kPa aa aa (ad (ac (ab (kPv (ah isAgg134 sizeOf134 aa aa) aa ?_))))))))
 refine kPl hJ isAgg3 aa aa aa aa (ax aa (ar call119 aa) (jk _ _ c hc b.act hb.act.1 (by have:=hb.act.2;omega)) .free aa aa ?_)
 refine kPv (bK runUnderlying3 runUnderlying25 aa) aa (kPa aa aa (ad (ao [7,6,3,2] rfl (ac (ab (kPm aa aa (kPm aa aa (kPv (am aa aa aa) aa (kPm aa aa ?_)))))))))
 apply dq (tp:=24) (t:=16) (σ1:=[(16,_),(6,_)]) 8 rfl ⟨rfl,rfl,trivial⟩
 ·intro hg1
  refine aj aa (ak aa) (.on aa aa (ae hg1)) aa aa (aj aa (ak aa) (.on aa aa (ae hg1)) aa aa (aj aa (oz (c:=v - c.frm b.act) aa aa (CX hg1 (by omega) (by omega))) (.on aa aa (ae hg1)) aa aa (aj aa (aF (m:=_) dz aa aa) (.on aa aa (ae hg1)) aa aa (aj aa (ai isAgg3 aa aa) (.on aa aa (ae hg1)) aa aa (aj aa (bK runUnderlying3 runUnderlying25 aa) (.on aa aa (ae hg1)) aa aa (aj aa (am aa aa aa) (.on aa aa (ae hg1)) aa aa (kPv (au aa hg1 aa) aa ?_)))))))
  exact aT aa ⟨rfl,rfl,trivial⟩ (cE hg1)
 ·intro hg1
  refine al aa (.on aa aa (ag hg1)) aa (al aa (.on aa aa (ag hg1)) aa (al aa (.on aa aa (ag hg1)) aa (al aa (.on aa aa (ag hg1)) aa (al aa (.on aa aa (ag hg1)) aa (al aa (.on aa aa (ag hg1)) aa (al aa (.on aa aa (ag hg1)) aa (kPv (aD aa hg1 aa) aa ?_)))))))
  exact aT aa ⟨rfl,rfl,trivial⟩ (cF hg1)
 refine kPa aa aa (ad (aB ?_))
 exact aw results182 aa (fun w hh=>⟨by rfl,hh.tail.tail⟩)
theorem xF{α:Type}{n:Nat}{f:Nat→α}:tab (n+1) f=tab n f++[f n]:=by simp[tab,List.range_succ]
theorem zG{c:Cfg}(hc:bj c):24≤c.active∧c.active+2+c.roots≤c.words∧c.words≤20000:=by
 have h1:=ip hc (k:=0) (by decide)
 have h2:=hc.act
 have:=hc.r1
 have:=hc.l1
 omega
theorem fI(B:World)(Fr:List HP)(bd:Nat)(s:Dev)(c:Cfg)(hc:bj c)(hu:U64 s):
 ∀ w,Holds B (az bd s::Fr) w→Calls Tryz.prog 117 [ptr bd,dQ c].toArray w (Ret B (fun rv H'=>∃ sv,aL sv=true∧rv= .tuple #[kR (s.block c).1 sv,i64 (s.block c).2]∧H'=cN 0 (sv,(s.block c).1.rts)::az bd s::Fr) (fun _ _=>False)):=by
 refine ap func117 aa ntmps117 aa ?_
 obtain⟨hA1,hA2,hA3⟩:=zG hc
 have hl1:=hu.load c.active
 have hl2:=hu.load (c.active+1)
 have hr1:=hc.r1
 have hr2:=hc.r2
 have hs2:=hc.s2
 have hs1:=hc.s1
 obtain⟨nr,hnr⟩:∃ nr:Nat,(nr:Int)=c.roots:=⟨c.roots.toNat,by omega⟩
 have hnr2:c.roots.toNat=nr:=by omega
 refine ac (ab (kPb (aY aa) aa fun b3=>(kPb (aE zeroValue151 aa) aa fun b4=>(kPa aa aa (ad (ac (cL Tryz.mixed (by kernel_rfl) (by kernel_rfl) ?_)))))))
 refine kQm aa aa (kQv (ah isAgg134 sizeOf134 aa aa) aa ?_)
 refine bC aa (ar call142 aa) (fA _ _ c hc) .free aa ?_
 refine bC aa (ar call173 aa) (bF (q:=az) (fun Fr=>cf _ Fr _ _ _)) .free aa ?_
 refine kQm aa aa (kQv (ah isAgg134 sizeOf134 aa aa) aa ?_)
 refine bC aa (ar call140 aa) (sU _ _ c hc) .free aa ?_
 refine bC aa (ar call173 aa) (bF (q:=az) (fun Fr=>cf _ Fr _ _ _)) .free aa ?_
 refine kQa aa aa (kQa aa aa (bU (ao [7,6,5,4,3,0] rfl (ac (ac (ab (kPm aa aa (kPv (am aa aa aa) aa (kPm aa aa ?_)))))))))
 apply fK (tp:=26) (t:=20) (σ1:=[(20,_),(7,_),(6,_),(5,_),(4,_),(3,_),(0,_)]) 6 rfl (aC rfl)
 ·intro hg1
  refine aj aa (ak aa) (.on aa aa (ae hg1)) aa aa (aj aa (aF (m:=_) eQ aa aa) (.on aa aa (ae hg1)) aa aa (aj aa (ai isAgg3 aa aa) (.on aa aa (ae hg1)) aa aa (aj aa (bK runUnderlying3 runUnderlying25 aa) (.on aa aa (ae hg1)) aa aa (aj aa (am aa aa aa) (.on aa aa (ae hg1)) aa aa (kPv (aD aa hg1 aa) aa ?_)))))
  exact aT aa (aC aa) (eM hg1)
 ·intro hg1
  refine al aa (.on aa aa (ag hg1)) aa (al aa (.on aa aa (ag hg1)) aa (al aa (.on aa aa (ag hg1)) aa (al aa (.on aa aa (ag hg1)) aa (al aa (.on aa aa (ag hg1)) aa (kPv (au aa hg1 aa) aa ?_)))))
  exact aT aa (aC aa) (eK hg1)
 refine ad ?_
 refine ba aa (fun h26=> ?_) (fun h26=> ?_)
 ·have hbad:1<s.load c.active∨c.space<s.load (c.active+1):=by simpa using h26
  have hblk:s.block c=(⟨0,0,[]⟩,10):=by unfold Dev.block;rw[if_pos hbad]
  refine ac (ab (kPv (aP aa (AU)) aa ?_))
  refine kPs (ay (vs:=_) sizeOf151 aa aa aa (by first | rfl | exact eC (by assumption)) rfl) rfl ?_;refine kPa aa aa ?_;refine ad ?_;refine aB ?_
  exact fU results117 (.cellA aa isAgg151 sizeOf151 aa aa) (.tmp aa) (fun w hh=>⟨_,⟨.slice none 0 0,rfl,by rw[hblk];rfl,rfl⟩,by rw[hblk];exact eU hh.tail.tail⟩)
 ·have hgd:¬(1<s.load c.active∨c.space<s.load (c.active+1)):=by simpa using h26
  have hblk:s.block c=(⟨s.load c.active,s.load (c.active+1),tab nr fun i=>s.load (c.root i)⟩,0):=by unfold Dev.block;rw[if_neg hgd,hnr2]
  refine aq (ac (ab (kPm aa aa (kPv (bK runUnderlying25 runUnderlying3 aa) aa (kPm aa aa (kPv (bK runUnderlying25 runUnderlying3 aa) aa (kPv (aP aa (mB _ _ aa aa)) aa (kPb (aE zeroValue151 aa) aa fun b8=> ?_))))))))
  refine kPs (ay (vs:=_) sizeOf151 aa aa aa (by first | rfl | exact eC (by assumption)) rfl) rfl ?_
  refine ad (ao [8,5,4,3,0] rfl (ac (ac (ab (kPl fN isAgg3 aa aa aa aa (kPm aa aa (ad (aK (di (ι:=Nat×Value) (fun i=>i.1≤nr∧aL i.2=true) (fun i=>[(0,ptr bd),(3,ptr b3),(4,ptr b4),(5,i64 0),(8,ptr b8),(34,i64 c.roots),(35,i64 i.1)]) (fun i=>cN 0 (i.2,tab i.1 fun j=>s.load (c.root j))::row b8 [i64 (s.load c.active),i64 (s.load (c.active+1)),i.2] 151::row b4 [i64 0,i64 0,.slice none 0 0] 151::row b3 [i64 c.log,i64 c.roots,i64 c.space] 134::az bd s::Fr) (fun i=>nr - i.1) (0,.slice none 0 0) ⟨Nat.zero_le _,rfl⟩ (fun a w st=>st.to ⟨rfl,rfl,rfl,rfl,rfl,rfl,rfl,trivial⟩ (fun hh=>eU hh)) ?_)))))))))
  rintro⟨k,sv⟩ ⟨hk0,hsv⟩
  simp only at hk0 hsv ⊢
  refine ac (ab (kPv (am aa aa aa) aa (ad (ac ?_))))
  refine ba aa (fun h36=> ?_) (fun h36=> ?_)
  ·have hk:k<nr:=by simp at h36;omega
   refine aq (ac (aK (ac (ab (kPm aa aa (kPa aa aa (ad (cM [0,1,2,3,4,5,6,7,8,9,10] [5,6,7,8,10] [0,1,2] [5,6,7] [row b8 [i64 (s.load c.active),i64 (s.load (c.active+1)),sv] 151] Tryz.mixed (by kernel_rfl) ?_))))))))
   refine an aa aa aa (aF (m:=_) eP aa aa) .free aa (an aa aa aa (ai isAgg30 aa aa) .free aa (an aa aa aa (ak aa) .free aa (aV aa aa aa (ah isAgg134 sizeOf134 aa aa) .free aa ?_)))
   refine aV aa aa aa (ak aa) .free aa (aR aa aa (ax aa (ar call171 aa) (lh _ _ c hc _ (by omega) (by omega)) .free aa aa ?_))
   refine ad (cK (aR aa aa (ax aa (ar call173 aa) (bF (q:=az) (fun Fr=>cf _ Fr _ _ _)) .free aa aa ?_)))
   refine ad (cK (aR aa aa (kPb (gk runUnderlying30 sizeOf25 zeroValue25 aa aa aa) aa fun b1=>(dh 1 aa ?_))))
   simp only[List.eraseIdx_cons_succ,List.eraseIdx_cons_zero]
   refine ad (cK (aR aa aa (cP aa (eR aa aa runUnderlying30 runUnderlying30 ⟨_,rfl⟩ sizeOf25 zeroValue25 aa (fun _=>rfl) ik aa aa (by rw[aX];omega)) .free aa aa ?_)))
   rintro sv2 _ ⟨hsv2,rfl⟩
   refine ad (cU aa (aV aa aa aa (aF (m:=_) eP aa aa) .free aa (aR aa aa (kPs (aO sizeOf30 aa aa hsv2 aa) aa (ad (cU aa (cC (ao [35,34,8,5,4,3,0] rfl (ab (kPv (aN aa aa) aa (kPm aa aa ?_)))))))))))
   refine ad ?_
   exact fun a w st=>⟨(k+1,sv2),⟨by simp only;omega,hsv2⟩,by simp only;omega,st.to ⟨rfl,rfl,rfl,rfl,rfl,rfl,rfl,trivial⟩ (fun hh=>by rw[←xF] at hh;exact hh)⟩
  ·have hk:¬ k<nr:=by simp at h36;omega
   obtain rfl:k=nr:=by omega
   refine bD (ac (ab (kPv (ah isAgg151 sizeOf151 aa aa) aa ?_)))
   refine kPs (ay (vs:=[i64 (s.load c.active),i64 (s.load (c.active+1)),sv]) sizeOf151 aa aa aa (eC hsv) aa) aa (kPa aa aa (ad (ao [5,4] rfl (aB ?_))))
   exact fU results117 (.cellA aa isAgg151 sizeOf151 aa aa) (.tmp aa) (fun w hh=>⟨_,⟨sv,hsv,by rw[hblk];rfl,rfl⟩,by rw[hblk];exact(((hh.front 3 aa).front 3 aa).front 3 aa).tail.tail.tail⟩)
abbrev gC(o:cX):Value:= .agg #[i64 o.1,i64 o.2.1,i64 o.2.2]
theorem Cz{x:Int}(h:decide (x<0)=false):0≤x:=by simpa using h
theorem ux{w r:Int}(h:lG w r=0):0≤w∧w≤64∧0≤r∧r≤w:=by
 unfold lG at h
 split at h
 ·assumption
 ·cases h
theorem pn(v:Int):0≤(unp v).1∧(unp v).1≤64∧0≤(unp v).2.1∧(unp v).2.1≤(unp v).1:=by
 unfold unp
 split
 ·rename_i h;exact ux h.1
 ·exact⟨by decide,by decide,by decide,by decide⟩
theorem jJ(B:World)(Fr:List HP)(bd:Nat)(s:Dev)(c:Cfg)(hc:bj c)(b:Blk)(sv:Value)(hb:fS c b)(hsv:aL sv=true)(at_:Int)(hat: -9223372036854775808≤at_∧at_≤9223372036854775807):
 ∀ w,Holds B (az bd s::Fr) w→Calls Tryz.prog 147 [ptr bd,dQ c,kR b sv,i64 at_].toArray w (aZ B (az bd s::Fr) (.tuple #[gC (s.objOf c b at_).1,i64 (s.objOf c b at_).2])):=by
 refine ap func147 aa ntmps147 aa ?_
 have hb1:=hb.act
 have hb2:=hb.used
 have hcs:=hc.s2
 have hub:=pn (s.load at_)
 have hfb:=ip hc (k:=b.act) (by omega)
 refine ac (ab (kPb (aY aa) aa fun b5=>(kPb (aY aa) aa fun b6=>(kPb (aE zeroValue160 aa) aa fun b8=>(kPa aa aa (ad (ac (ac (ab (kPm aa aa (kPv (am aa aa aa) aa ?_)))))))))))
 refine kPm aa aa ?_
 apply fK (tp:=21) (t:=14) (σ1:=[(14,_),(9,_),(8,_),(6,_),(5,_),(0,_),(3,_)]) 7 rfl (aC rfl)
 ·intro hg1
  refine aj aa (ah isAgg151 sizeOf151 aa aa) (.on aa aa (ae hg1)) aa aa ?_
  refine aj aa (ah isAgg134 sizeOf134 aa aa) (.on aa aa (ae hg1)) aa aa ?_
  refine aj aa (ak aa) (.on aa aa (ae hg1)) aa aa (aj aa (c7 runUnderlying3 runUnderlying25 aa (fD ⟨Cz hg1,by omega⟩)) (.on aa aa (ae hg1)) aa aa (ax aa (ar call182 aa) (qK _ _ c hc b sv hb hsv _ ⟨Cz hg1,by omega⟩) (.on aa aa (ae hg1)) aa aa ?_))
  refine aj aa (bu aa) (.on aa aa (ae hg1)) aa aa (kPv (aD aa hg1 aa) aa ?_)
  exact aT aa (aC aa) (eM hg1)
 ·intro hg1
  refine al aa (.on aa aa (ag hg1)) aa (al aa (.on aa aa (ag hg1)) aa (al aa (.on aa aa (ag hg1)) aa (al aa (.on aa aa (ag hg1)) aa (al aa (.on aa aa (ag hg1)) aa (al aa (.on aa aa (ag hg1)) aa (kPv (au aa hg1 aa) aa ?_))))))
  exact aT aa (aC aa) (eK hg1)
 refine ad ?_
 refine ba aa (fun h21=> ?_) (fun h21=> ?_)
 ·have hbad:at_<0∨b.has c at_=false:=by simpa using h21
  have hres:s.objOf c b at_=((0,0,0),6):=by unfold Dev.objOf;rw[if_pos hbad]
  refine ac (ab (kPv (aP aa (q9)) aa (kPs (ay (vs:=_) sizeOf160 aa aa aa aa aa) aa (kPa aa aa (ad (aB ?_))))))
  exact fU results147 (.cellA aa isAgg160 sizeOf160 aa aa) (.tmp aa) (fun w hh=>⟨by rw[hres];rfl,hh.tail.tail.tail⟩)
 ·have hgd:¬(at_<0∨b.has c at_=false):=by simpa using h21
  have hat2:=kb hc hb (w:=at_) (by cases hh:b.has c at_ with
   | true=>rfl
   | false=>exact absurd (.inr hh) hgd)
  have hplace:b.place c b.used=c.frm b.act+b.used:=rfl
  refine aq (ac (ab (kPm aa aa (kPm aa aa (ax aa (ar call173 aa) (bF (q:=az) (fun Fr=>cf _ Fr _ _ _)) .free aa aa ?_)))))
  refine ax aa (ar call190 aa) (iC _ _ _) .free aa aa ?_
  refine kPm aa aa (kPv (aA aa aa) aa (kPv (aA aa aa) aa (kPb (aE zeroValue102 aa) aa fun b10=>(kPs (ay (vs:=_) sizeOf102 aa aa aa aa aa) aa (kPa aa aa (ad (ao [11,10,9,8,6,5,3] rfl (ac (ac (cL Tryz.mixed (by kernel_rfl) (by kernel_rfl) ?_))))))))))
  refine kQm aa aa (kQv (bu aa) aa (kQm aa aa ?_))
  apply BB (tp:=43) (t:=32) (σ1:=[(32,_),(10,_),(9,_),(8,_),(3,_)]) 11 rfl (aC rfl)
  ·intro hg2
   refine bf aa (ah isAgg102 sizeOf102 aa aa) (.on aa aa (ae hg2)) aa ?_
   refine bC aa (ar call139 aa) (et _ _ _ _ (by omega)) (.on aa aa (ae hg2)) aa ?_
   refine bf aa (ah isAgg151 sizeOf151 aa aa) (.on aa aa (ae hg2)) aa ?_
   refine bf aa (ah isAgg134 sizeOf134 aa aa) (.on aa aa (ae hg2)) aa ?_
   refine bf aa (aF (m:=_) dz aa aa) (.on aa aa (ae hg2)) aa (bf aa (ai isAgg3 aa aa) (.on aa aa (ae hg2)) aa (bC aa (ar call137 aa) (gQ _ _ c hc b sv hb hsv _ (by omega)) (.on aa aa (ae hg2)) aa ?_))
   refine bf aa (ak aa) (.on aa aa (ae hg2)) aa (bf aa (eV aa aa) (.on aa aa (ae hg2)) aa (bf aa (am aa aa aa) (.on aa aa (ae hg2)) aa (kQv (aD aa hg2 aa) aa ?_)))
   exact eG aa (aC aa) (eM hg2)
  ·intro hg2
   refine aW aa (.on aa aa (ag hg2)) aa (aW aa (.on aa aa (ag hg2)) aa (aW aa (.on aa aa (ag hg2)) aa (aW aa (.on aa aa (ag hg2)) aa (aW aa (.on aa aa (ag hg2)) aa (aW aa (.on aa aa (ag hg2)) aa (aW aa (.on aa aa (ag hg2)) aa (aW aa (.on aa aa (ag hg2)) aa (aW aa (.on aa aa (ag hg2)) aa (aW aa (.on aa aa (ag hg2)) aa (kQv (au aa hg2 aa) aa ?_))))))))))
   exact eG aa (aC aa) (eK hg2)
  refine bU ?_
  refine ba aa (fun h43=> ?_) (fun h43=> ?_)
  ·have hbad:(unp (s.load at_)).2.2=false∨b.place c b.used - at_<(unp (s.load at_)).1+1:=by simpa using h43
   have hres:s.objOf c b at_=((0,0,0),8):=by unfold Dev.objOf;rw[if_neg hgd,if_pos hbad]
   refine ac (ab (kPv (aP aa (q9)) aa (kPs (ay (vs:=_) sizeOf160 aa aa aa aa aa) aa (kPa aa aa (ad (aB ?_))))))
   exact fU results147 (.cellA aa isAgg160 sizeOf160 aa aa) (.tmp aa) (fun w hh=>⟨by rw[hres];rfl,hh.tail.tail.tail.tail⟩)
  ·have hgd2:¬((unp (s.load at_)).2.2=false∨b.place c b.used - at_<(unp (s.load at_)).1+1):=by simpa using h43
   have hres:s.objOf c b at_=(((unp (s.load at_)).1,(unp (s.load at_)).2.1,at_),0):=by unfold Dev.objOf;rw[if_neg hgd,if_neg hgd2]
   refine aq (ac (ab (kPv (ah isAgg102 sizeOf102 aa aa) aa ?_)))
   refine kPm aa aa (kPv (aP aa (tu _ _ _ aa)) aa (kPs (ay (vs:=_) sizeOf160 aa aa aa aa aa) aa (kPa aa aa (ad (ao [9,8] rfl (aB ?_))))))
   exact fU results147 (.cellA aa isAgg160 sizeOf160 aa aa) (.tmp aa) (fun w hh=>⟨by rw[hres];rfl,hh.tail.tail.tail.tail⟩)
structure kU(o:cX):Prop where
 w:0≤o.1∧o.1≤64
 r:0≤o.2.1∧o.2.1≤o.1
 at_:0≤o.2.2∧o.2.2≤1000000
theorem ow(B:World)(H:List HP)(o:cX)(ho:kU o)(i:Int)(ref:Bool):
 ∀ w,Holds B H w→Calls Tryz.prog 148 [gC o,i64 i,.bool ref].toArray w (aZ B H (.tuple #[i64 (ce o i ref).1,i64 (ce o i ref).2])):=by
 refine ap func148 aa ntmps148 aa ?_
 have h1:=ho.w
 have h2:=ho.r
 have h3:=ho.at_
 refine ac (ab (kPb (aY aa) aa fun b3=>(kPa aa aa (kPa aa aa (ad (ac (aK (ac (ab (kPm aa aa (kPv (am aa aa aa) aa ?_)))))))))))
 refine kPm aa aa ?_
 apply fK (tp:=17) (t:=11) (σ1:=[(11,_),(7,_),(6,_),(3,_),(1,_),(2,_)]) 6 rfl (aC rfl)
 ·intro hg1
  refine aj aa (ak aa) (.on aa aa (ae hg1)) aa aa (aj aa (aF (m:=_) eO aa aa) (.on aa aa (ae hg1)) aa aa (aj aa (aF (m:=_) ia aa aa) (.on aa aa (ae hg1)) aa aa (aj aa (ai isAgg3 aa aa) (.on aa aa (ae hg1)) aa aa (aj aa (am aa aa aa) (.on aa aa (ae hg1)) aa aa (kPv (aD aa hg1 aa) aa ?_)))))
  exact aT aa (aC aa) (eM hg1)
 ·intro hg1
  refine al aa (.on aa aa (ag hg1)) aa (al aa (.on aa aa (ag hg1)) aa (al aa (.on aa aa (ag hg1)) aa (al aa (.on aa aa (ag hg1)) aa (al aa (.on aa aa (ag hg1)) aa (kPv (au aa hg1 aa) aa ?_)))))
  exact aT aa (aC aa) (eK hg1)
 refine kPa aa aa (ad ?_)
 refine ba aa (fun h8=> ?_) (fun h8=> ?_)
 ·have hbad:i<0∨o.1≤i:=by simpa using h8
  have hres:ce o i ref=(0,1):=by unfold ce;rw[if_pos hbad]
  refine ac (ab (kPa aa aa (kPa aa aa (ad (aB ?_)))))
  exact bY results148 aa aa (fun w hh=>⟨by rw[hres],hh.tail⟩)
 ·have hgd:¬(i<0∨o.1≤i):=by simpa using h8
  refine ac (ab (kPm aa aa (kPv (aF (m:=_) eO aa aa) aa (kPl fO isAgg3 aa aa aa aa (kPv (am aa aa aa) aa (kPm aa aa (kPv (uq runUnderlying4 aa aa aa) aa (kPa aa aa (ad (ao [18,7,6,3,1] rfl ?_))))))))))
  refine ba aa (fun h18=> ?_) (fun h18=> ?_)
  ·have hk:decide (i<o.2.1)≠ref:=by simpa using h18
   have hres:ce o i ref=(0,5):=by unfold ce;rw[if_neg hgd,if_pos hk]
   refine ac (ab (kPa aa aa (kPa aa aa (ad (aB ?_)))))
   exact bY results148 aa aa (fun w hh=>⟨by rw[hres],hh.tail⟩)
  ·have hk:¬ decide (i<o.2.1)≠ref:=by simpa using h18
   have hres:ce o i ref=(o.2.2+1+i,0):=by unfold ce;rw[if_neg hgd,if_neg hk]
   refine aq (ac (ab (kPl j2 isAgg3 aa aa aa aa (kPv (aN aa aa) aa (kPm aa aa (kPv (aN aa aa) aa (kPa aa aa (kPa aa aa (ad (ao [7,6] rfl (aB ?_)))))))))))
   exact bY results148 aa aa (fun w hh=>⟨by rw[hres],hh.tail⟩)
theorem rN(B:World)(Fr:List HP)(bd:Nat)(s:Dev)(o:cX)(ho:kU o)(i:Int):
 ∀ w,Holds B (az bd s::Fr) w→Calls Tryz.prog 237 [gC o,ptr bd,i64 i].toArray w (aZ B (az bd s::Fr) (.tuple #[w64 (s.objRead o i).1,i64 (s.objRead o i).2])):=by
 refine ap func237 aa ntmps237 aa (ac (ab (kPb (aY aa) aa fun b3=>(kPa aa aa (kPa aa aa (ad (ac (ab (kPv (ah isAgg160 sizeOf160 aa aa) aa ?_)))))))))
 refine kPm aa aa (ax aa (ar call148 aa) (ow _ _ o ho i _) .free aa aa ?_)
 refine kPm aa aa (kPv (aA aa aa) aa (kPv (aA aa aa) aa (kPa aa aa (kPa aa aa (ad (ao [9,8,7,6,1] rfl (ac (ac (ab (kPm aa aa (kPv (am aa aa aa) aa ?_)))))))))))
 refine ad ?_
 refine ba aa (fun h17=> ?_) (fun h17=> ?_)
 ·have hk:(ce o i false).2≠0:=by simpa using h17
  have hres:s.objRead o i=(0,(ce o i false).2):=by unfold Dev.objRead;rw[if_pos hk]
  refine ac (ab (kPm aa aa (kPa aa aa (kPa aa aa (ad (aB ?_))))))
  exact bY results237 aa aa (fun w hh=>⟨by rw[hres]<;>rfl,hh.tail⟩)
 ·have hk:¬ (ce o i false).2≠0:=by simpa using h17
  have hres:s.objRead o i=(s.load (ce o i false).1,0):=by unfold Dev.objRead;rw[if_neg hk]
  refine aq (ac (ab (kPm aa aa (kPm aa aa (ax aa (ar call173 aa) (bF (q:=az) (fun Fr=>cf _ Fr _ _ _)) .free aa aa ?_)))))
  refine kPa aa aa (kPa aa aa (ad (ao [7,6] rfl (aB ?_))))
  exact bY results237 aa aa (fun w hh=>⟨by rw[hres]<;>rfl,hh.tail⟩)
structure l9(B:World)(f:FuncId)(fi:List Value)(bd be:Nat)(ε:Type)(ExA:Nat→ε→HP)(op:Int→Int→Dev→ε→Out (Int×ε))(ok:Dev→ε→Prop):Prop where
 enter:∀ args w,(callFunc f args).run Tryz.prog w= .ok (.enter f args) w
 u64:∀ s e,ok s e→U64 s
 says:∀ (Fr:List HP) (i v:Int) (s:Dev) (e:ε),ok s e→∀ w,Holds B (az bd s::ExA be e::Fr) w→Calls Tryz.prog f (fi++[i64 i,w64 v]++[]).toArray w (Ret B (fun rv H'=>∃ a e' s',op i v s e= .ok (a,e') s'∧rv=i64 a∧H'=az bd s'::ExA be e'::Fr) (fun c H'=>∃ s',op i v s e= .off s'∧c=dN∧H'=az bd s'::Fr))
 keeps:∀ i v s e a e' s',ok s e→0≤v∧v<18446744073709551616→op i v s e= .ok (a,e') s'→ok s' e'
section
variable {ε:Type}
def eN(op:Int→Int→Dev→ε→Out (Int×ε))(at_ h0:Int):Nat→Int→Dev→ε→Out ((Int×Int)×ε)
 | 0,_,s,e=> .ok ((at_,0),e) s
 | f+1,i,s,e=>(op (at_+i) (if i=0 then h0 else 0) s e).then fun x s=>if x.1≠0 then .ok ((0,x.1),x.2) s else eN op at_ h0 f (i+1) s x.2
def cG(op:Int→Int→Dev→ε→Out (Int×ε))(c:Cfg)(w r:Int)(s:Dev)(e:ε):Out ((Int×Int)×ε):=
 if lG w r≠0 then .ok ((0,lG w r),e) s
 else if (s.block c).2≠0 then .ok ((0,(s.block c).2),e) s
 else if c.space - (s.block c).1.used<w+1 then .ok ((0,4),e) s
 else (op (c.active+1) ((s.block c).1.used+(w+1)) s e).then fun x s'=>if x.1≠0 then .ok ((0,x.1),x.2) s' else eN op ((s.block c).1.place c (s.block c).1.used) (ea w r) (w+1).toNat 0 s' x.2
def iw(op:Int→Int→Dev→ε→Out (Int×ε))(o:cX)(i:Int)(ref:Bool)(v:Int)(s:Dev)(e:ε):Out (Int×ε):=
 if (ce o i ref).2≠0 then .ok ((ce o i ref).2,e) s else op (ce o i ref).1 v s e
def gz(op:Int→Int→Dev→ε→Out (Int×ε)):List Int→Int→Dev→ε→Out (Int×ε)
 | [],_,s,e=> .ok (0,e) s
 | v::vs,i,s,e=>if s.load i=v then gz op vs (i+1) s e else (op i v s e).then fun x s=>if x.1≠0 then .ok x s else gz op vs (i+1) s x.2
def kG(op:Int→Int→Dev→ε→Out (Int×ε))(c:Cfg)(b:Blk)(s:Dev)(e:ε):Out (Int×ε):=gz op (b.act::b.used::b.rts) c.active s e
end
theorem qC(w r:Int):0≤ea w r∧ea w r<18446744073709551616:=by
 unfold ea pi
 simp only[IntKind.wrap,IntKind.bits,IntKind.signed]
 simp;omega
theorem tw(B:World)(Fr:List HP)(f:FuncId)(fi:List Value)(bd be:Nat)(ε:Type)(ExA:Nat→ε→HP)(op:Int→Int→Dev→ε→Out (Int×ε))(ok:Dev→ε→Prop)(hS:l9 B f fi bd be ε ExA op ok)(c:Cfg)(hc:bj c)(w r:Int)(s:Dev)(e:ε)(hok:ok s e):
 ∀ w_,Holds B (az bd s::ExA be e::Fr) w_→Calls Tryz.prog 85 [ptr bd,dQ c,.agg #[i64 w,i64 r],.func (.func f) fi.toArray #[]].toArray w_ (Ret B (fun rv H'=>∃ x e' s',cG op c w r s e= .ok (x,e') s'∧rv= .tuple #[i64 x.1,i64 x.2]∧ok s' e'∧H'=az bd s'::ExA be e'::Fr) (fun ch H'=>∃ s',cG op c w r s e= .off s'∧ch=dN∧H'=az bd s'::Fr)):=by
 refine ap func85 aa ntmps85 aa ?_
 have hb:=dA (s:=s) hc (hS.u64 _ _ hok)
 have hb1:=hb.act
 have hb2:=hb.used
 have hcs:=hc.s2
 have hfb:=ip hc (k:=(s.block c).1.act) (by omega)
 have hplace:(s.block c).1.place c (s.block c).1.used=c.frm (s.block c).1.act+(s.block c).1.used:=rfl
 refine ac (ab (kPb (aY aa) aa fun b5=>(kPb (aY aa) aa fun b6=>(kPa aa aa (kPa aa aa (ad (ac (ac (ab (kPv (ah isAgg102 sizeOf102 aa aa) aa ?_))))))))))
 refine ax aa (ar call138 aa) (pP _ _ _ _) .free aa aa ?_
 refine kPa aa aa (ad (ac (ab (kPm aa aa (kPv (am aa aa aa) aa (ad ?_))))))
 refine ba aa (fun h21=> ?_) (fun h21=> ?_)
 ·have hk1:lG w r≠0:=by simpa using h21
  refine ac (ab (kPm aa aa (kPa aa aa (kPa aa aa (ad (ao [9,8,6,5,0,3] rfl (aB ?_)))))))
  exact bY results85 aa aa (fun w_ hh=>⟨_,⟨_,e,s,by unfold cG;rw[if_pos hk1],rfl,hok,rfl⟩,hh.tail.tail⟩)
 ·have hk1:¬ lG w r≠0:=by simpa using h21
  have hwb:=ux (w:=w) (r:=r) (by omega)
  refine aq (ac (ab (kPm aa aa (kPv (ah isAgg134 sizeOf134 aa aa) aa ?_))))
  refine dl az bd (aI aa (ar call117 aa) (fI _ _ _ _ c hc (hS.u64 _ _ hok)) .free aa aa ?_)
  rintro _ _ ⟨sv,hsv,rfl,rfl⟩
  refine kPm aa aa (kPv (aA aa aa) aa (kPv (aA aa aa) aa (kPb (aE zeroValue151 aa) aa fun b11=>(kPs (ay (vs:=[i64 (s.block c).1.act,i64 (s.block c).1.used,sv]) sizeOf151 aa aa aa (eC hsv) aa) aa (kPa aa aa (ad (ao [12,11,9,8,6,5,3] rfl (ac (ac (ab (kPm aa aa ?_)))))))))))
  refine kPv (am aa aa aa) aa (ad ?_)
  refine ba aa (fun h30=> ?_) (fun h30=> ?_)
  ·have hk2:(s.block c).2≠0:=by simpa using h30
   refine ac (ab (kPm aa aa (kPa aa aa (kPa aa aa (ad (aB ?_))))))
   exact bY results85 aa aa (fun w_ hh=>⟨_,⟨_,e,s,by unfold cG;rw[if_neg hk1,if_pos hk2],rfl,hok,rfl⟩,((((((hh.front 0 aa).tail.front 0 aa).tail.front 1 aa).tail.front 1 aa).tail.front 1 aa).front 1 aa)⟩)
  ·have hk2:¬ (s.block c).2≠0:=by simpa using h30
   refine aq (ac (ac (cL Tryz.mixed (by kernel_rfl) (by kernel_rfl) ?_)))
   refine kQv (ah isAgg102 sizeOf102 aa aa) aa ?_
   refine bC aa (ar call139 aa) (et _ _ _ _ (by omega)) .free aa ?_
   refine kQv (aF (m:=_) eQ aa aa) aa (kQv (ai isAgg3 aa aa) aa (kQv (aF (m:=_) dz aa aa) aa (kQv (ai isAgg3 aa aa) aa (kQv (eV aa aa) aa (kQv (am aa aa aa) aa (bU (ao [39,11,9,8,6,5,3] rfl ?_)))))))
   refine ba aa (fun h39=> ?_) (fun h39=> ?_)
   ·have hk3:c.space - (s.block c).1.used<w+1:=by simpa using h39
    refine ac (ab (kPa aa aa (kPa aa aa (ad (aB ?_)))))
    exact bY results85 aa aa (fun w_ hh=>⟨_,⟨_,e,s,by unfold cG;rw[if_neg hk1,if_neg hk2,if_pos hk3],rfl,hok,rfl⟩,((((((hh.front 0 aa).tail.front 0 aa).tail.front 1 aa).tail.front 1 aa).tail.front 1 aa).front 1 aa)⟩)
   ·have hk3:¬ c.space - (s.block c).1.used<w+1:=by simpa using h39
    refine aq (ac (ab (kPv (ah isAgg151 sizeOf151 aa aa) aa ?_)))
    refine kPv (ah isAgg134 sizeOf134 aa aa) aa ?_
    refine kPl dz isAgg3 aa aa aa aa (ax aa (ar call137 aa) (gQ _ _ c hc _ sv hb hsv _ (by omega)) .free aa aa ?_)
    refine kPa aa aa (ad (ac (ac (cQ 9 Tryz.mixed (by kernel_rfl) (by kernel_rfl) ?_))))
    refine kQm aa aa (kQv (ah isAgg134 sizeOf134 aa aa) aa ?_)
    refine bC aa (ar call140 aa) (sU _ _ c hc) .free aa ?_
    refine kQv (aF (m:=_) dz aa aa) aa (kQv (ai isAgg3 aa aa) aa (kQv (ah isAgg102 sizeOf102 aa aa) aa ?_))
    refine bC aa (ar call139 aa) (et _ _ _ _ (by omega)) .free aa ?_
    refine kQv (aN aa aa) aa (kQv (c7 runUnderlying3 runUnderlying25 aa (fD (by omega))) aa (bU (dl ExA be (dl az bd ?_))))
    refine aS aa (ky hS.enter aa aa) (hS.says _ _ _ _ _ hok) .free aa aa ?_ ?_
    rotate_left
    ·rintro _ _ ⟨s9,hm9,rfl,rfl⟩
     exact a8 fun w hh=>⟨_,⟨s9,by unfold cG;rw[if_neg hk1,if_neg hk2,if_neg hk3];rw[hm9];rfl,rfl,rfl⟩,((((hh.front 4 aa).front 4 aa).front 4 aa).front 4 aa).tail.tail.tail.tail⟩
    rintro _ _ ⟨a1,e1,s1,hm1,rfl,rfl⟩
    have hok1:=hS.keeps _ _ _ _ _ _ _ hok ⟨by omega,by omega⟩ hm1
    refine kPa aa aa (ad (ao [14,13,9,8,6,3] rfl (ac (ab (kPm aa aa (kPv (am aa aa aa) aa (ad ?_)))))))
    refine ba aa (fun h56=> ?_) (fun h56=> ?_)
    ·have hk4:a1≠0:=by simpa using h56
     refine ac (ab (kPm aa aa (kPa aa aa (kPa aa aa (ad (aB ?_))))))
     exact bY results85 aa aa (fun w_ hh=>⟨_,⟨_,e1,s1,by unfold cG;rw[if_neg hk1,if_neg hk2,if_neg hk3];rw[hm1,aQ,if_pos hk4],rfl,hok1,rfl⟩,((((((hh.front 2 aa).tail.front 2 aa).tail.front 2 aa).tail.front 2 aa).tail.front 1 aa).front 1 aa)⟩)
    ·have hk4:¬ a1≠0:=by simpa using h56
     have hmid:cG op c w r s e=eN op ((s.block c).1.place c (s.block c).1.used) (ea w r) (w+1).toNat 0 s1 e1:=by
      unfold cG;rw[if_neg hk1,if_neg hk2,if_neg hk3,hm1,aQ,if_neg hk4]
     refine aq (ac (ac (ab (kPv (ah isAgg102 sizeOf102 aa aa) aa ?_))))
     refine ax aa (ar call139 aa) (et _ _ _ _ (by omega)) .free aa aa ?_
     refine kPm aa aa (ad (aK (di (ι:=Nat×Dev×ε) (fun i=>(i.1:Int)≤w+1∧ok i.2.1 i.2.2∧eN op ((s.block c).1.place c (s.block c).1.used) (ea w r) (w+1).toNat 0 s1 e1=eN op ((s.block c).1.place c (s.block c).1.used) (ea w r) ((w+1).toNat - i.1) i.1 i.2.1 i.2.2) (fun i=>[(3,.func (.func f) fi.toArray #[]),(6,ptr b6),(8,i64 0),(9,i64 0),(13,i64 ((s.block c).1.place c (s.block c).1.used)),(59,i64 (w+1)),(60,i64 i.1)]) (fun i=>az bd i.2.1::ExA be i.2.2::row b11 [i64 (s.block c).1.act,i64 (s.block c).1.used,sv] 151::cN 0 (sv,(s.block c).1.rts)::row b6 [i64 w,i64 r] 102::row b5 [i64 c.log,i64 c.roots,i64 c.space] 134::Fr) (fun i=>(w+1).toNat - i.1) (0,s1,e1) ⟨by simp only;omega,hok1,rfl⟩ (fun a w st=>st.to ⟨rfl,rfl,rfl,rfl,rfl,rfl,rfl,trivial⟩ id) ?_)))
     rintro⟨k,sL,eL⟩ ⟨hkw,hok2,hinv⟩
     simp only at hkw hok2 hinv ⊢
     refine ac (ab (kPv (am aa aa aa) aa (ad (ac ?_))))
     refine ba aa (fun h61=> ?_) (fun h61=> ?_)
     ·have hk:(k:Int)<w+1:=by simpa using h61
      refine aq (ac (aK (ac (ab (kPm aa aa (kPa aa aa (ad (ac (ab (kPa aa aa (ad ?_)))))))))))
      refine ac (ac (ab (kPm aa aa (kPv (am aa aa aa) aa (ad (ao [64,16,15,60,59,13,9,8,6,3] rfl ?_))))))
      refine ba aa (fun h64=> ?_) (fun h64=> ?_)
      ·have hk0':k=0:=by simp at h64;omega
       have hst:eN op ((s.block c).1.place c (s.block c).1.used) (ea w r) ((w+1).toNat - k) k sL eL=(op (((s.block c).1.place c (s.block c).1.used)+k) (ea w r) sL eL).then fun x sz=>if x.1≠0 then .ok ((0,x.1),x.2) sz else eN op ((s.block c).1.place c (s.block c).1.used) (ea w r) ((w+1).toNat - (k+1)) ((k:Int)+1) sz x.2:=by
        rw[show(w+1).toNat - k=((w+1).toNat - (k+1))+1 by omega]
        simp only[eN]
        rw[if_pos (by omega)]
       have hVb:=qC w r
       refine ab (kPv (ah isAgg102 sizeOf102 aa aa) aa ?_)
       refine ax aa (ar call141 aa) (n4 _ _ _ _) .free aa aa ?_
       refine kPa aa aa (ad (ac (ab (kPm aa aa (kPm aa aa (kPm aa aa (kPv (aN aa aa) aa (kPm aa aa (dl ExA be (dl az bd ?_))))))))))
       refine aS aa (ky hS.enter aa aa) (hS.says _ _ _ _ _ hok2) .free aa aa ?_ ?_
       rotate_left
       ·rintro _ _ ⟨s9,hm9,rfl,rfl⟩
        exact a8 fun w hh=>⟨_,⟨s9,by rw[hmid,hinv,hst,hm9];rfl,rfl,rfl⟩,((((hh.front 4 aa).front 4 aa).front 4 aa).front 4 aa).tail.tail.tail.tail⟩
       rintro _ _ ⟨a2,e2,s2,hm2,rfl,rfl⟩
       have hok3:=hS.keeps _ _ _ _ _ _ _ hok2 hVb hm2
       refine kPa aa aa (ad (ao [17,60,59,13,9,8,6,3] rfl (ac (ab (kPm aa aa (kPv (am aa aa aa) aa (ad ?_)))))))
       refine ba aa (fun h74=> ?_) (fun h74=> ?_)
       ·have hk5:a2≠0:=by simpa using h74
        refine ac (ab (kPm aa aa (kPa aa aa (kPa aa aa (ad (aB ?_))))))
        exact bY results85 aa aa (fun w_ hh=>⟨_,⟨_,e2,s2,by rw[hmid,hinv,hst,hm2,aQ,if_pos hk5],rfl,hok3,rfl⟩,((((((hh.front 2 aa).tail.front 2 aa).tail.front 2 aa).tail.front 2 aa).tail.front 1 aa).front 1 aa)⟩)
       ·have hk5:¬ a2≠0:=by simpa using h74
        refine aq (ab (kPv (aN aa aa) aa (kPm aa aa (ad ?_))))
        exact fun a w_ st=>⟨(k+1,s2,e2),⟨by simp only;omega,hok3,by rw[hinv,hst,hm2,aQ,if_neg hk5];push_cast;rfl⟩,by simp only;omega,st.to ⟨rfl,rfl,rfl,rfl,rfl,rfl,rfl,trivial⟩ id⟩
      ·have hk0':k≠0:=by simp at h64;omega
       have hst:eN op ((s.block c).1.place c (s.block c).1.used) (ea w r) ((w+1).toNat - k) k sL eL=(op (((s.block c).1.place c (s.block c).1.used)+k) 0 sL eL).then fun x sz=>if x.1≠0 then .ok ((0,x.1),x.2) sz else eN op ((s.block c).1.place c (s.block c).1.used) (ea w r) ((w+1).toNat - (k+1)) ((k:Int)+1) sz x.2:=by
        rw[show(w+1).toNat - k=((w+1).toNat - (k+1))+1 by omega]
        simp only[eN]
        rw[if_neg (by omega)]
       have hVb:(0:Int)≤0∧(0:Int)<18446744073709551616:=by decide
       refine aq (ac (ab (kPm aa aa (kPm aa aa (kPm aa aa (kPv (aN aa aa) aa (kPm aa aa (dl ExA be (dl az bd ?_)))))))))
       refine aS aa (ky hS.enter aa aa) (hS.says _ _ _ _ _ hok2) .free aa aa ?_ ?_
       rotate_left
       ·rintro _ _ ⟨s9,hm9,rfl,rfl⟩
        exact a8 fun w hh=>⟨_,⟨s9,by rw[hmid,hinv,hst,hm9];rfl,rfl,rfl⟩,((((hh.front 4 aa).front 4 aa).front 4 aa).front 4 aa).tail.tail.tail.tail⟩
       rintro _ _ ⟨a2,e2,s2,hm2,rfl,rfl⟩
       have hok3:=hS.keeps _ _ _ _ _ _ _ hok2 hVb hm2
       refine kPa aa aa (ad (ao [17,60,59,13,9,8,6,3] rfl (ac (ab (kPm aa aa (kPv (am aa aa aa) aa (ad ?_)))))))
       refine ba aa (fun h74=> ?_) (fun h74=> ?_)
       ·have hk5:a2≠0:=by simpa using h74
        refine ac (ab (kPm aa aa (kPa aa aa (kPa aa aa (ad (aB ?_))))))
        exact bY results85 aa aa (fun w_ hh=>⟨_,⟨_,e2,s2,by rw[hmid,hinv,hst,hm2,aQ,if_pos hk5],rfl,hok3,rfl⟩,((((((hh.front 2 aa).tail.front 2 aa).tail.front 2 aa).tail.front 2 aa).tail.front 1 aa).front 1 aa)⟩)
       ·have hk5:¬ a2≠0:=by simpa using h74
        refine aq (ab (kPv (aN aa aa) aa (kPm aa aa (ad ?_))))
        exact fun a w_ st=>⟨(k+1,s2,e2),⟨by simp only;omega,hok3,by rw[hinv,hst,hm2,aQ,if_neg hk5];push_cast;rfl⟩,by simp only;omega,st.to ⟨rfl,rfl,rfl,rfl,rfl,rfl,rfl,trivial⟩ id⟩
     ·have hk:¬ (k:Int)<w+1:=by simpa using h61
      refine bD (ac (ab (kPm aa aa (kPa aa aa (kPa aa aa (ad (ao [9,8] rfl (aB ?_))))))))
      exact bY results85 aa aa (fun w_ hh=>⟨_,⟨(((s.block c).1.place c (s.block c).1.used),0),eL,sL,by rw[hmid,hinv,show(w+1).toNat - k=0 by omega];rfl,rfl,hok2,rfl⟩,((((((hh.front 2 aa).tail.front 2 aa).tail.front 2 aa).tail.front 2 aa).tail.front 1 aa).front 1 aa)⟩)
end Go.Proofs.YtoakdoeajpjgkaaGreatDoor
