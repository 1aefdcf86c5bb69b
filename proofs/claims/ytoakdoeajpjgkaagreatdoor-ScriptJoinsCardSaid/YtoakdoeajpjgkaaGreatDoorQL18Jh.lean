/- Part of a law's texts. Conditions: none. -/
import Derived.Test.YtoakdoeajpjgkaaGreatDoorQL18Jg
open Go.Proofs.Tryz
set_option linter.all false
namespace Go.Proofs.YtoakdoeajpjgkaaGreatDoor
open Go
def cj(s:Dev)(j:Nat):Int:=IntKind.i64.wrap (s.load (1+(j:Int)))
def Dev.readC(s:Dev):Cfg×Int:=
 if s.load 0≠gx then (⟨0,0,0⟩,7)
 else if 4096<s.load 1∨4096<s.load 2∨4096<s.load 3 then (⟨0,0,0⟩,1)
 else if ¬ bA ⟨cj s 0,cj s 1,cj s 2⟩∨(s.n:Int)≠Cfg.words ⟨cj s 0,cj s 1,cj s 2⟩ then (⟨0,0,0⟩,1)
 else (⟨cj s 0,cj s 1,cj s 2⟩,0)
def u9(s:Dev)(k:Nat):List Value:=tab 3 fun j=>i64 (if j<k then cj s j else 0)
theorem zb{s:Dev}{k:Nat}{x:Int}(h:x=cj s k):(u9 s k).set k (i64 x)=u9 s (k+1):=by
 subst h
 unfold u9
 rw[nu]
 refine fD fun j _=> ?_
 simp only[upd]
 by_cases e:j=k
 ·subst e;simp
 ·rw[if_neg e]
  by_cases e2:j<k
  ·rw[if_pos e2,if_pos (by omega)]
  ·rw[if_neg e2,if_neg (by omega)]
theorem ow{s:Dev}{k:Nat}(h:k<3):(u9 s 3)[k]? =some (i64 (cj s k)):=by
 unfold u9;rw[dT h,if_pos h]
theorem ry(B:World)(Fr:List HP)(b:Nat)(s:Dev):
 ∀ w,Holds B (aB b s::Fr) w→Calls Tryz.prog 123 [ptr b].toArray w (aZ B (aB b s::Fr) (.tuple #[dY s.readC.1,i64 s.readC.2])):=by
 refine an func123 aa ntmps123 aa ?_
 generalize hres:s.readC=res
 refine ac (ab (kPb (aC zeroValue134 aa) aa fun b2=>(kPa aa aa (ad (ac (ac (ab (kPm aa aa (aw aa (au call173 aa) (bI (q:=aB) (fun Fr=>cq _ Fr _ _ _)) .free aa aa ?_)))))))))
 refine kPv (ao aa aa aa) aa (ad ?_)
 refine a8 aa (fun h10=> ?_) (fun h10=> ?_)
 ·try simp only[decide_eq_true_eq,decide_eq_false_iff_not,Bool.not_eq_true',Bool.not_eq_false',Bool.or_eq_true,Bool.and_eq_true,Bool.and_eq_false_iff,Bool.or_eq_false_iff,beq_iff_eq,bne_iff_ne,beq_eq_false_iff_ne,bne_eq_false_iff_eq,ge_iff_le,gt_iff_lt,ne_eq] at h10
  refine ac (ab (kPv (aQ aa (sB)) aa (kPs (ax (vs:=_) sizeOf134 aa aa aa aa aa) aa (kPa aa aa (ad (az ?_))))))
  exact gj results123 (.cellA aa isAgg134 sizeOf134 aa aa) (.tmp aa) (fun w hw=>⟨by rw[←hres];unfold Dev.readC;rw[if_pos (by simpa [gx] using h10)];rfl,hw.tail⟩)
 ·try simp only[decide_eq_true_eq,decide_eq_false_iff_not,Bool.not_eq_true',Bool.not_eq_false',Bool.or_eq_true,Bool.and_eq_true,Bool.and_eq_false_iff,Bool.or_eq_false_iff,beq_iff_eq,bne_iff_ne,beq_eq_false_iff_ne,bne_eq_false_iff_eq,ge_iff_le,gt_iff_lt,ne_eq] at h10
  refine ar (ac (ab (kPb (aC zeroValue248 aa) aa fun b4=>(ad (ac (ac (ab (kPm aa aa (ad (aG (du (ι:=Nat) (fun k=>k≤3∧∀ j:Nat,j<k→s.load (1+(j:Int))≤4096) (fun k=>[(0,ptr b),(2,ptr b2),(3,i64 0),(4,ptr b4),(12,i64 k)]) (fun k=>row b4 (u9 s k) 248::row b2 [i64 0,i64 0,i64 0] 134::aB b s::Fr) (fun k=>3 - k) 0 ⟨Nat.zero_le _,fun j h=>absurd h (Nat.not_lt_zero _)⟩ (fun a w st=>st.to ⟨rfl,rfl,rfl,rfl,rfl,trivial⟩ id) ?_)))))))))))
  rintro k ⟨hk1,hk2⟩
  refine ac (ab (kPv (ao aa aa aa) aa (ad (ac ?_))))
  refine a8 aa (fun h13=> ?_) (fun h13=> ?_)
  ·have hk3:k<3:=by simp at h13;omega
   refine ar (ac (aG (ac (ab (kPm aa aa (kPa aa aa (ad (ac (ab (kPm aa aa (kPm aa aa ?_)))))))))))
   refine kPv (aN aa aa) aa (aw aa (au call173 aa) (bI (q:=aB) (fun Fr=>cq _ Fr _ _ _)) .free aa aa ?_)
   refine kPa aa aa (ad (am [6,5,12,4,3,2,0] rfl (ac (ac (ab (kPm aa aa (kPv (ao aa aa aa) aa (ad ?_))))))))
   refine a8 aa (fun h20=> ?_) (fun h20=> ?_)
   ·try simp only[decide_eq_true_eq,decide_eq_false_iff_not,Bool.not_eq_true',Bool.not_eq_false',Bool.or_eq_true,Bool.and_eq_true,Bool.and_eq_false_iff,Bool.or_eq_false_iff,beq_iff_eq,bne_iff_ne,beq_eq_false_iff_ne,bne_eq_false_iff_eq,ge_iff_le,gt_iff_lt,ne_eq] at h20
    refine ac (ab (kPv (aQ aa (sB)) aa (kPs (ax (vs:=_) sizeOf134 aa aa aa aa aa) aa (kPa aa aa (ad (az ?_))))))
    exact gj results123 (.cellA aa isAgg134 sizeOf134 aa aa) (.tmp aa) (fun w hw=>⟨by
   rw[←hres];unfold Dev.readC;rw[if_neg (by simpa [gx] using h10),if_pos (by
    rcases (by omega:k=0∨k=1∨k=2) with rfl | rfl | rfl
    ·left;exact h20
    ·right;left;exact h20
    ·right;right;exact h20)];rfl,hw.tail.tail⟩)
   ·try simp only[decide_eq_true_eq,decide_eq_false_iff_not,Bool.not_eq_true',Bool.not_eq_false',Bool.or_eq_true,Bool.and_eq_true,Bool.and_eq_false_iff,Bool.or_eq_false_iff,beq_iff_eq,bne_iff_ne,beq_eq_false_iff_ne,bne_eq_false_iff_eq,ge_iff_le,gt_iff_lt,ne_eq] at h20
    refine ar (ab (kPm aa aa (kPm aa aa (kPv (bR runUnderlying25 runUnderlying3 aa) aa (kPv (mF (m:=k) runUnderlying248 sizeOf3 aa aa (by omega) (by omega) (by omega)) aa (kPs (aO sizeOf3 aa aa aa (by rw[Nat.blt_eq];simp[u9,aW];omega)) aa (ad (am [12,4,3,2,0] rfl (ab (kPv (aN aa aa) aa (kPm aa aa ?_)))))))))))
    refine ad ?_
    exact fun a w st=>⟨k+1,⟨by omega,fun j hj=>by
     rcases Nat.lt_succ_iff_lt_or_eq.1 hj with h | h
     ·exact hk2 j h
     ·subst h;omega⟩,by omega,st.to ⟨rfl,rfl,rfl,rfl,rfl,trivial⟩ (fun hh=>by rw[show(Value.int IntKind.i64 (IntKind.i64.wrap (s.load (1+(k:Int)))))=i64 (cj s k) from rfl,zb rfl] at hh;exact hh)⟩
  ·have hk3:¬ k<3:=by simp at h13;omega
   obtain rfl:k=3:=by omega
   have hb0:s.load 1≤4096:=hk2 0 (by decide)
   have hb1:s.load 2≤4096:=hk2 1 (by decide)
   have hb2:s.load 3≤4096:=hk2 2 (by decide)
   refine bF (ac (ab (kPv (mF (m:=0) runUnderlying248 sizeOf3 aa aa (by decide) (by decide) (by decide)) aa (kPv (ah (v:=i64 (cj s 0)) isAgg3 aa (ow (by decide))) aa (kPv (mF (m:=1) runUnderlying248 sizeOf3 aa aa (by decide) (by decide) (by decide)) aa (kPv (ah (v:=i64 (cj s 1)) isAgg3 aa (ow (by decide))) aa (kPv (mF (m:=2) runUnderlying248 sizeOf3 aa aa (by decide) (by decide) (by decide)) aa (kPv (ah (v:=i64 (cj s 2)) isAgg3 aa (ow (by decide))) aa (kPv (aQ aa (dl _ _ _ aa aa aa)) aa (kPb (aC zeroValue134 aa) aa fun b7=>(kPs (ax (vs:=_) sizeOf134 aa aa aa aa aa) aa ?_)))))))))))
   refine ad (am [7,3,2,0] rfl (ac (ac (cV Tryz.mixed (by kernel_rfl) (by kernel_rfl) ?_))))
   refine kQv (ag isAgg134 sizeOf134 aa aa) aa ?_
   refine bG aa (au call175 aa) (pD _ _ ⟨cj s 0,cj s 1,cj s 2⟩) .free aa ?_
   refine kQv (ao aa aa aa) aa (kQm aa aa ?_)
   apply C8 (tp:=43) (t:=37) (σ1:=[(37,_),(7,_),(3,_),(2,_)]) 6 rfl (aE rfl)
   ·intro hg1
    refine bj aa (ak aa) (.on aa aa (ae hg1)) aa (bG aa (au call143 aa) (bI (q:=aB) (fun Fr=>kJ _ Fr _ _)) (.on aa aa (ae hg1)) aa ?_)
    refine bj aa (ag isAgg134 sizeOf134 aa aa) (.on aa aa (ae hg1)) aa ?_
    refine bG aa (au call120 aa) (jf _ _ ⟨cj s 0,cj s 1,cj s 2⟩ (CO hg1)) (.on aa aa (ae hg1)) aa ?_
    refine bj aa (ao aa aa aa) (.on aa aa (ae hg1)) aa (kQv (aJ aa hg1 aa) aa ?_)
    exact eU aa (aE aa) (gg hg1)
   ·intro hg1
    refine aV aa (.on aa aa (ai hg1)) aa (aV aa (.on aa aa (ai hg1)) aa (aV aa (.on aa aa (ai hg1)) aa (aV aa (.on aa aa (ai hg1)) aa (aV aa (.on aa aa (ai hg1)) aa (kQv (ay aa hg1 aa) aa ?_)))))
    exact eU aa (aE aa) (ge hg1)
   refine bY ?_
   refine a8 aa (fun h43=> ?_) (fun h43=> ?_)
   ·have hbad:¬ bA ⟨cj s 0,cj s 1,cj s 2⟩∨(s.n:Int)≠Cfg.words ⟨cj s 0,cj s 1,cj s 2⟩:=by
     by_cases q:bA ⟨cj s 0,cj s 1,cj s 2⟩
     ·right;simpa [chk,q] using h43
     ·exact .inl q
    refine ac (ab (kPv (aQ aa (sB)) aa (kPs (ax (vs:=_) sizeOf134 aa aa aa aa aa) aa (kPa aa aa (ad (az ?_))))))
    exact gj results123 (.cellA aa isAgg134 sizeOf134 aa aa) (.tmp aa) (fun w hw=>⟨by rw[←hres];unfold Dev.readC;rw[if_neg (by simpa [gx] using h10),if_neg (by omega),if_pos hbad];rfl,hw.tail.tail.tail⟩)
   ·have hgd:¬ (¬ bA ⟨cj s 0,cj s 1,cj s 2⟩∨(s.n:Int)≠Cfg.words ⟨cj s 0,cj s 1,cj s 2⟩):=by
     by_cases q:bA ⟨cj s 0,cj s 1,cj s 2⟩
     ·simp[chk,q] at h43;simp[q,h43]
     ·simp[chk,q] at h43
    refine ar (ac (ab (kPv (ag isAgg134 sizeOf134 aa aa) aa ?_)))
    refine kPs (ax (vs:=_) sizeOf134 aa aa aa aa aa) aa (kPa aa aa (ad (az ?_)))
    exact gj results123 (.cellA aa isAgg134 sizeOf134 aa aa) (.tmp aa) (fun w hw=>⟨by rw[←hres];unfold Dev.readC;rw[if_neg (by simpa [gx] using h10),if_neg (by omega),if_neg hgd];rfl,hw.tail.tail.tail⟩)
def okB{α:Type}(m:Out α)(p:α→Dev→Bool):Bool:=match m with
 | .ok a s=>p a s
 | .off _=>false
theorem bU{α:Type}{m:Out α}{p:α→Dev→Bool}{a:α}{s:Dev}(h:okB m p=true)(e:m= .ok a s):p a s=true:=by rw[e] at h;exact h
theorem jz{α:Type}{m:Out α}{p:α→Dev→Bool}{s:Dev}(h:okB m p=true)(e:m= .off s):False:=by rw[e] at h;cases h
def mP{α:Type}(m:Out α)(p:α→Prop)(n:Nat):Prop:=∃ a s,m= .ok a s∧p a∧s.pow.lim<0∧s.n=n
theorem cz{α β:Type}{m:Out α}{f:α→Dev→Out β}{p:α→Prop}{q:β→Prop}{n:Nat}(h:mP m p n)(g:∀ a s,p a→s.pow.lim<0→s.n=n→mP (f a s) q n):mP (m.then f) q n:=by
 obtain⟨a,s,rfl,h1,h2,h3⟩:=h
 exact g a s h1 h2 h3
theorem fz{s:Dev}{i v:Int}(h:s.pow.lim<0):mP (s.store i v) (fun _=>True) s.n:=by
 unfold Dev.store
 split
 ·exact⟨_,_,rfl,trivial,h,rfl⟩
 ·rw[oF h];exact⟨_,_,rfl,trivial,h,rfl⟩
theorem ik{s:Dev}{i:Int}(h:s.pow.lim<0):mP (s.flush i) (fun _=>True) s.n:=by
 unfold Dev.flush
 split
 ·exact⟨_,_,rfl,trivial,h,rfl⟩
 ·rw[oF h];exact⟨_,_,rfl,trivial,h,rfl⟩
theorem lq{s:Dev}(h:s.pow.lim<0):mP s.fence (fun _=>True) s.n:=⟨(),_,lY h,trivial,h,rfl⟩
theorem mD(f:Int→Int):∀ (k:Nat) (i:Int) (s:Dev),s.pow.lim<0→mP (eB f k i s) (fun _=>True) s.n
 | 0,_,s,h=>⟨(),s,rfl,trivial,h,rfl⟩
 | k+1,i,s,h=>cz (fz h) fun _ s1 _ h1 e1=>e1▸cz (ik h1) fun _ s2 _ h2 e2=>e2▸mD f k (i+1) s2 h2
theorem t6(l:List Int):∀ (k i:Nat) (s:Dev),s.pow.lim<0→mP (st3 l k i s) (fun _=>True) s.n
 | 0,_,s,h=>⟨(),s,rfl,trivial,h,rfl⟩
 | k+1,i,s,h=>cz (fz h) fun _ s1 _ h1 e1=>e1▸t6 l k (i+1) s1 h1
theorem m7{s:Dev}{c:Cfg}(h:s.pow.lim<0)(hc:bA c)(hn:(s.n:Int)=c.words):mP (s.format c) (fun a=>a=0) s.n:=by
 unfold Dev.format
 rw[if_neg (cB hc hn)]
 refine cz (fz h) fun _ s1 _ h1 e1=>(e1▸cz (ik h1) fun _ s2 _ h2 e2=>(e2▸cz (lq h2) fun _ s3 _ h3 e3=>(e3▸cz (t6 _ _ _ _ h3) fun _ s4 _ h4 e4=>(e4▸cz (fz h4) fun _ s5 _ h5 e5=>(e5▸cz (ik h5) fun _ s6 _ h6 e6=>(e6▸cz (mD _ _ _ _ h6) fun _ s7 _ h7 e7=>(e7▸cz (mD _ _ _ _ h7) fun _ s8 _ h8 e8=>(e8▸cz (ik h8) fun _ s9 _ h9 e9=>(e9▸cz (lq h9) fun _ s10 _ h10 e10=>(e10▸cz (fz h10) fun _ s11 _ h11 e11=>(e11▸cz (ik h11) fun _ s12 _ h12 e12=> ?_)))))))))))
 refine e12▸cz (lq h12) fun _ s13 _ h13 e13=> ?_
 exact⟨0,s13,rfl,rfl,h13,e13⟩
def lp(xs:List Int)(j:Nat):Int:=if xs.length=0 then 0 else xs.getD (j%xs.length) 0
def iP(pa:Nat)(xs:List Int)(n:Nat):Dev:=⟨pa,⟨-1,0⟩,n,fun i=>(tab n (lp xs)).getD i 0,fun i=>(tab n (lp xs)).getD i 0,fun _=>none⟩
theorem words_b{c:Cfg}(h:bA c):40≤c.words∧c.words≤20000∧c.words%8=0:=by
 have h1:=h.act
 have:=h.r1;have:=h.r2;have:=h.l1;have:=h.l2;have:=h.s1;have:=h.s2
 have hl:=fV (n:=c.root c.roots) (by simp only[Cfg.root];omega)
 have hs:=fV (n:=c.space) (by omega)
 simp only[Cfg.words,Cfg.frm,Cfg.root] at*
 omega
def o8(xs:List Int)(n k:Nat):List Value:=tab n fun j=>w64 (if j<k then lp xs j else 0)
theorem zT{xs:List Int}{n k:Nat}{x:Int}(h:x=lp xs k):(o8 xs n k).set k (w64 x)=o8 xs n (k+1):=by
 subst h
 unfold o8
 rw[nu]
 refine fD fun j _=> ?_
 simp only[upd]
 by_cases e:j=k
 ·subst e;simp
 ·rw[if_neg e]
  by_cases e2:j<k
  ·rw[if_pos e2,if_pos (by omega)]
  ·rw[if_neg e2,if_neg (by omega)]
theorem qM{xs:List Int}{n k:Nat}(h:xs.length=0):o8 xs n (k+1)=o8 xs n k:=by
 refine fD fun j _=> ?_
 simp[lp,h]
theorem x8(xs:List Int)(n:Nat):List.replicate n (.int .u64 0)=o8 xs n 0:=by
 apply List.ext_getElem?
 intro j
 by_cases h:j<n
 ·rw[o8,dT h];simp[h]
 ·rw[List.getElem?_eq_none (by simpa using h),List.getElem?_eq_none (by rw[o8,aW];omega)]
theorem zU(xs:List Int)(n:Nat):o8 xs n n=(tab n (lp xs)).map w64:=by
 rw[lH];exact fD fun j hj=>by rw[if_pos hj]
theorem B9{pa N:Nat}{xs:List Int}(h:N%8=0):(⟨pa,⟨-1,0⟩,((tab N (lp xs)).length+7) / 8*8,fun i=>(tab N (lp xs)).getD i 0,fun i=>(tab N (lp xs)).getD i 0,fun _=>none⟩:Dev)=iP pa xs N:=by
 rw[aW,show(N+7) / 8*8=N by omega];rfl
theorem zY{pa N:Nat}{xs:List Int}{c:Cfg}{a:Int}{s:Dev}(hc:bA c)(hN:(N:Int)=c.words)(h:(iP pa xs N).format c= .ok a s):a=0:=by
 obtain⟨b,t,e,hb,_⟩:=m7 (s:=iP pa xs N) (show(-1:Int)<0 by decide) hc hN
 rw[e] at h;cases h;exact hb
theorem BT{pa N:Nat}{xs:List Int}{c:Cfg}{s:Dev}(hc:bA c)(hN:(N:Int)=c.words)(h:(iP pa xs N).format c= .off s):False:=by
 obtain⟨b,t,e,hb,_⟩:=m7 (s:=iP pa xs N) (show(-1:Int)<0 by decide) hc hN
 rw[e] at h;cases h
theorem dW(B:World)(Fr:List HP)(c:Cfg)(hc:bA c)(q:Option Addr)(cap:Nat)(xs:List Int)(hx:xs.length≤100000)(hq:∀ i,i<xs.length→∃ b off,q=some ⟨b,off,none⟩)(hr:SlR B Fr (.slice q xs.length cap) (xs.map w64)):
 ∀ w,Holds B Fr w→Calls Tryz.prog 74 [dY c,.slice q xs.length cap].toArray w (Ret B (fun rv H'=>∃ (b pa N:Nat) (s':Dev),(N:Int)=c.words∧(iP pa xs N).format c= .ok 0 s'∧rv= .tuple #[ptr b,.bool true]∧H'=aB b s'::Fr) (fun _ _=>False)):=by
 refine an func74 aa ntmps74 aa ?_
 have hwb:=words_b hc
 obtain⟨N,hN⟩:∃ N:Nat,(N:Int)=c.words:=⟨c.words.toNat,by omega⟩
 refine ac (ab (kPb (aX aa) aa fun b2=>(kPa aa aa (kPa aa aa (ad (ac (ab (kPv (ag isAgg134 sizeOf134 aa aa) aa ?_))))))))
 refine aw aa (au call120 aa) (jf _ _ c hc) .free aa aa ?_
 rw[←hN]
 refine kPb (nM runUnderlying30 hO sizeOf25 zeroValue25 aa aa aa (by omega)) aa fun bl=> ?_
 rw[x8 xs]
 refine kPa aa aa (ad (ac (ac (ab (kPm aa aa (kPv (bD aa runUnderlying30 ⟨_,rfl⟩ rfl) aa (kPm aa aa (ad (aG (du (ι:=Nat) (fun k=>k≤N) (fun k=>[(1,.slice q xs.length cap),(2,ptr b2),(4,.pointer none),(5,.bool false),(6,.slice (some ⟨bl,0,none⟩) N N),(13,i64 N),(14,i64 k)]) (fun k=>row bl (o8 xs N k) 25::row b2 [i64 c.log,i64 c.roots,i64 c.space] 134::Fr) (fun k=>N - k) 0 (Nat.zero_le _) (fun a w st=>st.to ⟨rfl,rfl,rfl,rfl,rfl,rfl,rfl,trivial⟩ id) ?_))))))))))
 intro k hk
 refine ac (ab (kPv (ao aa aa aa) aa (ad (ac ?_))))
 refine a8 aa (fun h15=> ?_) (fun h15=> ?_)
 ·have hkN:k<N:=by simp at h15;omega
  refine ar (ac (aG (ac (ab (kPm aa aa (kPa aa aa (ad (am [7,14,13,6,5,4,2,1] rfl (ac (ab (kPm aa aa ?_)))))))))))
  refine kPv (bD aa runUnderlying30 ⟨_,rfl⟩ rfl) aa (kPv (ao aa aa aa) aa (ad ?_))
  refine a8 aa (fun h19=> ?_) (fun h19=> ?_)
  ·have hpos:0<xs.length:=by simp at h19;omega
   refine ab (kPm aa aa (kPm aa aa (kPm aa aa (kPm aa aa (kPm aa aa (kPv (bD aa runUnderlying30 ⟨_,rfl⟩ rfl) aa (kPv (fA (c:=((k%xs.length:Nat):Int)) aa aa (by omega) (by rw[Int.tmod_eq_emod_of_nonneg (by omega)];omega)) aa ?_)))))))
   obtain⟨ob,oo,rfl⟩:=hq 0 hpos
   refine kPv (cg runUnderlying30 sizeOf25 aa aa (by omega) (by have:=Nat.mod_lt k hpos;omega)) aa (kPv (bP (v:=w64 (lp xs k)) isAgg25 ((hr.cons _).cons _) aa (by have:=Nat.mod_lt k hpos;rw[Int.toNat_natCast];simp[lp,show ¬ xs.length=0 by omega,this,List.getD])) aa (kPv (cg runUnderlying30 sizeOf25 aa aa (by omega) (by omega)) aa (kPs (aO sizeOf25 aa aa aa (by rw[Nat.blt_eq,o8,aW];omega)) aa ?_)))
   rw[show 0+(k:Int).toNat=k by omega,zT rfl]
   refine ad (am [14,13,6,5,4,2,1] rfl (ab (kPv (aN aa aa) aa (kPm aa aa (ad ?_)))))
   first
    | exact fun a w st=>⟨k+1,by omega,by omega,st.to ⟨rfl,rfl,rfl,rfl,rfl,rfl,rfl,trivial⟩ id⟩
    | exact fun a w st=>⟨k+1,by omega,by omega,st.to ⟨rfl,rfl,rfl,rfl,rfl,rfl,rfl,trivial⟩ (fun hh=>by rw[qM hz];exact hh)⟩
  ·have hz:xs.length=0:=by have:=of_decide_eq_false h19;omega
   refine ar (ab (kPv (aN aa aa) aa (kPm aa aa (ad ?_))))
   first
    | exact fun a w st=>⟨k+1,by omega,by omega,st.to ⟨rfl,rfl,rfl,rfl,rfl,rfl,rfl,trivial⟩ id⟩
    | exact fun a w st=>⟨k+1,by omega,by omega,st.to ⟨rfl,rfl,rfl,rfl,rfl,rfl,rfl,trivial⟩ (fun hh=>by rw[qM hz];exact hh)⟩
 ·have hkN:¬ k<N:=by simp at h15;omega
  have hkN2:k=N:=by omega
  rw[hkN2]
  refine bF (ac (ab (kPm aa aa (aH aa (au call121 aa) (rG _ _ _ (tab N (lp xs)) (by rw[aW];omega) (by rw[aW];omega) (SlR.row (by rw[List.drop_zero,zU,List.take_of_length_le (by rw[List.length_map,aW];omega)]) (by rw[List.length_map,aW]))) .free aa aa ?_))))
  rintro _ _ ⟨bd,pa,rfl,rfl⟩
  refine kPa aa aa (ad (am [8,5,4,2] rfl (ac (ac (ab ?_)))))
  rw[B9 (by omega)]
  refine kPm aa aa (kPv (df runUnderlying90 aa aa aa) aa (kPm aa aa (al aa (ak aa) (.on aa aa (ae aa)) aa aa (al aa (ag isAgg134 sizeOf134 aa aa) (.on aa aa (ae aa)) aa aa ?_))))
  refine aU aa (au call122 aa) (o9 _ _ _ _ c) (.on aa aa (ae aa)) aa aa ?_ ?_
  rotate_left
  ·rintro _ _ ⟨s9,hm9,rfl,rfl⟩
   exact(BT hc hN hm9).elim
  rintro _ _ ⟨a,s1,hm1,rfl,rfl⟩
  refine al aa (ao aa aa aa) (.on aa aa (ae aa)) aa aa (kPv (aJ aa aa aa) aa (ad (am [40,8,5,4] rfl (bH aa (by have:=zY hc hN hm1;subst this;rfl) (ar (ac (ab (kPm aa aa (kPa aa aa (kPa aa aa (ad ?_)))))))))))
  refine az ?_
  exact ce results74 aa aa (fun w hh=>⟨_,⟨bd,pa,N,s1,rfl,by rw[←zY hc hN hm1];exact hm1,rfl,rfl⟩,(((hh.front 1 aa).tail).front 1 aa).tail⟩)
def d5(pa:Nat):Dev:=⟨pa,⟨-1,0⟩,56,fun i=>(List.replicate 56 (0:Int)).getD i 0,fun i=>(List.replicate 56 (0:Int)).getD i 0,fun _=>none⟩
set_option maxRecDepth 100000 in
theorem xb(pa:Nat):okB ((d5 pa).format ⟨3,1,8⟩) (fun a s=>a==0&&s.readC.1.log==3&&s.readC.1.roots==1&&s.readC.1.space==8&&s.readC.2==0&&(d5 pa).readC.2==7)=true:=by kernel_rfl
theorem yo(B:World)(H:List HP):
 ∀ w,Holds B H w→Calls Tryz.prog 242 [].toArray w (aZ B H (.bool true)):=by
 refine an func242 aa ntmps242 aa (ac (ab (kPa aa aa (ad (ac (ac (ab (aw aa (au call244 aa) (yp _ _) .free aa aa ?_))))))))
 refine kPv (bz aa) aa (ad (bH aa (rfl) (ar (ac (ab (kPb (nM (n:=56) runUnderlying30 hO sizeOf25 zeroValue25 aa aa aa (by omega)) aa fun bl=>(aH aa (au call121 aa) (rG _ _ _ (List.replicate 56 0) (by decide) (by decide) (SlR.row (by simp[w64]) (by simp))) .free aa aa ?_)))))))
 rintro _ _ ⟨bd,pa,rfl,rfl⟩
 rw[show(⟨pa,⟨-1,0⟩,((List.replicate 56 (0:Int)).length+7) / 8*8,fun i=>(List.replicate 56 (0:Int)).getD i 0,fun i=>(List.replicate 56 (0:Int)).getD i 0,fun _=>none⟩:Dev)=d5 pa from rfl]
 refine kPa aa aa (ad (ac (ac (ab (kPm aa aa (kPv (df runUnderlying90 aa aa aa) aa (ad (bH aa (rfl) (ar (ac (ab ?_)))))))))))
 refine kPm aa aa (aw aa (au call123 aa) (bI (q:=aB) (fun Fr=>ry _ Fr _ _)) .free aa aa ?_)
 refine kPm aa aa (kPv (aA aa aa) aa (kPv (aA aa aa) aa (kPb (aC zeroValue134 aa) aa fun b2=>(kPs (ax (vs:=_) sizeOf134 aa aa aa aa aa) aa (kPa aa aa (ad (am [3,1,0] rfl (ac (ab (dt 1 aa (kPm aa aa ?_)))))))))))
 refine kPv (aQ aa (dl _ _ _ aa aa aa)) aa ?_
 refine aU aa (au call122 aa) (o9 _ _ _ _ ⟨3,1,8⟩) .free aa aa ?_ ?_
 rotate_left
 ·rintro _ _ ⟨s9,hm9,rfl,rfl⟩
  exact(jz (xb pa) hm9).elim
 rintro _ _ ⟨a,s1,hm1,rfl,rfl⟩
 have hev:=bU (xb pa) hm1
 simp only[Bool.and_eq_true,beq_iff_eq] at hev
 obtain⟨⟨⟨⟨⟨v1,v2⟩,v3⟩,v4⟩,v5⟩,v6⟩:=hev
 have hw5:bA s1.readC.1:=⟨by omega,by omega,by omega,by omega,by omega,by omega⟩
 refine kPa aa aa (ad (ac (ab (kPm aa aa (aw aa (au call123 aa) (bI (q:=aB) (fun Fr=>ry _ Fr _ _)) .free aa aa ?_)))))
 refine kPm aa aa (kPv (aA aa aa) aa (kPv (aA aa aa) aa (kPb (aC zeroValue134 aa) aa fun b5=>(kPs (ax (vs:=_) sizeOf134 aa aa aa aa aa) aa (kPa aa aa (ad (am [6,5,4,3,0] rfl (ac (ab (kPm aa aa (kPv (ao aa aa aa) aa ?_)))))))))))
 refine kPm aa aa ?_
 apply dN (tp:=31) (t:=28) (σ1:=[(28,_),(6,_),(5,_),(0,_)]) 3 rfl (aE rfl)
 ·intro hg1
  refine al aa (ak aa) (.on aa aa (ae hg1)) aa aa (al aa (ao aa aa aa) (.on aa aa (ae hg1)) aa aa (kPv (ay aa hg1 aa) aa ?_))
  exact aY aa (aE aa) (cY hg1)
 ·intro hg1
  refine ap aa (.on aa aa (ai hg1)) aa (ap aa (.on aa aa (ai hg1)) aa (kPv (aJ aa hg1 aa) aa ?_))
  exact aY aa (aE aa) (cZ hg1)
 refine kPm aa aa ?_
 apply dN (tp:=35) (t:=32) (σ1:=[(32,_),(5,_),(0,_)]) 3 rfl (aE rfl)
 ·intro hg2
  refine al aa (ak aa) (.on aa aa (ae hg2)) aa aa (al aa (ao aa aa aa) (.on aa aa (ae hg2)) aa aa (kPv (ay aa hg2 aa) aa ?_))
  exact aY aa (aE aa) (cY hg2)
 ·intro hg2
  refine ap aa (.on aa aa (ai hg2)) aa (ap aa (.on aa aa (ai hg2)) aa (kPv (aJ aa hg2 aa) aa ?_))
  exact aY aa (aE aa) (cZ hg2)
 refine kPm aa aa ?_
 apply dN (tp:=40) (t:=36) (σ1:=[(36,_),(0,_)]) 4 rfl ⟨rfl,rfl,trivial⟩
 ·intro hg3
  refine al aa (ag isAgg134 sizeOf134 aa aa) (.on aa aa (ae hg3)) aa aa ?_
  refine aw aa (au call120 aa) (jf _ _ _ hw5) (.on aa aa (ae hg3)) aa aa ?_
  refine al aa (ao aa aa aa) (.on aa aa (ae hg3)) aa aa (kPv (ay aa hg3 aa) aa ?_)
  exact aY aa ⟨rfl,rfl,trivial⟩ (cY hg3)
 ·intro hg3
  refine ap aa (.on aa aa (ai hg3)) aa (ap aa (.on aa aa (ai hg3)) aa (ap aa (.on aa aa (ai hg3)) aa (kPv (aJ aa hg3 aa) aa ?_)))
  exact aY aa ⟨rfl,rfl,trivial⟩ (cZ hg3)
 refine kPa aa aa (ad (az ?_))
 exact aq results242 aa (fun w hw=>⟨tu (by rw[v6,v1,v5];simp[Cfg.words,Cfg.frm,Cfg.root,Cfg.active,Cfg.record,ii,v2,v3,v4]),hw.tail.tail.tail.tail⟩)
def l6(d:Nat)(s:Dev):Out (Int×bM):=((bT d ⟨3,1,8⟩ s).append s 40)
set_option maxRecDepth 100000 in
theorem xa(pa d:Nat):okB ((iP pa [] 56).format ⟨3,1,8⟩) (fun _ s=>okB (l6 d s) fun x s'=>x.1==0&&(bT d ⟨3,1,8⟩ s').n==1&&(bT d ⟨3,1,8⟩ s').epoch==1)=true:=by kernel_rfl
def s7(d:Nat)(s:Dev):bC:=⟨bT d ⟨3,1,8⟩ s,0,0,[],[]⟩
set_option maxRecDepth 100000 in
theorem w9(pa d:Nat):okB ((iP pa [] 56).format ⟨3,1,8⟩) (fun _ s=>okB ((s7 d s).store s 40 5) fun x s'=>x.1==0&&s'.load 40==5&&okB (x.2.abort s') fun _ s2=>s2.load 40==0)=true:=by kernel_rfl
theorem yn(B:World)(H:List HP):
 ∀ w,Holds B H w→Calls Tryz.prog 241 [].toArray w (aZ B H (.bool true)):=by
 refine an func241 aa ntmps241 aa (ac (ab (kPa aa aa (ad (ac (ac (ab (aw aa (au call242 aa) (yo _ _) .free aa aa ?_))))))))
 refine kPv (bz aa) aa (ad (bH aa (rfl) (ar (ac (ab (kPv (aQ aa (dl _ _ _ aa aa aa)) aa (kPb (aC zeroValue134 aa) aa fun b1=>(kPs (ax (vs:=_) sizeOf134 aa aa aa aa aa) aa (ad (ac (ab ?_)))))))))))
 refine kPv (ag isAgg134 sizeOf134 aa aa) aa ?_
 refine aH aa (au call74 aa) (dW _ _ ⟨3,1,8⟩ ga none 0 [] (by decide) (fun _ h=>absurd h (Nat.not_lt_zero _)) SlR.nil) .free aa aa ?_
 rintro _ _ ⟨bd,pa,N,s0,hN,hf,rfl,rfl⟩
 obtain rfl:N=56:=by have:(N:Int)=56:=hN.trans (by decide);omega
 refine kPm aa aa (kPv (aA aa aa) aa (kPv (aA aa aa) aa (kPa aa aa (kPa aa aa (ad (am [3,2,1,0] rfl (ac (ac (ab (kPm aa aa (kPv (bz aa) aa ?_)))))))))))
 refine ad (bH aa (rfl) (ar (ac (ab (kPm aa aa (kPv (ag isAgg134 sizeOf134 aa aa) aa ?_))))))
 refine aH aa (au call124 aa) (j8 _ _ _ _ ⟨3,1,8⟩ ga) .free aa aa ?_
 rintro _ _ ⟨bl2,rfl,rfl⟩
 refine kPa aa aa (ad (ac (ac (ab (kPm aa aa (kPv (df runUnderlying168 aa aa aa) aa (kPm aa aa (al aa (ak aa) (.on aa aa (ae aa)) aa aa ?_))))))))
 refine aU aa (au call144 aa) (oU _ _ _ (bT bd ⟨3,1,8⟩ s0) s0 (iB ga) 40) (.on aa aa (ae aa)) aa aa ?_ ?_
 rotate_left
 ·rintro _ _ ⟨s9,hm9,rfl,rfl⟩
  exact(jz (bU (xa pa bd) hf) hm9).elim
 rintro _ _ ⟨a,L1,s1,hm1,rfl,rfl⟩
 have hev:=bU (bU (xa pa bd) hf) hm1
 simp only[Bool.and_eq_true,beq_iff_eq] at hev
 obtain⟨⟨e1,e2⟩,e3⟩:=hev
 refine al aa (ao aa aa aa) (.on aa aa (ae aa)) aa aa (kPv (aJ aa aa aa) aa (kPm aa aa (al aa (ak aa) (.on aa aa (ae (by rw[e1];rfl))) aa aa (aH aa (au call179 aa) (m5 _ _ _) (.on aa aa (ae (by rw[e1];rfl))) aa aa ?_))))
 rintro _ _ ⟨bb,rfl,rfl⟩
 refine al aa (nH runUnderlying257 ⟨_,_,_,rfl⟩ rfl aa aa) (.on aa aa (ae (by rw[e1];rfl))) aa aa (kPv (aJ aa (by rw[e1];rfl) aa) aa (ad (am [30,2,1,0] rfl (bH aa (rfl) (ar (ac (ab (dt 2 aa ?_))))))))
 simp only[List.eraseIdx_cons_succ,List.eraseIdx_cons_zero]
 refine kPm aa aa (kPv (ag isAgg134 sizeOf134 aa aa) aa ?_)
 refine aH aa (au call124 aa) (j8 _ _ _ _ ⟨3,1,8⟩ ga) .free aa aa ?_
 rintro _ _ ⟨bl5,rfl,rfl⟩
 refine kPa aa aa (ad (ac (ab (kPm aa aa (kPv (df runUnderlying168 aa aa aa) aa (kPm aa aa ?_))))))
 apply dN (tp:=40) (t:=36) (σ1:=[(36,_),(5,_),(0,_)]) 4 rfl (aE rfl)
 ·intro hg1
  refine al aa (ak aa) (.on aa aa (ae hg1)) aa aa (aw aa (au call93 aa) (wC _ _ _ _) (.on aa aa (ae hg1)) aa aa ?_)
  refine al aa (ao aa aa aa) (.on aa aa (ae hg1)) aa aa (kPv (ay aa hg1 aa) aa ?_)
  exact aY aa (aE aa) (cY hg1)
 ·intro hg1
  refine ap aa (.on aa aa (ai hg1)) aa (ap aa (.on aa aa (ai hg1)) aa (ap aa (.on aa aa (ai hg1)) aa (kPv (aJ aa hg1 aa) aa ?_)))
  exact aY aa (aE aa) (cZ hg1)
 refine kPm aa aa ?_
 apply dN (tp:=45) (t:=41) (σ1:=[(41,_),(0,_)]) 4 rfl ⟨rfl,rfl,trivial⟩
 ·intro hg2
  refine al aa (ak aa) (.on aa aa (ae hg2)) aa aa (aw aa (au call243 aa) (xU _ _ _ _) (.on aa aa (ae hg2)) aa aa ?_)
  refine al aa (ao aa aa aa) (.on aa aa (ae hg2)) aa aa (kPv (ay aa hg2 aa) aa ?_)
  exact aY aa ⟨rfl,rfl,trivial⟩ (cY hg2)
 ·intro hg2
  refine ap aa (.on aa aa (ai hg2)) aa (ap aa (.on aa aa (ai hg2)) aa (ap aa (.on aa aa (ai hg2)) aa (kPv (aJ aa hg2 aa) aa ?_)))
  exact aY aa ⟨rfl,rfl,trivial⟩ (cZ hg2)
 refine kPa aa aa (ad (az ?_))
 exact aq results241 aa (fun w hw=>⟨tu (by
  show(!(some (⟨bl5,0,none⟩:Addr)).isNone&&(bT bd ⟨3,1,8⟩ s1).n==1&&(bT bd ⟨3,1,8⟩ s1).epoch==1)=true
  rw[e2,e3];rfl),hw.tail.tail.tail.tail.tail⟩)
theorem CF{d:Nat}{c:Cfg}{s:Dev}{f t:Int}(h:bA c):lA ⟨bT d c s,f,t,[],[]⟩:=⟨iB h,by simp⟩
theorem rm{S S':bC}{s s':Dev}{i v a:Int}(h:lA S)(hs:s.n≤1000000)(ha:0≤S.L.c.active)(e:S.store s i v= .ok (a,S') s')(hw:dK S'.L):lA S':=by
 refine⟨hw,?_⟩
 unfold bC.store at e
 split at e
 ·cases e;exact h.dirty
 ·rename_i hb
  split at e
  ·cases h1:S.L.append s i with
   | off t=>rw[h1] at e;cases e
   | ok x t=>
     rw[h1,aR] at e
     split at e
     ·cases e;exact h.dirty
     ·cases h2:t.store i v with
      | off u=>rw[h2] at e;cases e
      | ok y u=>
        rw[h2,aR] at e;cases e
        intro p hp
        rcases lR hp with rfl | hp
        ·simp only;omega
        ·exact h.dirty p hp
  ·cases h2:s.store i v with
   | off u=>rw[h2] at e;cases e
   | ok y u=>
     rw[h2,aR] at e;cases e
     intro p hp
     rcases lR hp with rfl | hp
     ·simp only;omega
     ·exact h.dirty p hp
theorem AW{L L':bM}{s s':Dev}{i a:Int}(h:dK L)(e:L.append s i= .ok (a,L') s'):dK L':=by
 unfold bM.append at e
 split at e
 ·cases e;exact h
 ·split at e
  ·cases e;exact h
  ·rename_i hn
   have h1:=h.n2
   have h2:=h.n1
   simp only[Out.then] at e
   repeat' split at e
   all_goals first | (cases e;exact⟨h.c,h.e1,h.e2,by simp only;omega,by simp only;omega⟩) | cases e
theorem jZ{S S':bC}{s s':Dev}{i v a:Int}(h:dK S.L)(e:S.store s i v= .ok (a,S') s'):dK S'.L:=by
 unfold bC.store at e
 split at e
 ·cases e;exact h
 ·split at e
  ·cases h1:S.L.append s i with
   | off t=>rw[h1] at e;cases e
   | ok x t=>
     obtain⟨x1,x2⟩:=x
     have hx:=AW h h1
     rw[h1,aR] at e
     split at e
     ·cases e;exact hx
     ·cases h2:t.store i v with
      | off u=>rw[h2] at e;cases e
      | ok y u=>rw[h2,aR] at e;cases e;exact hx
  ·cases h2:s.store i v with
   | off u=>rw[h2] at e;cases e
   | ok y u=>rw[h2,aR] at e;cases e;exact h
theorem n4{S S':bC}{s s':Dev}{i v a:Int}(e:S.store s i v= .ok (a,S') s'):S'.L.d=S.L.d∧S'.L.c=S.L.c∧S'.ff=S.ff∧S'.ft=S.ft:=by
 unfold bC.store at e
 split at e
 ·cases e;exact⟨rfl,rfl,rfl,rfl⟩
 ·split at e
  ·cases h1:S.L.append s i with
   | off t=>rw[h1] at e;cases e
   | ok x t=>
     obtain⟨x1,x2⟩:=x
     have hx:=mK h1
     rw[h1,aR] at e
     split at e
     ·cases e;exact⟨hx.1,hx.2,rfl,rfl⟩
     ·cases h2:t.store i v with
      | off u=>rw[h2] at e;cases e
      | ok y u=>rw[h2,aR] at e;cases e;exact⟨hx.1,hx.2,rfl,rfl⟩
  ·cases h2:s.store i v with
   | off u=>rw[h2] at e;cases e
   | ok y u=>rw[h2,aR] at e;cases e;exact⟨rfl,rfl,rfl,rfl⟩
theorem ym(B:World)(H:List HP):
 ∀ w,Holds B H w→Calls Tryz.prog 240 [].toArray w (aZ B H (.bool true)):=by
 refine an func240 aa ntmps240 aa (ac (ab (kPa aa aa (ad (ac (ac (ab (aw aa (au call241 aa) (yn _ _) .free aa aa ?_))))))))
 refine kPv (bz aa) aa (ad (bH aa (rfl) (ar (ac (ab (kPv (aQ aa (dl _ _ _ aa aa aa)) aa (kPb (aC zeroValue134 aa) aa fun b1=>(kPs (ax (vs:=_) sizeOf134 aa aa aa aa aa) aa (ad (ac (ab ?_)))))))))))
 refine kPv (ag isAgg134 sizeOf134 aa aa) aa ?_
 refine aH aa (au call74 aa) (dW _ _ ⟨3,1,8⟩ ga none 0 [] (by decide) (fun _ h=>absurd h (Nat.not_lt_zero _)) SlR.nil) .free aa aa ?_
 rintro _ _ ⟨bd,pa,N,s0,hN,hf,rfl,rfl⟩
 obtain rfl:N=56:=by have:(N:Int)=56:=hN.trans (by decide);omega
 refine kPm aa aa (kPv (aA aa aa) aa (kPv (aA aa aa) aa (kPa aa aa (kPa aa aa (ad (am [3,2,1,0] rfl (ac (ac (ab (kPm aa aa (kPv (bz aa) aa ?_)))))))))))
 refine ad (bH aa (rfl) (ar (ac (ab (kPm aa aa (kPv (ag isAgg134 sizeOf134 aa aa) aa ?_))))))
 refine aH aa (au call115 aa) (rq _ _ _ _ ⟨3,1,8⟩ ga) .free aa aa ?_
 rintro _ _ ⟨bs,rfl,rfl⟩
 refine kPa aa aa (ad (am [4,2,0] rfl (ac (ac (ab (kN fun bl o1 o2=>(kPm aa aa (kPv (df runUnderlying146 aa aa aa) aa (kPm aa aa (al aa (ak aa) (.on aa aa (ae aa)) aa aa (al aa (aI aa) (.on aa aa (ae aa)) aa aa ?_)))))))))))
 refine al aa (aD (m:=_) ip aa aa) (.on aa aa (ae aa)) aa aa (al aa (ah isAgg168 aa aa) (.on aa aa (ae aa)) aa aa (al aa (df runUnderlying168 aa aa aa) (.on aa aa (ae aa)) aa aa (kPv (aJ aa aa aa) aa (ad (am [30,4,2,0] rfl (bH aa (rfl) (ar (ac (ab (aM (H':=fC bs (⟨bT bd ⟨3,1,8⟩ s0,0,0,[],[]⟩:bC)::aB bd s0::row b1 _ 134::H) (fun w hh=>dU (S:=(⟨bT bd ⟨3,1,8⟩ s0,0,0,[],[]⟩:bC)) hh) (k9 bd fun hn1 hn2 hn3=> ?_)))))))))))
 refine kPm aa aa (kPv (aQ aa (xg)) aa (dC aa (au call83 aa) (jx _ _ _ _ _ _) .free aa aa ?_))
 refine kPm aa aa ?_
 refine aU aa (au call86 aa) (n7 _ _ _ (⟨bT bd ⟨3,1,8⟩ s0,0,0,[],[]⟩:bC) s0 (CF ga) _ _) .free aa aa ?_ ?_
 rotate_left
 ·rintro _ _ ⟨s9,hm9,rfl,rfl⟩
  exact(jz (bU (w9 pa bd) hf) hm9).elim
 rintro _ _ ⟨a,S1,s1,hm1,rfl,rfl⟩
 have hev:=bU (bU (w9 pa bd) hf) hm1
 simp only[Bool.and_eq_true,beq_iff_eq] at hev
 obtain⟨⟨e1,e2⟩,e3⟩:=hev
 have hd:=(n4 hm1).1
 have hW1:lA S1:=rm (CF ga) hn3 (show(0:Int)≤(Cfg.mk 3 1 8).active by decide) hm1 (jZ (iB ga) hm1)
 refine aM (H':=iQ bs S1::aB bd s1::row b1 _ 134::H) (fun w hh=>hh) (kPa aa aa (kPa aa aa (ad (ac (ab (kPm aa aa (aw aa (au call173 aa) (bI (q:=aB) (fun Fr=>cq _ Fr _ _ _)) .free aa aa ?_)))))))
 refine kPa aa aa (ad (am [7,6,5,4,2,0] rfl (ac (ab (aM (H':=iQ bs S1::aB S1.L.d s1::row b1 _ 134::H) (fun w hh=>by rw[hd];exact hh) (kPm aa aa ?_))))))
 refine aU aa (au call206 aa) (oh _ _ _ S1 s1 hW1) .free aa aa ?_ ?_
 rotate_left
 ·rintro _ _ ⟨s9,hm9,rfl,rfl⟩
  exact(jz e3 hm9).elim
 rintro _ _ ⟨S2,s2,hm2,rfl,rfl⟩
 have e4:=bU e3 hm2
 simp only[beq_iff_eq] at e4
 refine aM (H':=fC bs S2::aB bd s2::row b1 _ 134::H) (fun w hh=>by rw[hd] at hh;exact hh) (kPa aa aa (ad (ac (ab (kPm aa aa (kPv (ao aa aa aa) aa (kPm aa aa ?_)))))))
 apply dN (tp:=45) (t:=42) (σ1:=[(42,_),(8,_),(7,_),(4,_),(2,_),(0,_)]) 3 rfl (aE rfl)
 ·intro hg1
  refine al aa (ak aa) (.on aa aa (ae hg1)) aa aa (al aa (ao aa aa aa) (.on aa aa (ae hg1)) aa aa (kPv (ay aa hg1 aa) aa ?_))
  exact aY aa (aE aa) (cY hg1)
 ·intro hg1
  refine ap aa (.on aa aa (ai hg1)) aa (ap aa (.on aa aa (ai hg1)) aa (kPv (aJ aa hg1 aa) aa ?_))
  exact aY aa (aE aa) (cZ hg1)
 refine kPm aa aa ?_
 apply dN (tp:=49) (t:=46) (σ1:=[(46,_),(7,_),(4,_),(2,_),(0,_)]) 3 rfl (aE rfl)
 ·intro hg2
  refine al aa (ak aa) (.on aa aa (ae hg2)) aa aa (al aa (ao aa aa aa) (.on aa aa (ae hg2)) aa aa (kPv (ay aa hg2 aa) aa ?_))
  exact aY aa (aE aa) (cY hg2)
 ·intro hg2
  refine ap aa (.on aa aa (ai hg2)) aa (ap aa (.on aa aa (ai hg2)) aa (kPv (aJ aa hg2 aa) aa ?_))
  exact aY aa (aE aa) (cZ hg2)
 refine kPm aa aa ?_
 apply dN (tp:=53) (t:=50) (σ1:=[(50,_),(4,_),(2,_),(0,_)]) 3 rfl (aE rfl)
 ·intro hg3
  refine al aa (ak aa) (.on aa aa (ae hg3)) aa aa (al aa (ao aa aa aa) (.on aa aa (ae hg3)) aa aa (kPv (ay aa hg3 aa) aa ?_))
  exact aY aa (aE aa) (cY hg3)
 ·intro hg3
  refine ap aa (.on aa aa (ai hg3)) aa (ap aa (.on aa aa (ai hg3)) aa (kPv (aJ aa hg3 aa) aa ?_))
  exact aY aa (aE aa) (cZ hg3)
 refine kPm aa aa ?_
 apply dN (tp:=58) (t:=54) (σ1:=[(54,_),(4,_),(0,_)]) 4 rfl (aE rfl)
 ·intro hg4
  refine al aa (ak aa) (.on aa aa (ae hg4)) aa aa (aw aa (au call173 aa) (bI (q:=aB) (fun Fr=>cq _ Fr _ _ _)) (.on aa aa (ae hg4)) aa aa ?_)
  refine al aa (ao aa aa aa) (.on aa aa (ae hg4)) aa aa (kPv (ay aa hg4 aa) aa ?_)
  exact aY aa (aE aa) (cY hg4)
 ·intro hg4
  refine ap aa (.on aa aa (ai hg4)) aa (ap aa (.on aa aa (ai hg4)) aa (ap aa (.on aa aa (ai hg4)) aa (kPv (aJ aa hg4 aa) aa ?_)))
  exact aY aa (aE aa) (cZ hg4)
 refine kPm aa aa ?_
 apply dN (tp:=63) (t:=59) (σ1:=[(59,_),(0,_)]) 4 rfl ⟨rfl,rfl,trivial⟩
 ·intro hg5
  refine al aa (ak aa) (.on aa aa (ae hg5)) aa aa (aw aa (au call80 aa) (mp _ _ _ _) (.on aa aa (ae hg5)) aa aa ?_)
  refine al aa (bz aa) (.on aa aa (ae hg5)) aa aa (kPv (ay aa hg5 aa) aa ?_)
  exact aY aa ⟨rfl,rfl,trivial⟩ (cY hg5)
 ·intro hg5
  refine ap aa (.on aa aa (ai hg5)) aa (ap aa (.on aa aa (ai hg5)) aa (ap aa (.on aa aa (ai hg5)) aa (kPv (aJ aa hg5 aa) aa ?_)))
  exact aY aa ⟨rfl,rfl,trivial⟩ (cZ hg5)
 refine kPa aa aa (ad (az ?_))
 exact aq results240 aa (fun w hw=>⟨tu (by rw[e1,e2,e4];rfl),hw.tail.tail.tail⟩)
def Dev.pk(s:Dev)(x:Nat):Int:=eJ s.kept s.q x
def Run{α:Type}(m:Out α)(R:Dev→Prop):Prop:=∃ a s,m= .ok a s∧R s
theorem c9{α β:Type}{m:Out α}{f:α→Dev→Out β}{R Q:Dev→Prop}(h:Run m R)(g:∀ a s,R s→Run (f a s) Q):Run (m.then f) Q:=by
 obtain⟨a,s,rfl,h1⟩:=h
 exact g a s h1
structure FI(N:Nat)(D:Nat→Prop)(V:Nat→Int→Prop)(s:Dev):Prop where
 lim:s.pow.lim<0
 n:s.n=N
 p:∀ x,¬ D (x / 8)→s.pk x=s.now x
 v:∀ x y,V x y→s.now x=y
theorem oC(s:Dev)(i x:Nat):(s.up.fl i).pk x=if x / 8=i / 8 then s.now x else s.pk x:=by
 simp only[Dev.pk,Dev.fl,Dev.up,eJ,upd]
 by_cases e:x / 8=i / 8
 ·rw[if_pos e,if_pos e]
  simp only
  congr 1;omega
 ·rw[if_neg e,if_neg e]
theorem zi(s:Dev)(x:Nat):s.up.fe.pk x=s.pk x:=rfl
theorem iU{N:Nat}{D:Nat→Prop}{V V':Nat→Int→Prop}{s:Dev}{i v:Int}(h:FI N D V s)(hi:0≤i∧i<N)(hv:∀ x y,V' x y→(x=i.toNat∧y=v)∨(x≠i.toNat∧V x y)):
 Run (s.store i v) (FI N (fun l=>D l∨l=i.toNat / 8) V'):=by
 refine⟨0,_,lJ h.lim ⟨hi.1,by rw[h.n];exact hi.2⟩,?_⟩
 refine⟨h.lim,h.n,fun x hx=> ?_,fun x y hp=> ?_⟩
 ·have hne:x≠i.toNat:=fun e=>hx (.inr (by rw[e]))
  show s.pk x=upd s.now i.toNat v x
  simp only[upd,if_neg hne]
  exact h.p x fun hd=>hx (.inl hd)
 ·show upd s.now i.toNat v x=y
  rcases hv x y hp with ⟨e1,e2⟩ | ⟨e1,e2⟩
  ·simp only[upd,if_pos e1,e2]
  ·simp only[upd,if_neg e1];exact h.v x y e2
theorem iV{N:Nat}{D D':Nat→Prop}{V:Nat→Int→Prop}{s:Dev}{i:Int}(h:FI N D V s)(hi:0≤i∧i<N)(hD:∀ l,D l→D' l∨l=i.toNat / 8):
 Run (s.flush i) (FI N D' V):=by
 refine⟨0,_,pg h.lim ⟨hi.1,by rw[h.n];exact hi.2⟩,?_⟩
 refine⟨h.lim,h.n,fun x hx=> ?_,h.v⟩
 rw[oC]
 by_cases e:x / 8=i.toNat / 8
 ·rw[if_pos e];rfl
 ·rw[if_neg e]
  exact h.p x fun hd=>(hD _ hd).elim hx e
theorem mt{N:Nat}{D:Nat→Prop}{V:Nat→Int→Prop}{s:Dev}(h:FI N D V s):Run s.fence (fun s'=>FI N D V s'∧s'.kept=s'.pk∧s'.q=fun _=>none):=by
 refine⟨(),_,lY h.lim,⟨h.lim,h.n,fun x hx=> ?_,h.v⟩,rfl,rfl⟩
 rw[zi];exact h.p x hx
def VZ(V:Nat→Int→Prop)(f:Int→Int)(i:Int)(k:Nat)(x:Nat)(y:Int):Prop:=(V x y∧∀ j:Int,i≤j→j<i+k→x≠(f j).toNat)∨(y=0∧∃ j:Int,i≤j∧j<i+k∧x=(f j).toNat)
theorem ol{N:Nat}{D:Nat→Prop}(f:Int→Int):∀ (k:Nat) (V:Nat→Int→Prop) (i:Int) (s:Dev),FI N D V s→(∀ j:Int,i≤j→j<i+k→0≤f j∧f j<N)→Run (eB f k i s) (FI N D (VZ V f i k))
 | 0,V,i,s,h,_=>⟨(),s,rfl,h.lim,h.n,h.p,fun x y hv=>by
   rcases hv with ⟨h1,_⟩ | ⟨_,j,h1,h2,_⟩
   ·exact h.v x y h1
   ·omega⟩
 | k+1,V,i,s,h,hf=>by
   have hfi:=hf i (Int.le_refl _) (by omega)
   refine c9 (iU (V':=fun x y=>(V x y∧x≠(f i).toNat)∨(y=0∧x=(f i).toNat)) h hfi fun x y hp=> ?_) fun _ s1 h1=>c9 (iV (D':=D) h1 hfi fun l hl=>hl) fun _ s2 h2=> ?_
   ·rcases hp with ⟨h1,h2⟩ | ⟨h1,h2⟩
    ·exact .inr ⟨h2,h1⟩
    ·exact .inl ⟨h2,h1⟩
   ·obtain⟨a,s3,e,h3⟩:=ol f k _ (i+1) s2 h2 (fun j h3 h4=>hf j (by omega) (by omega))
    refine⟨a,s3,e,h3.lim,h3.n,h3.p,fun x y hv=>h3.v x y ?_⟩
    rcases hv with ⟨g1,g2⟩ | ⟨g1,j,g2,g3,g4⟩
    ·exact .inl ⟨.inl ⟨g1,g2 i (by omega) (by omega)⟩,fun j h5 h6=>g2 j (by omega) (by omega)⟩
    ·by_cases hx:∃ j:Int,i+1≤j∧j<i+1+k∧x=(f j).toNat
     ·exact .inr ⟨g1,hx⟩
     ·refine .inl ⟨.inr ⟨g1,?_⟩,fun j' h5 h6 h7=>hx ⟨j',h5,h6,h7⟩⟩
      by_cases hj:j=i
      ·rw[g4,hj]
      ·exact absurd ⟨j,by omega,by omega,g4⟩ hx
theorem wj{N:Nat}(l:List Int)(hN:40≤N):∀ (k i:Nat) (V:Nat→Int→Prop) (s:Dev),i+k≤3→FI N (fun l=>l=0) V s→Run (st3 l k i s) (FI N (fun l=>l=0) (fun x y=>(V x y∧(x<1+i∨1+i+k≤x))∨(1+i≤x∧x<1+i+k∧y=l.getD (x - 1) 0)))
 | 0,i,V,s,_,h=>⟨(),s,rfl,h.lim,h.n,h.p,fun x y hv=>by
   rcases hv with ⟨h1,_⟩ | ⟨h1,h2,_⟩
   ·exact h.v x y h1
   ·omega⟩
 | k+1,i,V,s,hk,h=>by
   refine c9 (iU (V':=fun x y=>(V x y∧x≠1+i)∨(x=1+i∧y=l.getD i 0)) h ⟨by omega,by omega⟩ fun x y hp=> ?_) fun _ s1 h1=> ?_
   ·have e:(1+(i:Int)).toNat=1+i:=by omega
    rw[e]
    rcases hp with ⟨h1,h2⟩ | ⟨h1,h2⟩
    ·exact .inr ⟨h2,h1⟩
    ·exact .inl ⟨h1,h2⟩
   ·obtain⟨a,s3,e,h3⟩:=wj l hN k (i+1) _ s1 (by omega) ⟨h1.lim,h1.n,fun x hx=>h1.p x fun hd=>by
     rcases hd with h2 | h2
     ·exact hx h2
     ·exact hx (by rw[h2];omega),h1.v⟩
    refine⟨a,s3,e,h3.lim,h3.n,h3.p,fun x y hv=>h3.v x y ?_⟩
    rcases hv with ⟨g1,g2⟩ | ⟨g1,g2,g3⟩
    ·exact .inl ⟨.inl ⟨g1,by omega⟩,by omega⟩
    ·by_cases hx:x=1+i
     ·exact .inl ⟨.inr ⟨hx,by rw[g3,hx];congr 1;omega⟩,by omega⟩
     ·exact .inr ⟨by omega,by omega,g3⟩
theorem FI.weak{N:Nat}{D D':Nat→Prop}{V V':Nat→Int→Prop}{s:Dev}(h:FI N D V s)(hD:∀ l,D l→D' l)(hv:∀ x y,V' x y→V x y):FI N D' V' s:=⟨h.lim,h.n,fun x hx=>h.p x fun hd=>hx (hD _ hd),fun x y hp=>h.v x y (hv x y hp)⟩
structure A5(s:Dev):Prop where
 kept:s.kept=s.now
 q:s.q=fun _=>none
structure CP(c:Cfg)(s:Dev):Prop where
 ep:s.now 8=1
 recs:∀ k:Nat,(k:Int)<c.log→s.now (16+4*k)=0
 block:∀ x:Nat,c.active≤x→x<c.root c.roots→s.now x=0
 magic:s.now 0=gx
 cfg:s.now 1=c.log∧s.now 2=c.roots∧s.now 3=c.space
theorem vy{s:Dev}{c:Cfg}{N:Nat}(hc:bA c)(hn:(s.n:Int)=c.words)(hN:s.n=N)(hl:s.pow.lim<0)(hs:A5 s):Run (s.format c) (fun s'=>A5 s'∧s'.pow.lim<0∧s'.n=N∧CP c s'):=by
 have hw:=words_b hc
 have hact:=hc.act
 have:=hc.r1;have:=hc.r2;have:=hc.l1;have:=hc.l2;have:=hc.s1;have:=hc.s2
 have hroot:c.active≤c.root c.roots∧c.root c.roots≤c.words:=by
  have h1:=fV (n:=c.root c.roots) (by simp only[Cfg.root];omega)
  have h2:=fV (n:=c.space) (by omega)
  refine⟨by simp only[Cfg.root];omega,?_⟩
  simp only[Cfg.words,Cfg.frm]
  omega
 have hN40:40≤N:=by omega
 have h0:FI N (fun _=>False) (fun _ _=>False) s:=⟨hl,hN,fun x _=>by rw[Dev.pk,hs.q];show s.kept x=_;rw[hs.kept],fun _ _ h=>h.elim⟩
 unfold Dev.format
 rw[if_neg (cB hc hn)]
 refine c9 (iU (V':=fun _ _=>False) h0 ⟨by omega,by omega⟩ fun _ _ h=>h.elim) fun _ s1 h1=> ?_
 refine c9 (iV (D':=fun _=>False) h1 ⟨by omega,by omega⟩ fun l hl=>hl) fun _ s2 h2=> ?_
 refine c9 (mt h2) fun _ s3 h3=> ?_
 refine c9 (wj _ hN40 3 0 _ s3 (by omega) (h3.1.weak (V':=fun _ _=>False) (fun _ h=>h.elim) fun _ _ h=>h)) fun _ s4 h4=> ?_
 refine c9 (iU (V':=fun x y=>(x=8∧y=1)∨(x=1∧y=c.log)∨(x=2∧y=c.roots)∨(x=3∧y=c.space)) h4 ⟨by omega,by omega⟩ fun x y hp=> ?_) fun _ s5 h5=> ?_
 ·rcases hp with ⟨e1,e2⟩ | ⟨e1,e2⟩ | ⟨e1,e2⟩ | ⟨e1,e2⟩
  ·exact .inl ⟨e1,e2⟩
  ·exact .inr ⟨by rw[e1];decide,.inr ⟨by omega,by omega,by rw[e2,e1];rfl⟩⟩
  ·exact .inr ⟨by rw[e1];decide,.inr ⟨by omega,by omega,by rw[e2,e1];rfl⟩⟩
  ·exact .inr ⟨by rw[e1];decide,.inr ⟨by omega,by omega,by rw[e2,e1];rfl⟩⟩
 refine c9 (iV (D':=fun l=>l=0) h5 ⟨by omega,by omega⟩ fun l hl=>hl) fun _ s6 h6=> ?_
 refine c9 (ol c.record c.log.toNat _ 0 s6 h6 fun j h3 h4=>⟨by simp only[Cfg.record];omega,by simp only[Cfg.record];omega⟩) fun _ s7 h7=> ?_
 refine c9 (ol id (c.root c.roots - c.active).toNat _ c.active s7 h7 fun j h3 h4=>⟨by simp only[id];omega,by simp only[id];omega⟩) fun _ s8 h8=> ?_
 refine c9 (iV (D':=fun _=>False) h8 ⟨by omega,by omega⟩ fun l hl=> .inr (by simpa using hl)) fun _ s9 h9=> ?_
 refine c9 (mt h9) fun _ s10 h10=> ?_
 have hold:∀ x y,x≠0→VZ (VZ (fun x y=>(x=8∧y=1)∨(x=1∧y=c.log)∨(x=2∧y=c.roots)∨(x=3∧y=c.space)) c.record 0 c.log.toNat) id c.active (c.root c.roots - c.active).toNat x y→True:=fun _ _ _ _=>trivial
 refine c9 (iU (V':=fun x y=>(x=0∧y=gx)∨(x≠0∧VZ (VZ (fun x y=>(x=8∧y=1)∨(x=1∧y=c.log)∨(x=2∧y=c.roots)∨(x=3∧y=c.space)) c.record 0 c.log.toNat) id c.active (c.root c.roots - c.active).toNat x y)) h10.1 ⟨by omega,by omega⟩ fun x y hp=> ?_) fun _ s11 h11=> ?_
 ·rcases hp with ⟨e1,e2⟩ | ⟨e1,e2⟩
  ·exact .inl ⟨e1,e2⟩
  ·exact .inr ⟨e1,e2⟩
 refine c9 (iV (D':=fun _=>False) h11 ⟨by omega,by omega⟩ fun l hl=>hl) fun _ s12 h12=> ?_
 refine c9 (mt h12) fun _ s13 h13=> ?_
 have hkeep:∀ x y,x≠0→x<16→((x=8∧y=1)∨(x=1∧y=c.log)∨(x=2∧y=c.roots)∨(x=3∧y=c.space))→s13.now x=y:=fun x y h1 h2 h3=>h13.1.v x y (.inr ⟨h1,.inl ⟨.inl ⟨h3,fun j _ _=>by simp only[Cfg.record];omega⟩,fun j _ _=>by simp only[id];omega⟩⟩)
 refine⟨0,s13,rfl,⟨?_,h13.2.2⟩,h13.1.lim,h13.1.n,hkeep 8 1 (by decide) (by decide) (.inl ⟨rfl,rfl⟩),fun k hk=> ?_,fun x hx1 hx2=> ?_,h13.1.v 0 _ (.inl ⟨rfl,rfl⟩),hkeep 1 _ (by decide) (by decide) (.inr (.inl ⟨rfl,rfl⟩)),hkeep 2 _ (by decide) (by decide) (.inr (.inr (.inl ⟨rfl,rfl⟩))),hkeep 3 _ (by decide) (by decide) (.inr (.inr (.inr ⟨rfl,rfl⟩)))⟩
 ·rw[h13.2.1];funext x;exact h13.1.p x (fun h=>h)
 ·exact h13.1.v _ _ (.inr ⟨by omega,.inl ⟨.inr ⟨rfl,k,by omega,by omega,by simp only[Cfg.record];omega⟩,fun j h1 _=>by simp only[id];omega⟩⟩)
 ·exact h13.1.v _ _ (.inr ⟨by omega,.inr ⟨rfl,x,by omega,by omega,by simp⟩⟩)
structure Fmt(c:Cfg)(N:Nat)(s:Dev):Prop where
 calm:A5 s
 lim:s.pow.lim<0
 n:s.n=N
 log:∀ d,bT d c s=⟨d,c,1,0⟩
 ep:s.now 8=1∧s.now 16=0
 st:CP c s
theorem vh{s:Dev}{c:Cfg}{e:Int}(h:s.load (c.record 0)≠gr e 0):∀ f,gH s c e f 0=0
 | 0=>rfl
 | f+1=>by simp only[gH];rw[if_neg h]
theorem pf{pa N:Nat}{xs:List Int}{c:Cfg}{s:Dev}(hc:bA c)(hN:(N:Int)=c.words)(h:(iP pa xs N).format c= .ok 0 s):Fmt c N s:=by
 have hw:=words_b hc
 obtain⟨a,t,e,h1,h2,h3,hst⟩:=vy (s:=iP pa xs N) hc hN rfl (show(-1:Int)<0 by decide) ⟨rfl,rfl⟩
 rw[h] at e;cases e
 have h3:s.n=N:=h3
 have h4:=hst.ep
 have h5:s.now 16=0:=hst.recs 0 (by have:=hc.l1;have:=hc.r1;omega)
 refine⟨h1,h2,h3,fun d=> ?_,⟨h4,h5⟩,hst⟩
 have e8:s.load 8=1:=by
  have:s.has 8=true:=by simp[Dev.has,h3];omega
  simp[Dev.load,this,h4]
 have e16:s.load (c.record 0)=0:=by
  have:s.has 16=true:=by simp[Dev.has,h3];omega
  show s.load 16=0
  simp[Dev.load,this,h5]
 unfold bT
 rw[e8]
 have:gH s c (1%4294967296) c.log.toNat 0=0:=vh (by rw[e16];decide) _
 rw[this];rfl
structure Blk where
 act:Int
 used:Int
 rts:List Int
def U64(s:Dev):Prop:=∀ x,0≤s.now x∧s.now x<18446744073709551616
theorem U64.load{s:Dev}(h:U64 s)(i:Int):0≤s.load i∧s.load i<18446744073709551616:=by
 unfold Dev.load
 split
 ·exact h _
 ·omega
def Dev.block(s:Dev)(c:Cfg):Blk×Int:=
 if 1<s.load c.active∨c.space<s.load (c.active+1) then (⟨0,0,[]⟩,10)
 else (⟨s.load c.active,s.load (c.active+1),tab c.roots.toNat fun i=>s.load (c.root i)⟩,0)
structure gh(c:Cfg)(b:Blk):Prop where
 act:0≤b.act∧b.act≤1
 used:0≤b.used∧b.used≤c.space
theorem dG{s:Dev}{c:Cfg}(hc:bA c)(hu:U64 s):gh c (s.block c).1:=by
 have h1:=hu.load c.active
 have h2:=hu.load (c.active+1)
 have:=hc.s1
 unfold Dev.block
 split
 ·exact⟨⟨by decide,by decide⟩,⟨by decide,by show(0:Int)≤c.space;omega⟩⟩
 ·rename_i h
  exact⟨⟨by simp only;omega,by simp only;omega⟩,⟨by simp only;omega,by simp only;omega⟩⟩
def Blk.place(b:Blk)(c:Cfg)(i:Int):Int:=c.frm b.act+i
def Blk.has(b:Blk)(c:Cfg)(w:Int):Bool:=decide (c.frm b.act≤w)&&decide (w - c.frm b.act<b.used)
abbrev db:=Int×Int×Int
def Dev.objOf(s:Dev)(c:Cfg)(b:Blk)(at_:Int):db×Int:=
 if at_<0∨b.has c at_=false then ((0,0,0),6)
 else if (unp (s.load at_)).2.2=false∨b.place c b.used - at_<(unp (s.load at_)).1+1 then ((0,0,0),8)
 else (((unp (s.load at_)).1,(unp (s.load at_)).2.1,at_),0)
def cm(o:db)(i:Int)(ref:Bool):Int×Int:=
 if i<0∨o.1≤i then (0,1) else if decide (i<o.2.1)≠ref then (0,5) else (o.2.2+1+i,0)
def Dev.objRead(s:Dev)(o:db)(i:Int):Int×Int:=if (cm o i false).2≠0 then (0,(cm o i false).2) else (s.load (cm o i false).1,0)
def Dev.objNames(s:Dev)(o:db):Nat→Int→List (Int×Int)
 | 0,_=>[]
 | f+1,k=>if IntKind.i64.wrap (s.load (o.2.2+1+k))≠0 then (k,IntKind.i64.wrap (s.load (o.2.2+1+k)))::s.objNames o f (k+1) else s.objNames o f (k+1)
def Dev.objs(s:Dev)(c:Cfg)(b:Blk):Nat→Int→List (db×Int)
 | 0,_=>[]
 | f+1,at_=>if b.place c b.used≤at_ then [] else
   if (s.objOf c b at_).2≠0 then [((0,0,at_),(s.objOf c b at_).2)]
   else s.objOf c b at_::s.objs c b f (at_+((s.objOf c b at_).1.1+1))
theorem iF{c:Cfg}(hc:bA c){k:Int}(hk:0≤k∧k≤2):24<c.frm k∧c.frm k+(2 - k)*c.space≤c.words∧c.words≤20000∧c.active+2+c.roots≤c.frm k∧c.frm k≤c.words:=by
 have h1:=hc.act
 have h2:=words_b hc
 have:=hc.r1;have:=hc.r2;have:=hc.l1;have:=hc.l2;have:=hc.s1;have:=hc.s2
 have h3:=fV (n:=c.root c.roots) (by simp only[Cfg.root];omega)
 have h4:=fV (n:=c.space) (by omega)
 simp only[Cfg.words,Cfg.frm,Cfg.root] at*
 rcases (by omega:k=0∨k=1∨k=2) with rfl | rfl | rfl<;>omega
theorem kC{c:Cfg}{b:Blk}(hc:bA c)(hb:gh c b){w:Int}(h:b.has c w=true):c.frm b.act≤w∧w<c.frm b.act+b.used∧w<20000∧24<w:=by
 have h1:=hb.act
 have h2:=hb.used
 have h3:=iF hc (k:=b.act) (by omega)
 have:=hc.s1
 unfold Blk.has at h
 simp only[Bool.and_eq_true,decide_eq_true_eq] at h
 rcases (by omega:b.act=0∨b.act=1) with e | e<;>(rw[e] at h h3 ⊢;omega)
def mkC(l r s:Int):Cfg:=⟨1+r%6+2+l%12,1+r%6,8+s%90⟩
theorem wA{l r s:Int}(hl:0≤l)(hr:0≤r)(hs:0≤s):bA (mkC l r s):=⟨by simp only[mkC];omega,by simp only[mkC];omega,by simp only[mkC];omega,by simp only[mkC];omega,by simp only[mkC];omega,by simp only[mkC];omega⟩
abbrev u16(x:Int):Value:= .int .u16 x
theorem jQ{a:Int}(k:Int)(h:0≤a):a.tmod k=a%k:=Int.tmod_eq_emod_of_nonneg h
theorem wB(B:World)(H:List HP)(l r s:Int)(hl:0≤l)(hr:0≤r)(hs:0≤s):
 ∀ w,Holds B H w→Calls Tryz.prog 73 [.agg #[u16 l,u16 r,u16 s]].toArray w (aZ B H (dY (mkC l r s))):=by
 refine an func73 aa ntmps73 aa (ac (ab (kPb (aX aa) aa fun b1=>(kPb (aC zeroValue134 aa) aa fun b2=>(ad (ac (ab (kPl BZ isAgg48 aa aa aa aa (kPv (fA (c:=r%6) aa aa (by decide) (jQ 6 (by omega))) aa (kPv (bR runUnderlying48 runUnderlying3 aa) aa (kPv (aN aa aa) aa ?_)))))))))))
 refine kPa aa aa (ad (ac (ab (kPm aa aa (kPm aa aa (kPv (aN aa aa) aa (kPl B0 isAgg48 aa aa aa aa (kPv (fA (c:=l%12) aa aa (by decide) (jQ 12 (by omega))) aa (kPv (bR runUnderlying48 runUnderlying3 aa) aa (kPv (aN aa aa) aa (kPl BY isAgg48 aa aa aa aa ?_)))))))))))
 refine kPv (fA (c:=s%90) aa aa (by decide) (jQ 90 (by omega))) aa (kPv (bR runUnderlying48 runUnderlying3 aa) aa (kPv (aN aa aa) aa (kPv (aQ aa (p5 _ _ _ aa aa aa)) aa (kPs (ax (vs:=_) sizeOf134 aa aa aa aa aa) aa (ad (am [2] rfl (az ?_)))))))
 exact qh results73 (.cellA aa isAgg134 sizeOf134 aa aa) (fun w hw=>⟨rfl,hw.tail.tail⟩)
theorem uo(B:World)(H:List HP)(q1 q2:Option Addr)(c1 c2:Nat)(xs ys:List Int)(hx:xs.length≤1000000)(hy:ys.length≤1000000)(h1:∀ i,i<xs.length→∃ b off,q1=some ⟨b,off,none⟩)(h2:∀ i,i<ys.length→∃ b off,q2=some ⟨b,off,none⟩)(r1:SlR B H (.slice q1 xs.length c1) (xs.map w64))(r2:SlR B H (.slice q2 ys.length c2) (ys.map w64)):
 ∀ w,Holds B H w→Calls Tryz.prog 25 [.slice q1 xs.length c1,.slice q2 ys.length c2].toArray w (aZ B H (.bool (decide (xs=ys)))):=by
 refine an func25 aa ntmps25 aa (ac (ab (kPa aa aa (ad (ac (ac (ab (kPm aa aa (kPv (bD aa runUnderlying30 ⟨_,rfl⟩ rfl) aa (kPm aa aa (kPv (bD aa runUnderlying30 ⟨_,rfl⟩ rfl) aa ?_)))))))))))
 refine kPv (ao aa aa aa) aa (ad ?_)
 refine a8 aa (fun h10=> ?_) (fun h10=> ?_)
 ·have hne:xs.length≠ys.length:=by intro e;rw[e] at h10;simp at h10
  refine ac (ab (kPa aa aa (ad (az ?_))))
  exact aq results25 aa (fun w hw=>⟨by rw[decide_eq_false (fun e=>hne (by rw[e]))],hw⟩)
 ·have hle:xs.length=ys.length:=by simp at h10;omega
  refine ar (ac (ac (ab (kPm aa aa (kPv (bD aa runUnderlying30 ⟨_,rfl⟩ rfl) aa (kPm aa aa (ad (aG (du (ι:=Nat) (fun k=>k≤xs.length∧∀ j,j<k→xs[j]? =ys[j]?) (fun k=>[(0,.slice q1 xs.length c1),(1,.slice q2 ys.length c2),(4,.bool false),(12,i64 xs.length),(13,i64 k)]) (fun _=>H) (fun k=>xs.length - k) 0 ⟨Nat.zero_le _,fun j h=>absurd h (Nat.not_lt_zero _)⟩ (fun a w st=>st.to ⟨rfl,rfl,rfl,rfl,rfl,trivial⟩ id) ?_)))))))))
  rintro k ⟨hk1,hk2⟩
  refine ac (ab (kPv (ao aa aa aa) aa (ad (ac ?_))))
  refine a8 aa (fun h14=> ?_) (fun h14=> ?_)
  ·have hk:k<xs.length:=by simp at h14;omega
   refine ar (ac (aG (ac (ab (kPm aa aa (kPa aa aa (ad (am [5,13,12,4,0,1] rfl (ac (cV Tryz.mixed (by kernel_rfl) (by kernel_rfl) ?_))))))))))
   obtain⟨b1,o1,rfl⟩:=h1 k hk
   obtain⟨b2,o2,rfl⟩:=h2 k (by omega)
   refine kQm aa aa (kQm aa aa (kQv (cg runUnderlying30 sizeOf25 aa aa (by omega) (by omega)) aa ?_))
   refine kQv (bP (v:=w64 xs[k]) isAgg25 r1 aa (by rw[Int.toNat_natCast,List.getElem?_map,List.getElem?_eq_getElem hk];rfl)) aa ?_
   refine kQm aa aa (kQm aa aa (kQv (cg runUnderlying30 sizeOf25 aa aa (by omega) (by omega)) aa ?_))
   refine kQv (bP (v:=w64 (ys[k]'(by omega))) isAgg25 r2 aa (by rw[Int.toNat_natCast,List.getElem?_map,List.getElem?_eq_getElem (by omega)];rfl)) aa ?_
   refine kQv (ao aa aa aa) aa (bY (am [24,13,12,4,0,1] rfl ?_))
   refine a8 aa (fun h24=> ?_) (fun h24=> ?_)
   ·have hkk:xs[k]? ≠ys[k]? :=by
     rw[List.getElem?_eq_getElem hk,List.getElem?_eq_getElem (by omega)]
     simpa using h24
    refine ac (ab (kPa aa aa (ad (az ?_))))
    exact aq results25 aa (fun w hw=>⟨by rw[decide_eq_false (fun e=>hkk (by rw[e]))],hw⟩)
   ·have hkk:xs[k]? =ys[k]? :=by
     rw[List.getElem?_eq_getElem hk,List.getElem?_eq_getElem (by omega)]
     simpa using h24
    refine ar (ab (kPv (aN aa aa) aa (kPm aa aa (ad ?_))))
    exact fun a w st=>⟨k+1,⟨by omega,fun j hj=>by
     rcases Nat.lt_succ_iff_lt_or_eq.1 hj with h | h
     ·exact hk2 j h
     ·subst h;exact hkk⟩,by omega,st.to ⟨rfl,rfl,rfl,rfl,rfl,trivial⟩ id⟩
  ·have hk:¬ k<xs.length:=by simp at h14;omega
   refine bF (ac (ab (kPa aa aa (ad (am [4] rfl (az ?_))))))
   exact aq results25 aa (fun w hw=>⟨by
   have e:xs=ys:=List.ext_getElem? fun j=>by
    by_cases hj:j<k
    ·exact hk2 j hj
    ·rw[List.getElem?_eq_none (by omega),List.getElem?_eq_none (by omega)]
   rw[decide_eq_true e],hw⟩)
theorem zx(B:World)(H:List HP)(l r s:Int)(c:Cfg)(hc:c=mkC l r s)(hl:0≤l)(hr:0≤r)(hs:0≤s):∀ w,Holds B H w→Calls Tryz.prog 73 [.agg #[u16 l,u16 r,u16 s]].toArray w (aZ B H (dY c)):=by subst hc;exact wB B H l r s hl hr hs
abbrev cS(b:Nat)(x:Value×List Int):HP:=dJ 25 w64 b x
theorem eh{a b:Int}{sv:Value}(h:aL sv=true):([i64 a,i64 b,sv]:List Value).all aL=true:=by
 simp only[List.all_cons,List.all_nil,h];rfl
theorem Eu{v f:Int}(h:decide (v≥f)=true)(h1:0≤f)(h2:v<18446744073709551616):IntKind.u64.wrap (v - f)=v - f:=by
 have h9:f≤v:=by simpa using h
 exact fQ (by omega)
abbrev ly(b:Blk)(sv:Value):Value:= .agg #[i64 b.act,i64 b.used,sv]
theorem ib(B:World)(H:List HP)(c:Cfg)(hc:bA c)(b:Blk)(sv:Value)(hb:gh c b)(hsv:aL sv=true)(i:Int)(hi: -1000000000000≤i∧i≤1000000000000):
 ∀ w,Holds B H w→Calls Tryz.prog 137 [ly b sv,dY c,i64 i].toArray w (aZ B H (i64 (b.place c i))):=by
 refine an func137 aa ntmps137 aa ?_
 have hb1:=hb.act
 have hb2:=hb.used
 have hfb:=iF hc (k:=b.act) (by omega)
 have hcs:=hc.s2
 refine ac (ab (kPb (aX aa) aa fun b3=>(kPb (aX aa) aa fun b4=>(kPa aa aa (ad (ac (ab (kPv (ag isAgg134 sizeOf134 aa aa) aa ?_))))))))
 refine kPl iq isAgg3 aa aa aa aa (aw aa (au call119 aa) (jG _ _ c hc b.act hb.act.1 (by have:=hb.act.2;omega)) .free aa aa ?_)
 refine kPm aa aa (kPv (aN aa aa) aa (kPa aa aa (ad (am [6] rfl (az ?_)))))
 exact aq results137 aa (fun w hh=>⟨rfl,hh.tail.tail⟩)
theorem rP(B:World)(H:List HP)(c:Cfg)(hc:bA c)(b:Blk)(sv:Value)(hb:gh c b)(hsv:aL sv=true)(v:Int)(hv:0≤v∧v<18446744073709551616):
 ∀ w,Holds B H w→Calls Tryz.prog 182 [ly b sv,dY c,w64 v].toArray w (aZ B H (.bool (b.has c v))):=by
 refine an func182 aa ntmps182 aa ?_
 have hb1:=hb.act
 have hb2:=hb.used
 have hfb:=iF hc (k:=b.act) (by omega)
 have hcs:=hc.s2
 refine ac (ab (kPb (aX aa) aa fun b3=>(kPb (aX aa) aa fun b4=>(kPa aa aa (ad (ac (ab (kPv (ag isAgg134 sizeOf134 aa aa) aa ?_))))))))
 refine kPl iq isAgg3 aa aa aa aa (aw aa (au call119 aa) (jG _ _ c hc b.act hb.act.1 (by have:=hb.act.2;omega)) .free aa aa ?_)
 refine kPv (bR runUnderlying3 runUnderlying25 aa) aa (kPa aa aa (ad (am [7,6,3,2] rfl (ac (ab (kPm aa aa (kPm aa aa (kPv (ao aa aa aa) aa (kPm aa aa ?_)))))))))
 apply dN (tp:=24) (t:=16) (σ1:=[(16,_),(6,_)]) 8 rfl ⟨rfl,rfl,trivial⟩
 ·intro hg1
  refine al aa (ak aa) (.on aa aa (ae hg1)) aa aa (al aa (ak aa) (.on aa aa (ae hg1)) aa aa (al aa (pq (c:=v - c.frm b.act) aa aa (Eu hg1 (by omega) (by omega))) (.on aa aa (ae hg1)) aa aa (al aa (aD (m:=_) dE aa aa) (.on aa aa (ae hg1)) aa aa (al aa (ah isAgg3 aa aa) (.on aa aa (ae hg1)) aa aa (al aa (bR runUnderlying3 runUnderlying25 aa) (.on aa aa (ae hg1)) aa aa (al aa (ao aa aa aa) (.on aa aa (ae hg1)) aa aa (kPv (ay aa hg1 aa) aa ?_)))))))
  exact aY aa ⟨rfl,rfl,trivial⟩ (cY hg1)
 ·intro hg1
  refine ap aa (.on aa aa (ai hg1)) aa (ap aa (.on aa aa (ai hg1)) aa (ap aa (.on aa aa (ai hg1)) aa (ap aa (.on aa aa (ai hg1)) aa (ap aa (.on aa aa (ai hg1)) aa (ap aa (.on aa aa (ai hg1)) aa (ap aa (.on aa aa (ai hg1)) aa (kPv (aJ aa hg1 aa) aa ?_)))))))
  exact aY aa ⟨rfl,rfl,trivial⟩ (cZ hg1)
 refine kPa aa aa (ad (az ?_))
 exact aq results182 aa (fun w hh=>⟨by rfl,hh.tail.tail⟩)
theorem yN{α:Type}{n:Nat}{f:Nat→α}:tab (n+1) f=tab n f++[f n]:=by simp[tab,List.range_succ]
theorem AZ{c:Cfg}(hc:bA c):24≤c.active∧c.active+2+c.roots≤c.words∧c.words≤20000:=by
 have h1:=iF hc (k:=0) (by decide)
 have h2:=hc.act
 have:=hc.r1
 have:=hc.l1
 omega
theorem fT(B:World)(Fr:List HP)(bd:Nat)(s:Dev)(c:Cfg)(hc:bA c)(hu:U64 s):
 ∀ w,Holds B (aB bd s::Fr) w→Calls Tryz.prog 117 [ptr bd,dY c].toArray w (Ret B (fun rv H'=>∃ sv,aL sv=true∧rv= .tuple #[ly (s.block c).1 sv,i64 (s.block c).2]∧H'=cS 0 (sv,(s.block c).1.rts)::aB bd s::Fr) (fun _ _=>False)):=by
 refine an func117 aa ntmps117 aa ?_
 obtain⟨hA1,hA2,hA3⟩:=AZ hc
 have hl1:=hu.load c.active
 have hl2:=hu.load (c.active+1)
 have hr1:=hc.r1
 have hr2:=hc.r2
 have hs2:=hc.s2
 have hs1:=hc.s1
 obtain⟨nr,hnr⟩:∃ nr:Nat,(nr:Int)=c.roots:=⟨c.roots.toNat,by omega⟩
 have hnr2:c.roots.toNat=nr:=by omega
 refine ac (ab (kPb (aX aa) aa fun b3=>(kPb (aC zeroValue151 aa) aa fun b4=>(kPa aa aa (ad (ac (cV Tryz.mixed (by kernel_rfl) (by kernel_rfl) ?_)))))))
 refine kQm aa aa (kQv (ag isAgg134 sizeOf134 aa aa) aa ?_)
 refine bG aa (au call142 aa) (fN _ _ c hc) .free aa ?_
 refine bG aa (au call173 aa) (bI (q:=aB) (fun Fr=>cq _ Fr _ _ _)) .free aa ?_
 refine kQm aa aa (kQv (ag isAgg134 sizeOf134 aa aa) aa ?_)
 refine bG aa (au call140 aa) (uw _ _ c hc) .free aa ?_
 refine bG aa (au call173 aa) (bI (q:=aB) (fun Fr=>cq _ Fr _ _ _)) .free aa ?_
 refine kQa aa aa (kQa aa aa (bY (am [7,6,5,4,3,0] rfl (ac (ac (ab (kPm aa aa (kPv (ao aa aa aa) aa (kPm aa aa ?_)))))))))
 apply gP (tp:=26) (t:=20) (σ1:=[(20,_),(7,_),(6,_),(5,_),(4,_),(3,_),(0,_)]) 6 rfl (aE rfl)
 ·intro hg1
  refine al aa (ak aa) (.on aa aa (ae hg1)) aa aa (al aa (aD (m:=_) fj aa aa) (.on aa aa (ae hg1)) aa aa (al aa (ah isAgg3 aa aa) (.on aa aa (ae hg1)) aa aa (al aa (bR runUnderlying3 runUnderlying25 aa) (.on aa aa (ae hg1)) aa aa (al aa (ao aa aa aa) (.on aa aa (ae hg1)) aa aa (kPv (aJ aa hg1 aa) aa ?_)))))
  exact aY aa (aE aa) (gg hg1)
 ·intro hg1
  refine ap aa (.on aa aa (ai hg1)) aa (ap aa (.on aa aa (ai hg1)) aa (ap aa (.on aa aa (ai hg1)) aa (ap aa (.on aa aa (ai hg1)) aa (ap aa (.on aa aa (ai hg1)) aa (kPv (ay aa hg1 aa) aa ?_)))))
  exact aY aa (aE aa) (ge hg1)
 refine ad ?_
 refine a8 aa (fun h26=> ?_) (fun h26=> ?_)
 ·have hbad:1<s.load c.active∨c.space<s.load (c.active+1):=by simpa using h26
  have hblk:s.block c=(⟨0,0,[]⟩,10):=by unfold Dev.block;rw[if_pos hbad]
  refine ac (ab (kPv (aQ aa (Cn)) aa ?_))
  refine kPs (ax (vs:=_) sizeOf151 aa aa aa (by first | rfl | exact eh (by assumption)) rfl) rfl ?_;refine kPa aa aa ?_;refine ad ?_;refine az ?_
  exact gj results117 (.cellA aa isAgg151 sizeOf151 aa aa) (.tmp aa) (fun w hh=>⟨_,⟨.slice none 0 0,rfl,by rw[hblk];rfl,rfl⟩,by rw[hblk];exact eQ hh.tail.tail⟩)
 ·have hgd:¬(1<s.load c.active∨c.space<s.load (c.active+1)):=by simpa using h26
  have hblk:s.block c=(⟨s.load c.active,s.load (c.active+1),tab nr fun i=>s.load (c.root i)⟩,0):=by unfold Dev.block;rw[if_neg hgd,hnr2]
  refine ar (ac (ab (kPm aa aa (kPv (bR runUnderlying25 runUnderlying3 aa) aa (kPm aa aa (kPv (bR runUnderlying25 runUnderlying3 aa) aa (kPv (aQ aa (ng _ _ aa aa)) aa (kPb (aC zeroValue151 aa) aa fun b8=> ?_))))))))
  refine kPs (ax (vs:=_) sizeOf151 aa aa aa (by first | rfl | exact eh (by assumption)) rfl) rfl ?_
  refine ad (am [8,5,4,3,0] rfl (ac (ac (ab (kPl fY isAgg3 aa aa aa aa (kPm aa aa (ad (aG (du (ι:=Nat×Value) (fun i=>i.1≤nr∧aL i.2=true) (fun i=>[(0,ptr bd),(3,ptr b3),(4,ptr b4),(5,i64 0),(8,ptr b8),(34,i64 c.roots),(35,i64 i.1)]) (fun i=>cS 0 (i.2,tab i.1 fun j=>s.load (c.root j))::row b8 [i64 (s.load c.active),i64 (s.load (c.active+1)),i.2] 151::row b4 [i64 0,i64 0,.slice none 0 0] 151::row b3 [i64 c.log,i64 c.roots,i64 c.space] 134::aB bd s::Fr) (fun i=>nr - i.1) (0,.slice none 0 0) ⟨Nat.zero_le _,rfl⟩ (fun a w st=>st.to ⟨rfl,rfl,rfl,rfl,rfl,rfl,rfl,trivial⟩ (fun hh=>eQ hh)) ?_)))))))))
  rintro⟨k,sv⟩ ⟨hk0,hsv⟩
  simp only at hk0 hsv ⊢
  refine ac (ab (kPv (ao aa aa aa) aa (ad (ac ?_))))
  refine a8 aa (fun h36=> ?_) (fun h36=> ?_)
  ·have hk:k<nr:=by simp at h36;omega
   refine ar (ac (aG (ac (ab (kPm aa aa (kPa aa aa (ad (cW [0,1,2,3,4,5,6,7,8,9,10] [5,6,7,8,10] [0,1,2] [5,6,7] [row b8 [i64 (s.load c.active),i64 (s.load (c.active+1)),sv] 151] Tryz.mixed (by kernel_rfl) ?_))))))))
   refine aj aa aa aa (aD (m:=_) fh aa aa) .free aa (aj aa aa aa (ah isAgg30 aa aa) .free aa (aj aa aa aa (ak aa) .free aa (aS aa aa aa (ag isAgg134 sizeOf134 aa aa) .free aa ?_)))
   refine aS aa aa aa (ak aa) .free aa (aT aa aa (aw aa (au call171 aa) (lN _ _ c hc _ (by omega) (by omega)) .free aa aa ?_))
   refine ad (cN (aT aa aa (aw aa (au call173 aa) (bI (q:=aB) (fun Fr=>cq _ Fr _ _ _)) .free aa aa ?_)))
   refine ad (cN (aT aa aa (kPb (f9 runUnderlying30 sizeOf25 zeroValue25 aa aa aa) aa fun b1=>(dt 1 aa ?_))))
   simp only[List.eraseIdx_cons_succ,List.eraseIdx_cons_zero]
   refine ad (cN (aT aa aa (cJ aa (eu aa aa runUnderlying30 runUnderlying30 ⟨_,rfl⟩ sizeOf25 zeroValue25 aa (fun _=>rfl) hO aa aa (by rw[aW];omega)) .free aa aa ?_)))
   rintro sv2 _ ⟨hsv2,rfl⟩
   refine ad (c7 aa (aS aa aa aa (aD (m:=_) fh aa aa) .free aa (aT aa aa (kPs (aO sizeOf30 aa aa hsv2 aa) aa (ad (c7 aa (cy (am [35,34,8,5,4,3,0] rfl (ab (kPv (aN aa aa) aa (kPm aa aa ?_)))))))))))
   refine ad ?_
   exact fun a w st=>⟨(k+1,sv2),⟨by simp only;omega,hsv2⟩,by simp only;omega,st.to ⟨rfl,rfl,rfl,rfl,rfl,rfl,rfl,trivial⟩ (fun hh=>by rw[←yN] at hh;exact hh)⟩
  ·have hk:¬ k<nr:=by simp at h36;omega
   obtain rfl:k=nr:=by omega
   refine bF (ac (ab (kPv (ag isAgg151 sizeOf151 aa aa) aa ?_)))
   refine kPs (ax (vs:=[i64 (s.load c.active),i64 (s.load (c.active+1)),sv]) sizeOf151 aa aa aa (eh hsv) aa) aa (kPa aa aa (ad (am [5,4] rfl (az ?_))))
   exact gj results117 (.cellA aa isAgg151 sizeOf151 aa aa) (.tmp aa) (fun w hh=>⟨_,⟨sv,hsv,by rw[hblk];rfl,rfl⟩,by rw[hblk];exact(((hh.front 3 aa).front 3 aa).front 3 aa).tail.tail.tail⟩)
abbrev gQ(o:db):Value:= .agg #[i64 o.1,i64 o.2.1,i64 o.2.2]
theorem D3{x:Int}(h:decide (x<0)=false):0≤x:=by simpa using h
theorem vH{w r:Int}(h:mh w r=0):0≤w∧w≤64∧0≤r∧r≤w:=by
 unfold mh at h
 split at h
 ·assumption
 ·cases h
theorem qd(v:Int):0≤(unp v).1∧(unp v).1≤64∧0≤(unp v).2.1∧(unp v).2.1≤(unp v).1:=by
 unfold unp
 split
 ·rename_i h;exact vH h.1
 ·exact⟨by decide,by decide,by decide,by decide⟩
theorem j2(B:World)(Fr:List HP)(bd:Nat)(s:Dev)(c:Cfg)(hc:bA c)(b:Blk)(sv:Value)(hb:gh c b)(hsv:aL sv=true)(at_:Int)(hat: -9223372036854775808≤at_∧at_≤9223372036854775807):
 ∀ w,Holds B (aB bd s::Fr) w→Calls Tryz.prog 147 [ptr bd,dY c,ly b sv,i64 at_].toArray w (aZ B (aB bd s::Fr) (.tuple #[gQ (s.objOf c b at_).1,i64 (s.objOf c b at_).2])):=by
 refine an func147 aa ntmps147 aa ?_
 have hb1:=hb.act
 have hb2:=hb.used
 have hcs:=hc.s2
 have hub:=qd (s.load at_)
 have hfb:=iF hc (k:=b.act) (by omega)
 refine ac (ab (kPb (aX aa) aa fun b5=>(kPb (aX aa) aa fun b6=>(kPb (aC zeroValue160 aa) aa fun b8=>(kPa aa aa (ad (ac (ac (ab (kPm aa aa (kPv (ao aa aa aa) aa ?_)))))))))))
 refine kPm aa aa ?_
 apply gP (tp:=21) (t:=14) (σ1:=[(14,_),(9,_),(8,_),(6,_),(5,_),(0,_),(3,_)]) 7 rfl (aE rfl)
 ·intro hg1
  refine al aa (ag isAgg151 sizeOf151 aa aa) (.on aa aa (ae hg1)) aa aa ?_
  refine al aa (ag isAgg134 sizeOf134 aa aa) (.on aa aa (ae hg1)) aa aa ?_
  refine al aa (ak aa) (.on aa aa (ae hg1)) aa aa (al aa (dh runUnderlying3 runUnderlying25 aa (fQ ⟨D3 hg1,by omega⟩)) (.on aa aa (ae hg1)) aa aa (aw aa (au call182 aa) (rP _ _ c hc b sv hb hsv _ ⟨D3 hg1,by omega⟩) (.on aa aa (ae hg1)) aa aa ?_))
  refine al aa (bz aa) (.on aa aa (ae hg1)) aa aa (kPv (aJ aa hg1 aa) aa ?_)
  exact aY aa (aE aa) (gg hg1)
 ·intro hg1
  refine ap aa (.on aa aa (ai hg1)) aa (ap aa (.on aa aa (ai hg1)) aa (ap aa (.on aa aa (ai hg1)) aa (ap aa (.on aa aa (ai hg1)) aa (ap aa (.on aa aa (ai hg1)) aa (ap aa (.on aa aa (ai hg1)) aa (kPv (ay aa hg1 aa) aa ?_))))))
  exact aY aa (aE aa) (ge hg1)
 refine ad ?_
 refine a8 aa (fun h21=> ?_) (fun h21=> ?_)
 ·have hbad:at_<0∨b.has c at_=false:=by simpa using h21
  have hres:s.objOf c b at_=((0,0,0),6):=by unfold Dev.objOf;rw[if_pos hbad]
  refine ac (ab (kPv (aQ aa (sA)) aa (kPs (ax (vs:=_) sizeOf160 aa aa aa aa aa) aa (kPa aa aa (ad (az ?_))))))
  exact gj results147 (.cellA aa isAgg160 sizeOf160 aa aa) (.tmp aa) (fun w hh=>⟨by rw[hres];rfl,hh.tail.tail.tail⟩)
 ·have hgd:¬(at_<0∨b.has c at_=false):=by simpa using h21
  have hat2:=kC hc hb (w:=at_) (by cases hh:b.has c at_ with
   | true=>rfl
   | false=>exact absurd (.inr hh) hgd)
  have hplace:b.place c b.used=c.frm b.act+b.used:=rfl
  refine ar (ac (ab (kPm aa aa (kPm aa aa (aw aa (au call173 aa) (bI (q:=aB) (fun Fr=>cq _ Fr _ _ _)) .free aa aa ?_)))))
  refine aw aa (au call190 aa) (iT _ _ _) .free aa aa ?_
  refine kPm aa aa (kPv (aA aa aa) aa (kPv (aA aa aa) aa (kPb (aC zeroValue102 aa) aa fun b10=>(kPs (ax (vs:=_) sizeOf102 aa aa aa aa aa) aa (kPa aa aa (ad (am [11,10,9,8,6,5,3] rfl (ac (ac (cV Tryz.mixed (by kernel_rfl) (by kernel_rfl) ?_))))))))))
  refine kQm aa aa (kQv (bz aa) aa (kQm aa aa ?_))
  apply C8 (tp:=43) (t:=32) (σ1:=[(32,_),(10,_),(9,_),(8,_),(3,_)]) 11 rfl (aE rfl)
  ·intro hg2
   refine bj aa (ag isAgg102 sizeOf102 aa aa) (.on aa aa (ae hg2)) aa ?_
   refine bG aa (au call139 aa) (eH _ _ _ _ (by omega)) (.on aa aa (ae hg2)) aa ?_
   refine bj aa (ag isAgg151 sizeOf151 aa aa) (.on aa aa (ae hg2)) aa ?_
   refine bj aa (ag isAgg134 sizeOf134 aa aa) (.on aa aa (ae hg2)) aa ?_
   refine bj aa (aD (m:=_) dE aa aa) (.on aa aa (ae hg2)) aa (bj aa (ah isAgg3 aa aa) (.on aa aa (ae hg2)) aa (bG aa (au call137 aa) (ib _ _ c hc b sv hb hsv _ (by omega)) (.on aa aa (ae hg2)) aa ?_))
   refine bj aa (ak aa) (.on aa aa (ae hg2)) aa (bj aa (fu aa aa) (.on aa aa (ae hg2)) aa (bj aa (ao aa aa aa) (.on aa aa (ae hg2)) aa (kQv (aJ aa hg2 aa) aa ?_)))
   exact eU aa (aE aa) (gg hg2)
  ·intro hg2
   refine aV aa (.on aa aa (ai hg2)) aa (aV aa (.on aa aa (ai hg2)) aa (aV aa (.on aa aa (ai hg2)) aa (aV aa (.on aa aa (ai hg2)) aa (aV aa (.on aa aa (ai hg2)) aa (aV aa (.on aa aa (ai hg2)) aa (aV aa (.on aa aa (ai hg2)) aa (aV aa (.on aa aa (ai hg2)) aa (aV aa (.on aa aa (ai hg2)) aa (aV aa (.on aa aa (ai hg2)) aa (kQv (ay aa hg2 aa) aa ?_))))))))))
   exact eU aa (aE aa) (ge hg2)
  refine bY ?_
  refine a8 aa (fun h43=> ?_) (fun h43=> ?_)
  ·have hbad:(unp (s.load at_)).2.2=false∨b.place c b.used - at_<(unp (s.load at_)).1+1:=by simpa using h43
   have hres:s.objOf c b at_=((0,0,0),8):=by unfold Dev.objOf;rw[if_neg hgd,if_pos hbad]
   refine ac (ab (kPv (aQ aa (sA)) aa (kPs (ax (vs:=_) sizeOf160 aa aa aa aa aa) aa (kPa aa aa (ad (az ?_))))))
   exact gj results147 (.cellA aa isAgg160 sizeOf160 aa aa) (.tmp aa) (fun w hh=>⟨by rw[hres];rfl,hh.tail.tail.tail.tail⟩)
  ·have hgd2:¬((unp (s.load at_)).2.2=false∨b.place c b.used - at_<(unp (s.load at_)).1+1):=by simpa using h43
   have hres:s.objOf c b at_=(((unp (s.load at_)).1,(unp (s.load at_)).2.1,at_),0):=by unfold Dev.objOf;rw[if_neg hgd,if_neg hgd2]
   refine ar (ac (ab (kPv (ag isAgg102 sizeOf102 aa aa) aa ?_)))
   refine kPm aa aa (kPv (aQ aa (uL _ _ _ aa)) aa (kPs (ax (vs:=_) sizeOf160 aa aa aa aa aa) aa (kPa aa aa (ad (am [9,8] rfl (az ?_))))))
   exact gj results147 (.cellA aa isAgg160 sizeOf160 aa aa) (.tmp aa) (fun w hh=>⟨by rw[hres];rfl,hh.tail.tail.tail.tail⟩)
structure lB(o:db):Prop where
 w:0≤o.1∧o.1≤64
 r:0≤o.2.1∧o.2.1≤o.1
 at_:0≤o.2.2∧o.2.2≤1000000
theorem pm(B:World)(H:List HP)(o:db)(ho:lB o)(i:Int)(ref:Bool):
 ∀ w,Holds B H w→Calls Tryz.prog 148 [gQ o,i64 i,.bool ref].toArray w (aZ B H (.tuple #[i64 (cm o i ref).1,i64 (cm o i ref).2])):=by
 refine an func148 aa ntmps148 aa ?_
 have h1:=ho.w
 have h2:=ho.r
 have h3:=ho.at_
 refine ac (ab (kPb (aX aa) aa fun b3=>(kPa aa aa (kPa aa aa (ad (ac (aG (ac (ab (kPm aa aa (kPv (ao aa aa aa) aa ?_)))))))))))
 refine kPm aa aa ?_
 apply gP (tp:=17) (t:=11) (σ1:=[(11,_),(7,_),(6,_),(3,_),(1,_),(2,_)]) 6 rfl (aE rfl)
 ·intro hg1
  refine al aa (ak aa) (.on aa aa (ae hg1)) aa aa (al aa (aD (m:=_) fc aa aa) (.on aa aa (ae hg1)) aa aa (al aa (aD (m:=_) iv aa aa) (.on aa aa (ae hg1)) aa aa (al aa (ah isAgg3 aa aa) (.on aa aa (ae hg1)) aa aa (al aa (ao aa aa aa) (.on aa aa (ae hg1)) aa aa (kPv (aJ aa hg1 aa) aa ?_)))))
  exact aY aa (aE aa) (gg hg1)
 ·intro hg1
  refine ap aa (.on aa aa (ai hg1)) aa (ap aa (.on aa aa (ai hg1)) aa (ap aa (.on aa aa (ai hg1)) aa (ap aa (.on aa aa (ai hg1)) aa (ap aa (.on aa aa (ai hg1)) aa (kPv (ay aa hg1 aa) aa ?_)))))
  exact aY aa (aE aa) (ge hg1)
 refine kPa aa aa (ad ?_)
 refine a8 aa (fun h8=> ?_) (fun h8=> ?_)
 ·have hbad:i<0∨o.1≤i:=by simpa using h8
  have hres:cm o i ref=(0,1):=by unfold cm;rw[if_pos hbad]
  refine ac (ab (kPa aa aa (kPa aa aa (ad (az ?_)))))
  exact ce results148 aa aa (fun w hh=>⟨by rw[hres],hh.tail⟩)
 ·have hgd:¬(i<0∨o.1≤i):=by simpa using h8
  refine ac (ab (kPm aa aa (kPv (aD (m:=_) fc aa aa) aa (kPl fZ isAgg3 aa aa aa aa (kPv (ao aa aa aa) aa (kPm aa aa (kPv (As runUnderlying4 aa aa aa) aa (kPa aa aa (ad (am [18,7,6,3,1] rfl ?_))))))))))
  refine a8 aa (fun h18=> ?_) (fun h18=> ?_)
  ·have hk:decide (i<o.2.1)≠ref:=by simpa using h18
   have hres:cm o i ref=(0,5):=by unfold cm;rw[if_neg hgd,if_pos hk]
   refine ac (ab (kPa aa aa (kPa aa aa (ad (az ?_)))))
   exact ce results148 aa aa (fun w hh=>⟨by rw[hres],hh.tail⟩)
  ·have hk:¬ decide (i<o.2.1)≠ref:=by simpa using h18
   have hres:cm o i ref=(o.2.2+1+i,0):=by unfold cm;rw[if_neg hgd,if_neg hk]
   refine ar (ac (ab (kPl kq isAgg3 aa aa aa aa (kPv (aN aa aa) aa (kPm aa aa (kPv (aN aa aa) aa (kPa aa aa (kPa aa aa (ad (am [7,6] rfl (az ?_)))))))))))
   exact ce results148 aa aa (fun w hh=>⟨by rw[hres],hh.tail⟩)
theorem tC(B:World)(Fr:List HP)(bd:Nat)(s:Dev)(o:db)(ho:lB o)(i:Int):
 ∀ w,Holds B (aB bd s::Fr) w→Calls Tryz.prog 237 [gQ o,ptr bd,i64 i].toArray w (aZ B (aB bd s::Fr) (.tuple #[w64 (s.objRead o i).1,i64 (s.objRead o i).2])):=by
 refine an func237 aa ntmps237 aa (ac (ab (kPb (aX aa) aa fun b3=>(kPa aa aa (kPa aa aa (ad (ac (ab (kPv (ag isAgg160 sizeOf160 aa aa) aa ?_)))))))))
 refine kPm aa aa (aw aa (au call148 aa) (pm _ _ o ho i _) .free aa aa ?_)
 refine kPm aa aa (kPv (aA aa aa) aa (kPv (aA aa aa) aa (kPa aa aa (kPa aa aa (ad (am [9,8,7,6,1] rfl (ac (ac (ab (kPm aa aa (kPv (ao aa aa aa) aa ?_)))))))))))
 refine ad ?_
 refine a8 aa (fun h17=> ?_) (fun h17=> ?_)
 ·have hk:(cm o i false).2≠0:=by simpa using h17
  have hres:s.objRead o i=(0,(cm o i false).2):=by unfold Dev.objRead;rw[if_pos hk]
  refine ac (ab (kPm aa aa (kPa aa aa (kPa aa aa (ad (az ?_))))))
  exact ce results237 aa aa (fun w hh=>⟨by rw[hres]<;>rfl,hh.tail⟩)
 ·have hk:¬ (cm o i false).2≠0:=by simpa using h17
  have hres:s.objRead o i=(s.load (cm o i false).1,0):=by unfold Dev.objRead;rw[if_neg hk]
  refine ar (ac (ab (kPm aa aa (kPm aa aa (aw aa (au call173 aa) (bI (q:=aB) (fun Fr=>cq _ Fr _ _ _)) .free aa aa ?_)))))
  refine kPa aa aa (kPa aa aa (ad (am [7,6] rfl (az ?_))))
  exact ce results237 aa aa (fun w hh=>⟨by rw[hres]<;>rfl,hh.tail⟩)
structure mN(B:World)(f:FuncId)(fi:List Value)(bd be:Nat)(ε:Type)(ExA:Nat→ε→HP)(op:Int→Int→Dev→ε→Out (Int×ε))(ok:Dev→ε→Prop):Prop where
 enter:∀ args w,(callFunc f args).run Tryz.prog w= .ok (.enter f args) w
 u64:∀ s e,ok s e→U64 s
 says:∀ (Fr:List HP) (i v:Int) (s:Dev) (e:ε),ok s e→∀ w,Holds B (aB bd s::ExA be e::Fr) w→Calls Tryz.prog f (fi++[i64 i,w64 v]++[]).toArray w (Ret B (fun rv H'=>∃ a e' s',op i v s e= .ok (a,e') s'∧rv=i64 a∧H'=aB bd s'::ExA be e'::Fr) (fun c H'=>∃ s',op i v s e= .off s'∧c=dV∧H'=aB bd s'::Fr))
 keeps:∀ i v s e a e' s',ok s e→0≤v∧v<18446744073709551616→op i v s e= .ok (a,e') s'→ok s' e'
section
variable {ε:Type}
def fa(op:Int→Int→Dev→ε→Out (Int×ε))(at_ h0:Int):Nat→Int→Dev→ε→Out ((Int×Int)×ε)
 | 0,_,s,e=> .ok ((at_,0),e) s
 | f+1,i,s,e=>(op (at_+i) (if i=0 then h0 else 0) s e).then fun x s=>if x.1≠0 then .ok ((0,x.1),x.2) s else fa op at_ h0 f (i+1) s x.2
def cO(op:Int→Int→Dev→ε→Out (Int×ε))(c:Cfg)(w r:Int)(s:Dev)(e:ε):Out ((Int×Int)×ε):=
 if mh w r≠0 then .ok ((0,mh w r),e) s
 else if (s.block c).2≠0 then .ok ((0,(s.block c).2),e) s
 else if c.space - (s.block c).1.used<w+1 then .ok ((0,4),e) s
 else (op (c.active+1) ((s.block c).1.used+(w+1)) s e).then fun x s'=>if x.1≠0 then .ok ((0,x.1),x.2) s' else fa op ((s.block c).1.place c (s.block c).1.used) (eC w r) (w+1).toNat 0 s' x.2
def iL(op:Int→Int→Dev→ε→Out (Int×ε))(o:db)(i:Int)(ref:Bool)(v:Int)(s:Dev)(e:ε):Out (Int×ε):=
 if (cm o i ref).2≠0 then .ok ((cm o i ref).2,e) s else op (cm o i ref).1 v s e
def gM(op:Int→Int→Dev→ε→Out (Int×ε)):List Int→Int→Dev→ε→Out (Int×ε)
 | [],_,s,e=> .ok (0,e) s
 | v::vs,i,s,e=>if s.load i=v then gM op vs (i+1) s e else (op i v s e).then fun x s=>if x.1≠0 then .ok x s else gM op vs (i+1) s x.2
def lh(op:Int→Int→Dev→ε→Out (Int×ε))(c:Cfg)(b:Blk)(s:Dev)(e:ε):Out (Int×ε):=gM op (b.act::b.used::b.rts) c.active s e
end
theorem rE(w r:Int):0≤eC w r∧eC w r<18446744073709551616:=by
 unfold eC p6
 simp only[IntKind.wrap,IntKind.bits,IntKind.signed]
 simp;omega
theorem uN(B:World)(Fr:List HP)(f:FuncId)(fi:List Value)(bd be:Nat)(ε:Type)(ExA:Nat→ε→HP)(op:Int→Int→Dev→ε→Out (Int×ε))(ok:Dev→ε→Prop)(hS:mN B f fi bd be ε ExA op ok)(c:Cfg)(hc:bA c)(w r:Int)(s:Dev)(e:ε)(hok:ok s e):
 ∀ w_,Holds B (aB bd s::ExA be e::Fr) w_→Calls Tryz.prog 85 [ptr bd,dY c,.agg #[i64 w,i64 r],.func (.func f) fi.toArray #[]].toArray w_ (Ret B (fun rv H'=>∃ x e' s',cO op c w r s e= .ok (x,e') s'∧rv= .tuple #[i64 x.1,i64 x.2]∧ok s' e'∧H'=aB bd s'::ExA be e'::Fr) (fun ch H'=>∃ s',cO op c w r s e= .off s'∧ch=dV∧H'=aB bd s'::Fr)):=by
 refine an func85 aa ntmps85 aa ?_
 have hb:=dG (s:=s) hc (hS.u64 _ _ hok)
 have hb1:=hb.act
 have hb2:=hb.used
 have hcs:=hc.s2
 have hfb:=iF hc (k:=(s.block c).1.act) (by omega)
 have hplace:(s.block c).1.place c (s.block c).1.used=c.frm (s.block c).1.act+(s.block c).1.used:=rfl
 refine ac (ab (kPb (aX aa) aa fun b5=>(kPb (aX aa) aa fun b6=>(kPa aa aa (kPa aa aa (ad (ac (ac (ab (kPv (ag isAgg102 sizeOf102 aa aa) aa ?_))))))))))
 refine aw aa (au call138 aa) (qK _ _ _ _) .free aa aa ?_
 refine kPa aa aa (ad (ac (ab (kPm aa aa (kPv (ao aa aa aa) aa (ad ?_))))))
 refine a8 aa (fun h21=> ?_) (fun h21=> ?_)
 ·have hk1:mh w r≠0:=by simpa using h21
  refine ac (ab (kPm aa aa (kPa aa aa (kPa aa aa (ad (am [9,8,6,5,0,3] rfl (az ?_)))))))
  exact ce results85 aa aa (fun w_ hh=>⟨_,⟨_,e,s,by unfold cO;rw[if_pos hk1],rfl,hok,rfl⟩,hh.tail.tail⟩)
 ·have hk1:¬ mh w r≠0:=by simpa using h21
  have hwb:=vH (w:=w) (r:=r) (by omega)
  refine ar (ac (ab (kPm aa aa (kPv (ag isAgg134 sizeOf134 aa aa) aa ?_))))
  refine dx aB bd (aH aa (au call117 aa) (fT _ _ _ _ c hc (hS.u64 _ _ hok)) .free aa aa ?_)
  rintro _ _ ⟨sv,hsv,rfl,rfl⟩
  refine kPm aa aa (kPv (aA aa aa) aa (kPv (aA aa aa) aa (kPb (aC zeroValue151 aa) aa fun b11=>(kPs (ax (vs:=[i64 (s.block c).1.act,i64 (s.block c).1.used,sv]) sizeOf151 aa aa aa (eh hsv) aa) aa (kPa aa aa (ad (am [12,11,9,8,6,5,3] rfl (ac (ac (ab (kPm aa aa ?_)))))))))))
  refine kPv (ao aa aa aa) aa (ad ?_)
  refine a8 aa (fun h30=> ?_) (fun h30=> ?_)
  ·have hk2:(s.block c).2≠0:=by simpa using h30
   refine ac (ab (kPm aa aa (kPa aa aa (kPa aa aa (ad (az ?_))))))
   exact ce results85 aa aa (fun w_ hh=>⟨_,⟨_,e,s,by unfold cO;rw[if_neg hk1,if_pos hk2],rfl,hok,rfl⟩,((((((hh.front 0 aa).tail.front 0 aa).tail.front 1 aa).tail.front 1 aa).tail.front 1 aa).front 1 aa)⟩)
  ·have hk2:¬ (s.block c).2≠0:=by simpa using h30
   refine ar (ac (ac (cV Tryz.mixed (by kernel_rfl) (by kernel_rfl) ?_)))
   refine kQv (ag isAgg102 sizeOf102 aa aa) aa ?_
   refine bG aa (au call139 aa) (eH _ _ _ _ (by omega)) .free aa ?_
   refine kQv (aD (m:=_) fj aa aa) aa (kQv (ah isAgg3 aa aa) aa (kQv (aD (m:=_) dE aa aa) aa (kQv (ah isAgg3 aa aa) aa (kQv (fu aa aa) aa (kQv (ao aa aa aa) aa (bY (am [39,11,9,8,6,5,3] rfl ?_)))))))
   refine a8 aa (fun h39=> ?_) (fun h39=> ?_)
   ·have hk3:c.space - (s.block c).1.used<w+1:=by simpa using h39
    refine ac (ab (kPa aa aa (kPa aa aa (ad (az ?_)))))
    exact ce results85 aa aa (fun w_ hh=>⟨_,⟨_,e,s,by unfold cO;rw[if_neg hk1,if_neg hk2,if_pos hk3],rfl,hok,rfl⟩,((((((hh.front 0 aa).tail.front 0 aa).tail.front 1 aa).tail.front 1 aa).tail.front 1 aa).front 1 aa)⟩)
   ·have hk3:¬ c.space - (s.block c).1.used<w+1:=by simpa using h39
    refine ar (ac (ab (kPv (ag isAgg151 sizeOf151 aa aa) aa ?_)))
    refine kPv (ag isAgg134 sizeOf134 aa aa) aa ?_
    refine kPl dE isAgg3 aa aa aa aa (aw aa (au call137 aa) (ib _ _ c hc _ sv hb hsv _ (by omega)) .free aa aa ?_)
    refine kPa aa aa (ad (ac (ac (cQ 9 Tryz.mixed (by kernel_rfl) (by kernel_rfl) ?_))))
    refine kQm aa aa (kQv (ag isAgg134 sizeOf134 aa aa) aa ?_)
    refine bG aa (au call140 aa) (uw _ _ c hc) .free aa ?_
    refine kQv (aD (m:=_) dE aa aa) aa (kQv (ah isAgg3 aa aa) aa (kQv (ag isAgg102 sizeOf102 aa aa) aa ?_))
    refine bG aa (au call139 aa) (eH _ _ _ _ (by omega)) .free aa ?_
    refine kQv (aN aa aa) aa (kQv (dh runUnderlying3 runUnderlying25 aa (fQ (by omega))) aa (bY (dx ExA be (dx aB bd ?_))))
    refine aU aa (iO hS.enter aa aa) (hS.says _ _ _ _ _ hok) .free aa aa ?_ ?_
    rotate_left
    ·rintro _ _ ⟨s9,hm9,rfl,rfl⟩
     exact bi fun w hh=>⟨_,⟨s9,by unfold cO;rw[if_neg hk1,if_neg hk2,if_neg hk3];rw[hm9];rfl,rfl,rfl⟩,((((hh.front 4 aa).front 4 aa).front 4 aa).front 4 aa).tail.tail.tail.tail⟩
    rintro _ _ ⟨a1,e1,s1,hm1,rfl,rfl⟩
    have hok1:=hS.keeps _ _ _ _ _ _ _ hok ⟨by omega,by omega⟩ hm1
    refine kPa aa aa (ad (am [14,13,9,8,6,3] rfl (ac (ab (kPm aa aa (kPv (ao aa aa aa) aa (ad ?_)))))))
    refine a8 aa (fun h56=> ?_) (fun h56=> ?_)
    ·have hk4:a1≠0:=by simpa using h56
     refine ac (ab (kPm aa aa (kPa aa aa (kPa aa aa (ad (az ?_))))))
     exact ce results85 aa aa (fun w_ hh=>⟨_,⟨_,e1,s1,by unfold cO;rw[if_neg hk1,if_neg hk2,if_neg hk3];rw[hm1,aR,if_pos hk4],rfl,hok1,rfl⟩,((((((hh.front 2 aa).tail.front 2 aa).tail.front 2 aa).tail.front 2 aa).tail.front 1 aa).front 1 aa)⟩)
    ·have hk4:¬ a1≠0:=by simpa using h56
     have hmid:cO op c w r s e=fa op ((s.block c).1.place c (s.block c).1.used) (eC w r) (w+1).toNat 0 s1 e1:=by
      unfold cO;rw[if_neg hk1,if_neg hk2,if_neg hk3,hm1,aR,if_neg hk4]
     refine ar (ac (ac (ab (kPv (ag isAgg102 sizeOf102 aa aa) aa ?_))))
     refine aw aa (au call139 aa) (eH _ _ _ _ (by omega)) .free aa aa ?_
     refine kPm aa aa (ad (aG (du (ι:=Nat×Dev×ε) (fun i=>(i.1:Int)≤w+1∧ok i.2.1 i.2.2∧fa op ((s.block c).1.place c (s.block c).1.used) (eC w r) (w+1).toNat 0 s1 e1=fa op ((s.block c).1.place c (s.block c).1.used) (eC w r) ((w+1).toNat - i.1) i.1 i.2.1 i.2.2) (fun i=>[(3,.func (.func f) fi.toArray #[]),(6,ptr b6),(8,i64 0),(9,i64 0),(13,i64 ((s.block c).1.place c (s.block c).1.used)),(59,i64 (w+1)),(60,i64 i.1)]) (fun i=>aB bd i.2.1::ExA be i.2.2::row b11 [i64 (s.block c).1.act,i64 (s.block c).1.used,sv] 151::cS 0 (sv,(s.block c).1.rts)::row b6 [i64 w,i64 r] 102::row b5 [i64 c.log,i64 c.roots,i64 c.space] 134::Fr) (fun i=>(w+1).toNat - i.1) (0,s1,e1) ⟨by simp only;omega,hok1,rfl⟩ (fun a w st=>st.to ⟨rfl,rfl,rfl,rfl,rfl,rfl,rfl,trivial⟩ id) ?_)))
     rintro⟨k,sL,eL⟩ ⟨hkw,hok2,hinv⟩
     simp only at hkw hok2 hinv ⊢
     refine ac (ab (kPv (ao aa aa aa) aa (ad (ac ?_))))
     refine a8 aa (fun h61=> ?_) (fun h61=> ?_)
     ·have hk:(k:Int)<w+1:=by simpa using h61
      refine ar (ac (aG (ac (ab (kPm aa aa (kPa aa aa (ad (ac (ab (kPa aa aa (ad ?_)))))))))))
      refine ac (ac (ab (kPm aa aa (kPv (ao aa aa aa) aa (ad (am [64,16,15,60,59,13,9,8,6,3] rfl ?_))))))
      refine a8 aa (fun h64=> ?_) (fun h64=> ?_)
      ·have hk0':k=0:=by simp at h64;omega
       have hst:fa op ((s.block c).1.place c (s.block c).1.used) (eC w r) ((w+1).toNat - k) k sL eL=(op (((s.block c).1.place c (s.block c).1.used)+k) (eC w r) sL eL).then fun x sz=>if x.1≠0 then .ok ((0,x.1),x.2) sz else fa op ((s.block c).1.place c (s.block c).1.used) (eC w r) ((w+1).toNat - (k+1)) ((k:Int)+1) sz x.2:=by
        rw[show(w+1).toNat - k=((w+1).toNat - (k+1))+1 by omega]
        simp only[fa]
        rw[if_pos (by omega)]
       have hVb:=rE w r
       refine ab (kPv (ag isAgg102 sizeOf102 aa aa) aa ?_)
       refine aw aa (au call141 aa) (oZ _ _ _ _) .free aa aa ?_
       refine kPa aa aa (ad (ac (ab (kPm aa aa (kPm aa aa (kPm aa aa (kPv (aN aa aa) aa (kPm aa aa (dx ExA be (dx aB bd ?_))))))))))
       refine aU aa (iO hS.enter aa aa) (hS.says _ _ _ _ _ hok2) .free aa aa ?_ ?_
       rotate_left
       ·rintro _ _ ⟨s9,hm9,rfl,rfl⟩
        exact bi fun w hh=>⟨_,⟨s9,by rw[hmid,hinv,hst,hm9];rfl,rfl,rfl⟩,((((hh.front 4 aa).front 4 aa).front 4 aa).front 4 aa).tail.tail.tail.tail⟩
       rintro _ _ ⟨a2,e2,s2,hm2,rfl,rfl⟩
       have hok3:=hS.keeps _ _ _ _ _ _ _ hok2 hVb hm2
       refine kPa aa aa (ad (am [17,60,59,13,9,8,6,3] rfl (ac (ab (kPm aa aa (kPv (ao aa aa aa) aa (ad ?_)))))))
       refine a8 aa (fun h74=> ?_) (fun h74=> ?_)
       ·have hk5:a2≠0:=by simpa using h74
        refine ac (ab (kPm aa aa (kPa aa aa (kPa aa aa (ad (az ?_))))))
        exact ce results85 aa aa (fun w_ hh=>⟨_,⟨_,e2,s2,by rw[hmid,hinv,hst,hm2,aR,if_pos hk5],rfl,hok3,rfl⟩,((((((hh.front 2 aa).tail.front 2 aa).tail.front 2 aa).tail.front 2 aa).tail.front 1 aa).front 1 aa)⟩)
       ·have hk5:¬ a2≠0:=by simpa using h74
        refine ar (ab (kPv (aN aa aa) aa (kPm aa aa (ad ?_))))
        exact fun a w_ st=>⟨(k+1,s2,e2),⟨by simp only;omega,hok3,by rw[hinv,hst,hm2,aR,if_neg hk5];push_cast;rfl⟩,by simp only;omega,st.to ⟨rfl,rfl,rfl,rfl,rfl,rfl,rfl,trivial⟩ id⟩
      ·have hk0':k≠0:=by simp at h64;omega
       have hst:fa op ((s.block c).1.place c (s.block c).1.used) (eC w r) ((w+1).toNat - k) k sL eL=(op (((s.block c).1.place c (s.block c).1.used)+k) 0 sL eL).then fun x sz=>if x.1≠0 then .ok ((0,x.1),x.2) sz else fa op ((s.block c).1.place c (s.block c).1.used) (eC w r) ((w+1).toNat - (k+1)) ((k:Int)+1) sz x.2:=by
        rw[show(w+1).toNat - k=((w+1).toNat - (k+1))+1 by omega]
        simp only[fa]
        rw[if_neg (by omega)]
       have hVb:(0:Int)≤0∧(0:Int)<18446744073709551616:=by decide
       refine ar (ac (ab (kPm aa aa (kPm aa aa (kPm aa aa (kPv (aN aa aa) aa (kPm aa aa (dx ExA be (dx aB bd ?_)))))))))
       refine aU aa (iO hS.enter aa aa) (hS.says _ _ _ _ _ hok2) .free aa aa ?_ ?_
       rotate_left
       ·rintro _ _ ⟨s9,hm9,rfl,rfl⟩
        exact bi fun w hh=>⟨_,⟨s9,by rw[hmid,hinv,hst,hm9];rfl,rfl,rfl⟩,((((hh.front 4 aa).front 4 aa).front 4 aa).front 4 aa).tail.tail.tail.tail⟩
       rintro _ _ ⟨a2,e2,s2,hm2,rfl,rfl⟩
       have hok3:=hS.keeps _ _ _ _ _ _ _ hok2 hVb hm2
       refine kPa aa aa (ad (am [17,60,59,13,9,8,6,3] rfl (ac (ab (kPm aa aa (kPv (ao aa aa aa) aa (ad ?_)))))))
       refine a8 aa (fun h74=> ?_) (fun h74=> ?_)
       ·have hk5:a2≠0:=by simpa using h74
        refine ac (ab (kPm aa aa (kPa aa aa (kPa aa aa (ad (az ?_))))))
        exact ce results85 aa aa (fun w_ hh=>⟨_,⟨_,e2,s2,by rw[hmid,hinv,hst,hm2,aR,if_pos hk5],rfl,hok3,rfl⟩,((((((hh.front 2 aa).tail.front 2 aa).tail.front 2 aa).tail.front 2 aa).tail.front 1 aa).front 1 aa)⟩)
       ·have hk5:¬ a2≠0:=by simpa using h74
        refine ar (ab (kPv (aN aa aa) aa (kPm aa aa (ad ?_))))
        exact fun a w_ st=>⟨(k+1,s2,e2),⟨by simp only;omega,hok3,by rw[hinv,hst,hm2,aR,if_neg hk5];push_cast;rfl⟩,by simp only;omega,st.to ⟨rfl,rfl,rfl,rfl,rfl,rfl,rfl,trivial⟩ id⟩
     ·have hk:¬ (k:Int)<w+1:=by simpa using h61
      refine bF (ac (ab (kPm aa aa (kPa aa aa (kPa aa aa (ad (am [9,8] rfl (az ?_))))))))
      exact ce results85 aa aa (fun w_ hh=>⟨_,⟨(((s.block c).1.place c (s.block c).1.used),0),eL,sL,by rw[hmid,hinv,show(w+1).toNat - k=0 by omega];rfl,rfl,hok2,rfl⟩,((((((hh.front 2 aa).tail.front 2 aa).tail.front 2 aa).tail.front 2 aa).tail.front 1 aa).front 1 aa)⟩)
end Go.Proofs.YtoakdoeajpjgkaaGreatDoor
