/- Part of a law's texts. Conditions: none. -/
import Derived.Test.YtoakdoeajpjgkaaGreatDoorQL18Me
import Derived.Sort.Grow
import Derived.Shelf.SortM.Plain
import Derived.Shelf.SortM.SortNone
open Go.Proofs.Tryz
set_option linter.all false
namespace Go.Proofs.YtoakdoeajpjgkaaGreatDoor
open Go
theorem zF(x:Int):pi .and .u64 x 4294967295=x%4294967296:=by
 have h1:(BitVec.ofInt 64 x&&& BitVec.ofInt 64 4294967295).toNat=(x%18446744073709551616).toNat%4294967296:=by
  rw[BitVec.toNat_and,BitVec.toNat_ofInt,BitVec.toNat_ofInt]
  have:((4294967295:Int)%((2 ^ 64:Nat):Int)).toNat=2 ^ 32 - 1:=by decide
  rw[this,Nat.and_two_pow_sub_one_eq_mod]
  rfl
 show IntKind.u64.wrap ((BitVec.ofInt 64 x&&& BitVec.ofInt 64 4294967295).toNat:Int)=_
 rw[h1,fD (by omega)];omega
theorem C1{e i:Int}(h:0≤e∧e<4294967296)(h2:0≤i∧i<4294967296):pi .or .u64 (e*4294967296) i=e*4294967296+i:=by
 have h1:(BitVec.ofInt 64 (e*4294967296)||| BitVec.ofInt 64 i).toNat=e.toNat*4294967296+i.toNat:=by
  rw[BitVec.toNat_or,BitVec.toNat_ofInt,BitVec.toNat_ofInt]
  have e1:((e*4294967296)%((2 ^ 64:Nat):Int)).toNat=e.toNat<<<32:=by rw[Nat.shiftLeft_eq];omega
  have e2:(i%((2 ^ 64:Nat):Int)).toNat=i.toNat:=by omega
  rw[e1,e2, ←Nat.shiftLeft_add_eq_or_of_lt (by omega),Nat.shiftLeft_eq]
 show IntKind.u64.wrap ((BitVec.ofInt 64 (e*4294967296)||| BitVec.ofInt 64 i).toNat:Int)=_
 rw[h1,fD (by omega)];omega
theorem Cv{e:Int}(h:0≤e∧e<4294967296):IntKind.u64.wrap (e*2 ^ min (32:Int).toNat IntKind.u64.bits)=e*4294967296:=by
 have:min (32:Int).toNat IntKind.u64.bits=32:=by decide
 rw[this,show(2:Int) ^ 32=4294967296 by decide,fD (by omega)]
def ga(e i:Int):Int:=e*4294967296+(i+1)
structure bJ where
 d:Nat
 c:Cfg
 epoch:Int
 n:Int
structure dD(L:bJ):Prop where
 c:bj L.c
 e1:0≤L.epoch
 e2:L.epoch<4294967296
 n1:0≤L.n
 n2:L.n≤L.c.log
abbrev cO(b:Nat)(L:bJ):HP:=row b [ptr L.d,i64 L.c.log,i64 L.c.roots,i64 L.c.space,w64 L.epoch,i64 L.n] 228
def Out.then{α β:Type}(m:Out α)(f:α→Dev→Out β):Out β:=match m with
 | .ok a s=>f a s
 | .off s=> .off s
@[simp] theorem aQ {α β:Type} (a:α) (s:Dev) (f:α→Dev→Out β):(Out.ok a s).then f=f a s:=rfl
@[simp] theorem Cr {α β:Type} (s:Dev) (f:α→Dev→Out β):(Out.off s:Out α).then f= .off s:=rfl
def bJ.append(L:bJ)(s:Dev)(i:Int):Out (Int×bJ):=
 if i<0∨s.n≤i then .ok (1,L) s
 else if L.n=L.c.log then .ok (3,L) s
 else
  (s.store (L.c.record L.n+1) i).then fun _ s=>(s.store (L.c.record L.n+2) (s.load i)).then fun _ s=>
  (s.flush (L.c.record L.n)).then fun _ s=>s.fence.then fun _ s=>
  (s.store (L.c.record L.n) (ga L.epoch L.n)).then fun _ s=>(s.flush (L.c.record L.n)).then fun _ s=>s.fence.then fun _ s=> .ok (0,{L with n:=L.n+1}) s
def bJ.truncate(L:bJ)(s:Dev):Out bJ:=
 if L.n=0 then .ok L s else
  (s.store 8 ((L.epoch+1)%4294967296)).then fun _ s=>(s.flush 8).then fun _ s=>s.fence.then fun _ s=> .ok {L with epoch:=(L.epoch+1)%4294967296,n:=0} s
theorem ru(B:World)(H:List HP)(e i:Int)(he:0≤e∧e<4294967296)(hi:0≤i∧i<1000000):
 ∀ w,Holds B H w→Calls Tryz.prog 177 [w64 e,i64 i].toArray w (aZ B H (w64 (ga e i))):=by
 refine ap func177 aa ntmps177 aa (ac (ab (kPa aa aa (ad (ac (ab (kPm aa aa (kPv (uo aa aa (by decide) (Cv he)) aa (kPm aa aa (kPv (aN aa aa) aa (kPv (bK runUnderlying3 runUnderlying25 aa) aa ?_)))))))))))
 refine kPv (zb aa aa (C1 he (by omega))) aa (kPa aa aa (ad (ao [4] rfl (aB ?_))))
 exact aw results177 aa (fun w hw=>⟨rfl,hw⟩)
theorem vk(B:World)(Fr:List HP)(bl:Nat)(L:bJ):
 ∀ w,Holds B (cO bl L::Fr) w→Calls Tryz.prog 93 [ptr bl].toArray w (aZ B (cO bl L::Fr) (i64 L.n)):=by
 refine ap func93 aa ntmps93 aa (ac (ab (kPa aa aa (ad (ac (ab (kPf cW isAgg3 aa aa aa aa (kPa aa aa (ad (aB ?_))))))))))
 exact aw results93 aa (fun w hw=>⟨rfl,hw⟩)
theorem wR(B:World)(Fr:List HP)(bl:Nat)(L:bJ):
 ∀ w,Holds B (cO bl L::Fr) w→Calls Tryz.prog 243 [ptr bl].toArray w (aZ B (cO bl L::Fr) (w64 L.epoch)):=by
 refine ap func243 aa ntmps243 aa (ac (ab (kPa aa aa (ad (ac (ab (kPf iL isAgg25 aa aa aa aa (kPa aa aa (ad (aB ?_))))))))))
 exact aw results243 aa (fun w hw=>⟨rfl,hw⟩)
theorem kl(B:World)(Fr:List HP)(bl:Nat)(L:bJ)(s:Dev)(hL:dD L):
 ∀ w,Holds B (cO bl L::az L.d s::Fr) w→Calls Tryz.prog 153 [ptr bl].toArray w (Ret B (fun rv H'=>∃ L' s',L.truncate s= .ok L' s'∧rv= .tuple #[]∧H'=cO bl L'::az L.d s'::Fr) (fun c H'=>∃ s',L.truncate s= .off s'∧c=dN∧H'=cO bl L::az L.d s'::Fr)):=by
 refine ap func153 aa ntmps153 aa ?_
 have hc:=hL.c
 have hc1:=hc.r1
 have hc2:=hc.r2
 have hc3:=hc.l1
 have hc4:=hc.l2
 have hl1:=hL.e1
 have hl2:=hL.e2
 have hl3:=hL.n1
 have hl4:=hL.n2
 have hrc:16≤L.c.record L.n∧L.c.record L.n≤10000:=by simp only[Cfg.record];omega
 refine kE L.d fun hn1 hn2 hn3=>(ac (ac (ab (kPf cW isAgg3 aa aa aa aa (kPv (am aa aa aa) aa (ad ?_))))))
 refine ba aa (fun h6=> ?_) (fun h6=> ?_)
 ·try simp only[decide_eq_true_eq,decide_eq_false_iff_not,Bool.not_eq_true',Bool.not_eq_false',Bool.or_eq_true,Bool.and_eq_true,Bool.and_eq_false_iff,Bool.or_eq_false_iff,beq_iff_eq,bne_iff_ne,beq_eq_false_iff_ne,bne_eq_false_iff_eq,ge_iff_le,gt_iff_lt,ne_eq] at h6
  refine aB ?_
  exact iG results153 (fun w hh=>⟨_,⟨L,s,by simp[bJ.truncate, *],rfl,rfl⟩,hh⟩)
 ·try simp only[decide_eq_true_eq,decide_eq_false_iff_not,Bool.not_eq_true',Bool.not_eq_false',Bool.or_eq_true,Bool.and_eq_true,Bool.and_eq_false_iff,Bool.or_eq_false_iff,beq_iff_eq,bne_iff_ne,beq_eq_false_iff_ne,bne_eq_false_iff_eq,ge_iff_le,gt_iff_lt,ne_eq] at h6
  refine aq (ac (cQ 10 Tryz.mixed (by kernel_rfl) (by kernel_rfl) ?_))
  refine kQm aa aa (kQv (aJ aa) aa (kQv (aF (m:=_) cD aa aa) aa (kQv (ai isAgg90 aa aa) aa (kQm aa aa (kQv (aJ aa) aa (kQv (aF (m:=_) iL aa aa) aa (kQv (ai isAgg25 aa aa) aa (kQv (aN aa aa) aa (kQv (qS aa aa (zF _)) aa (bU ?_))))))))))
  refine aS aa (ar call145 aa) (cy (fun Fr=>cm _ Fr _ _ _ _)) .free aa aa ?_ ?_
  rotate_left
  ·rintro _ _ ⟨s9,⟨hm9,rfl⟩,rfl⟩
   exact a8 fun w hh=>⟨_,⟨_,by simp[bJ.truncate, *],rfl,rfl⟩,hh⟩
  rintro _ _ ⟨s1,⟨e1,hm1,rfl⟩,rfl⟩
  refine ad (ao [0] rfl (ac (ab (kPf cD isAgg90 aa aa aa aa ?_))))
  refine aS aa (ar call151 aa) (cy (fun Fr=>dx _ Fr _ _ _)) .free aa aa ?_ ?_
  rotate_left
  ·rintro _ _ ⟨s9,⟨hm9,rfl⟩,rfl⟩
   exact a8 fun w hh=>⟨_,⟨_,by simp[bJ.truncate, *],rfl,rfl⟩,hh⟩
  rintro _ _ ⟨s2,⟨e2,hm2,rfl⟩,rfl⟩
  refine ad (ac (ab (kPf cD isAgg90 aa aa aa aa ?_)))
  refine aS aa (ar call152 aa) (cy (fun Fr=>eD _ Fr _ _)) .free aa aa ?_ ?_
  rotate_left
  ·rintro _ _ ⟨s9,⟨hm9,rfl⟩,rfl⟩
   exact a8 fun w hh=>⟨_,⟨_,by simp[bJ.truncate, *],rfl,rfl⟩,hh⟩
  rintro _ _ ⟨s3,⟨e3,hm3,rfl⟩,rfl⟩
  refine ad (ao [0] rfl (ac (ab (kPm aa aa (kPf iL isAgg25 aa aa aa aa (kPv (aN aa aa) aa (kPv (qS aa aa (zF _)) aa (kPv (aJ aa) aa (kPv (aF (m:=_) iL aa aa) aa (kPs (aO sizeOf25 aa aa aa aa) aa (ad ?_)))))))))))
  refine ao [0] rfl (ab (kPm aa aa (kPv (aJ aa) aa (kPv (aF (m:=_) cW aa aa) aa (kPs (aO sizeOf3 aa aa aa aa) aa (ad ?_))))))
  exact cJ results153 (fun w hh=>⟨_,⟨{L with epoch:=(L.epoch+1)%4294967296,n:=0},_,by simp[bJ.truncate, *],rfl,rfl⟩,hh⟩)
theorem nZ(B:World)(Fr:List HP)(bl:Nat)(L:bJ)(s:Dev)(hL:dD L)(i:Int):
 ∀ w,Holds B (cO bl L::az L.d s::Fr) w→Calls Tryz.prog 144 [ptr bl,i64 i].toArray w (Ret B (fun rv H'=>∃ a L' s',L.append s i= .ok (a,L') s'∧rv=i64 a∧H'=cO bl L'::az L.d s'::Fr) (fun c H'=>∃ s',L.append s i= .off s'∧c=dN∧H'=cO bl L::az L.d s'::Fr)):=by
 refine ap func144 aa ntmps144 aa ?_
 have hc:=hL.c
 have hc1:=hc.r1
 have hc2:=hc.r2
 have hc3:=hc.l1
 have hc4:=hc.l2
 have hl1:=hL.e1
 have hl2:=hL.e2
 have hl3:=hL.n1
 have hl4:=hL.n2
 have hrc:16≤L.c.record L.n∧L.c.record L.n≤10000:=by simp only[Cfg.record];omega
 refine kE L.d fun hn1 hn2 hn3=>(ac (ab (kPa aa aa (ad (ac (aK (ac (ab (kPm aa aa (kPv (am aa aa aa) aa (kPm aa aa ?_)))))))))))
 apply fK (tp:=17) (t:=9) (σ1:=[(9,_),(4,_),(0,_),(1,_)]) 8 rfl (aC rfl)
 ·intro hg1
  refine aj aa (ak aa) (.on aa aa (ae hg1)) aa aa (aj aa (ak aa) (.on aa aa (ae hg1)) aa aa (aj aa (aJ aa) (.on aa aa (ae hg1)) aa aa (aj aa (aF (m:=_) cD aa aa) (.on aa aa (ae hg1)) aa aa (aj aa (ai isAgg90 aa aa) (.on aa aa (ae hg1)) aa aa (ax aa (ar call143 aa) (bF (q:=az) (fun Fr=>kj _ Fr _ _)) (.on aa aa (ae hg1)) aa aa ?_)))))
  refine aj aa (am aa aa aa) (.on aa aa (ae hg1)) aa aa (kPv (aD aa hg1 aa) aa ?_)
  exact aT aa (aC aa) (eM hg1)
 ·intro hg1
  refine al aa (.on aa aa (ag hg1)) aa (al aa (.on aa aa (ag hg1)) aa (al aa (.on aa aa (ag hg1)) aa (al aa (.on aa aa (ag hg1)) aa (al aa (.on aa aa (ag hg1)) aa (al aa (.on aa aa (ag hg1)) aa (al aa (.on aa aa (ag hg1)) aa (kPv (au aa hg1 aa) aa ?_)))))))
  exact aT aa (aC aa) (eK hg1)
 refine kPa aa aa (ad ?_)
 refine ba aa (fun h6=> ?_) (fun h6=> ?_)
 ·try simp only[decide_eq_true_eq,decide_eq_false_iff_not,Bool.not_eq_true',Bool.not_eq_false',Bool.or_eq_true,Bool.and_eq_true,Bool.and_eq_false_iff,Bool.or_eq_false_iff,beq_iff_eq,bne_iff_ne,beq_eq_false_iff_ne,bne_eq_false_iff_eq,ge_iff_le,gt_iff_lt,ne_eq] at h6
  refine ac (ab (kPa aa aa (ad (aB ?_))))
  exact aw results144 aa (fun w hh=>⟨_,⟨1,L,s,by simp[bJ.append, *],rfl,rfl⟩,hh⟩)
 ·try simp only[decide_eq_true_eq,decide_eq_false_iff_not,Bool.not_eq_true',Bool.not_eq_false',Bool.or_eq_true,Bool.and_eq_true,Bool.and_eq_false_iff,Bool.or_eq_false_iff,beq_iff_eq,bne_iff_ne,beq_eq_false_iff_ne,bne_eq_false_iff_eq,ge_iff_le,gt_iff_lt,ne_eq] at h6
  refine ac (cL Tryz.mixed (by kernel_rfl) (by kernel_rfl) ?_)
  refine kQm aa aa (kQv (aJ aa) aa (kQv (aF (m:=_) cW aa aa) aa (kQv (ai isAgg3 aa aa) aa (kQm aa aa (kQv (aJ aa) aa (kQv (aF (m:=_) jZ aa aa) aa (kQv (aF (m:=_) hZ aa aa) aa (kQv (ai isAgg3 aa aa) aa (kQv (am aa aa aa) aa (kQa aa aa (bU ?_)))))))))))
  refine ao [18,4,0,1] rfl ?_
  refine ba aa (fun h18=> ?_) (fun h18=> ?_)
  ·try simp only[decide_eq_true_eq,decide_eq_false_iff_not,Bool.not_eq_true',Bool.not_eq_false',Bool.or_eq_true,Bool.and_eq_true,Bool.and_eq_false_iff,Bool.or_eq_false_iff,beq_iff_eq,bne_iff_ne,beq_eq_false_iff_ne,bne_eq_false_iff_eq,ge_iff_le,gt_iff_lt,ne_eq] at h18
   refine ac (ab (kPa aa aa (ad (aB ?_))))
   exact aw results144 aa (fun w hh=>⟨_,⟨3,L,s,by simp[bJ.append, *],rfl,rfl⟩,hh⟩)
  ·try simp only[decide_eq_true_eq,decide_eq_false_iff_not,Bool.not_eq_true',Bool.not_eq_false',Bool.or_eq_true,Bool.and_eq_true,Bool.and_eq_false_iff,Bool.or_eq_false_iff,beq_iff_eq,bne_iff_ne,beq_eq_false_iff_ne,bne_eq_false_iff_eq,ge_iff_le,gt_iff_lt,ne_eq] at h18
   refine aq (ac (cL Tryz.mixed (by kernel_rfl) (by kernel_rfl) ?_))
   refine kQm aa aa (kQv (aJ aa) aa (kQv (aF (m:=_) jZ aa aa) aa (kQv (ah isAgg134 sizeOf134 aa aa) aa ?_)))
   refine kQm aa aa (kQv (aJ aa) aa (kQv (aF (m:=_) cW aa aa) aa (kQv (ai isAgg3 aa aa) aa (bC aa (ar call176 aa) (gb _ _ L.c _ (by omega) (by omega)) .free aa ?_))))
   refine kQa aa aa (bU (ao [5,4,0,1] rfl (ac (ab (kPf cD isAgg90 aa aa aa aa (kPm aa aa (kPv (aN aa aa) aa (kPm aa aa (kPv (bK runUnderlying3 runUnderlying25 aa) aa ?_)))))))))
   refine aS aa (ar call145 aa) (cy (fun Fr=>cm _ Fr _ _ _ _)) .free aa aa ?_ ?_
   rotate_left
   ·rintro _ _ ⟨s9,⟨hm9,rfl⟩,rfl⟩
    exact a8 fun w hh=>⟨_,⟨_,by simp[bJ.append, *],rfl,rfl⟩,hh⟩
   rintro _ _ ⟨s1,⟨e1,hm1,rfl⟩,rfl⟩
   refine ad (ao [5,4,0,1] rfl (ac (cQ 12 Tryz.mixed (by kernel_rfl) (by kernel_rfl) ?_)))
   refine kQm aa aa (kQv (aJ aa) aa (kQv (aF (m:=_) cD aa aa) aa (kQv (ai isAgg90 aa aa) aa (kQm aa aa (kQv (aN aa aa) aa (kQm aa aa (kQv (aJ aa) aa (kQv (aF (m:=_) cD aa aa) aa (kQv (ai isAgg90 aa aa) aa (kQm aa aa (bC aa (ar call173 aa) (bF (q:=az) (fun Fr=>cf _ Fr _ _ _)) .free aa ?_)))))))))))
   refine bU ?_
   refine aS aa (ar call145 aa) (cy (fun Fr=>cm _ Fr _ _ _ _)) .free aa aa ?_ ?_
   rotate_left
   ·rintro _ _ ⟨s9,⟨hm9,rfl⟩,rfl⟩
    exact a8 fun w hh=>⟨_,⟨_,by simp[bJ.append, *],rfl,rfl⟩,hh⟩
   rintro _ _ ⟨s2,⟨e2,hm2,rfl⟩,rfl⟩
   refine ad (ao [5,4,0] rfl (ac (ab (kPf cD isAgg90 aa aa aa aa (kPm aa aa ?_)))))
   refine aS aa (ar call151 aa) (cy (fun Fr=>dx _ Fr _ _ _)) .free aa aa ?_ ?_
   rotate_left
   ·rintro _ _ ⟨s9,⟨hm9,rfl⟩,rfl⟩
    exact a8 fun w hh=>⟨_,⟨_,by simp[bJ.append, *],rfl,rfl⟩,hh⟩
   rintro _ _ ⟨s3,⟨e3,hm3,rfl⟩,rfl⟩
   refine ad (ac (ab (kPf cD isAgg90 aa aa aa aa ?_)))
   refine aS aa (ar call152 aa) (cy (fun Fr=>eD _ Fr _ _)) .free aa aa ?_ ?_
   rotate_left
   ·rintro _ _ ⟨s9,⟨hm9,rfl⟩,rfl⟩
    exact a8 fun w hh=>⟨_,⟨_,by simp[bJ.append, *],rfl,rfl⟩,hh⟩
   rintro _ _ ⟨s4,⟨e4,hm4,rfl⟩,rfl⟩
   refine ad (ao [5,4,0] rfl (ac (cQ 14 Tryz.mixed (by kernel_rfl) (by kernel_rfl) ?_)))
   refine kQm aa aa (kQv (aJ aa) aa (kQv (aF (m:=_) cD aa aa) aa (kQv (ai isAgg90 aa aa) aa (kQm aa aa (kQm aa aa (kQv (aJ aa) aa (kQv (aF (m:=_) iL aa aa) aa (kQv (ai isAgg25 aa aa) aa (kQm aa aa (kQv (aJ aa) aa (kQv (aF (m:=_) cW aa aa) aa ?_)))))))))))
   refine kQv (ai isAgg3 aa aa) aa (bC aa (ar call177 aa) (ru _ _ _ _ ⟨by omega,by omega⟩ ⟨by omega,by omega⟩) .free aa ?_)
   refine bU ?_
   refine aS aa (ar call145 aa) (cy (fun Fr=>cm _ Fr _ _ _ _)) .free aa aa ?_ ?_
   rotate_left
   ·rintro _ _ ⟨s9,⟨hm9,rfl⟩,rfl⟩
    exact a8 fun w hh=>⟨_,⟨_,by simp[bJ.append, *],rfl,rfl⟩,hh⟩
   rintro _ _ ⟨s5,⟨e5,hm5,rfl⟩,rfl⟩
   refine ad (ao [5,4,0] rfl (ac (ab (kPf cD isAgg90 aa aa aa aa (kPm aa aa ?_)))))
   refine aS aa (ar call151 aa) (cy (fun Fr=>dx _ Fr _ _ _)) .free aa aa ?_ ?_
   rotate_left
   ·rintro _ _ ⟨s9,⟨hm9,rfl⟩,rfl⟩
    exact a8 fun w hh=>⟨_,⟨_,by simp[bJ.append, *],rfl,rfl⟩,hh⟩
   rintro _ _ ⟨s6,⟨e6,hm6,rfl⟩,rfl⟩
   refine ad (ao [4,0] rfl (ac (ab (kPf cD isAgg90 aa aa aa aa ?_))))
   refine aS aa (ar call152 aa) (cy (fun Fr=>eD _ Fr _ _)) .free aa aa ?_ ?_
   rotate_left
   ·rintro _ _ ⟨s9,⟨hm9,rfl⟩,rfl⟩
    exact a8 fun w hh=>⟨_,⟨_,by simp[bJ.append, *],rfl,rfl⟩,hh⟩
   rintro _ _ ⟨s7,⟨e7,hm7,rfl⟩,rfl⟩
   refine ad (ac (ab (kPf cW isAgg3 aa aa aa aa (kPv (aN aa aa) aa (kPv (aJ aa) aa (kPv (aF (m:=_) cW aa aa) aa (kPs (aO sizeOf3 aa aa aa aa) aa (ad (ao [4] rfl (ac (ab ?_)))))))))))
   refine kPa aa aa (ad (aB ?_))
   exact aw results144 aa (fun w hh=>⟨_,⟨0,{L with n:=L.n+1},_,by simp[bJ.append, *],rfl,rfl⟩,hh⟩)
def gt(s:Dev)(c:Cfg)(e:Int):Nat→Int→Int
 | 0,n=>n
 | f+1,n=>if s.load (c.record n)=ga e n then gt s c e f (n+1) else n
def bP(d:Nat)(c:Cfg)(s:Dev):bJ:=⟨d,c,s.load 8%4294967296,gt s c (s.load 8%4294967296) c.log.toNat 0⟩
theorem rO(s:Dev)(c:Cfg)(e:Int):∀ f n,n≤gt s c e f n∧gt s c e f n≤n+f
 | 0,n=>by simp[gt]
 | f+1,n=>by
   have:=rO s c e f (n+1)
   simp only[gt];split<;>omega
theorem il{d:Nat}{c:Cfg}{s:Dev}(h:bj c):dD (bP d c s):=by
 have:=rO s c (s.load 8%4294967296) c.log.toNat 0
 have:=h.l1;have:=h.r1
 exact⟨h,by simp only[bP];omega,by simp only[bP];omega,by simp only[bP];omega,by simp only[bP];omega⟩
theorem jO(B:World)(Fr:List HP)(bd:Nat)(s:Dev)(c:Cfg)(hc:bj c):
 ∀ w,Holds B (az bd s::Fr) w→Calls Tryz.prog 124 [ptr bd,dQ c].toArray w (Ret B (fun rv H'=>∃ bl,rv=ptr bl∧H'=cO bl (bP bd c s)::az bd s::Fr) (fun _ _=>False)):=by
 refine ap func124 aa ntmps124 aa ?_
 have hc1:=hc.r1
 have hc2:=hc.r2
 have hc3:=hc.l1
 have hc4:=hc.l2
 refine ac (ab (kPb (aY aa) aa fun b3=>(kPa aa aa (ad (ac (cQ 6 Tryz.mixed (by kernel_rfl) (by kernel_rfl) ?_))))))
 refine kQm aa aa (kQv (ah isAgg134 sizeOf134 aa aa) aa ?_)
 refine kQm aa aa (bC aa (ar call173 aa) (bF (q:=az) (fun Fr=>cf _ Fr _ _ _)) .free aa ?_)
 refine kQv (qS aa aa (zF _)) aa ?_
 refine bf aa (aP aa (pf _ _ _ _ _ (by first | rfl | assumption) rfl)) .free rfl ?_;refine bU ?_;refine kPb (aY aa) aa fun b12=> ?_;refine kPa aa aa ?_;refine ad ?_;refine ao [5,4,3,0] rfl ?_;refine ac ?_;refine aK ?_
 refine di (ι:=Int) (fun n=>(0≤n∧n≤c.log)∧gt s c (s.load 8%4294967296) (c.log - n).toNat n=gt s c (s.load 8%4294967296) c.log.toNat 0) (fun _=>[(0,ptr bd),(3,ptr b3),(4,.pointer none),(5,ptr b12)]) (fun n=>row b12 [ptr bd,i64 c.log,i64 c.roots,i64 c.space,w64 (s.load 8%4294967296),i64 n] 228::row b3 [i64 c.log,i64 c.roots,i64 c.space] 134::az bd s::Fr) (fun n=>(c.log - n).toNat) 0 ⟨⟨by omega,by omega⟩,by rw[Int.sub_zero]⟩ (fun a w st=>st.to ⟨rfl,rfl,rfl,rfl,trivial⟩ id) ?_
 rintro n ⟨⟨hn1,hn2⟩,hn3⟩
 refine ac (ac (cL Tryz.mixed (by kernel_rfl) (by kernel_rfl) ?_))
 refine kQm aa aa (kQv (aJ aa) aa (kQv (aF (m:=_) cW aa aa) aa (kQv (ai isAgg3 aa aa) aa (kQv (aF (m:=_) hZ aa aa) aa (kQv (ai isAgg3 aa aa) aa (kQv (am aa aa aa) aa (kQm aa aa ?_)))))))
 apply mn (tp:=39) (t:=20) (σ1:=[(20,_),(5,_),(4,_),(3,_),(0,_)]) 19 rfl (aC rfl)
 ·intro hg1
  refine bf aa (ak aa) (.on aa aa (ae hg1)) aa (bf aa (ah isAgg134 sizeOf134 aa aa) (.on aa aa (ae hg1)) aa ?_)
  refine bf aa (ak aa) (.on aa aa (ae hg1)) aa (bf aa (aJ aa) (.on aa aa (ae hg1)) aa (bf aa (aF (m:=_) cW aa aa) (.on aa aa (ae hg1)) aa (bf aa (ai isAgg3 aa aa) (.on aa aa (ae hg1)) aa (bC aa (ar call176 aa) (gb _ _ c _ (by omega) (by omega)) (.on aa aa (ae hg1)) aa ?_))))
  refine bC aa (ar call173 aa) (bF (q:=az) (fun Fr=>cf _ Fr _ _ _)) (.on aa aa (ae hg1)) aa ?_
  refine bf aa (ak aa) (.on aa aa (ae hg1)) aa (bf aa (aJ aa) (.on aa aa (ae hg1)) aa (bf aa (aF (m:=_) iL aa aa) (.on aa aa (ae hg1)) aa (bf aa (ai isAgg25 aa aa) (.on aa aa (ae hg1)) aa (bf aa (ak aa) (.on aa aa (ae hg1)) aa (bf aa (aJ aa) (.on aa aa (ae hg1)) aa (bf aa (aF (m:=_) cW aa aa) (.on aa aa (ae hg1)) aa (bf aa (ai isAgg3 aa aa) (.on aa aa (ae hg1)) aa (bC aa (ar call177 aa) (ru _ _ _ _ ⟨by omega,by omega⟩ ⟨by omega,by omega⟩) (.on aa aa (ae hg1)) aa ?_))))))))
  refine bf aa (am aa aa aa) (.on aa aa (ae hg1)) aa (kQv (au aa hg1 aa) aa ?_)
  exact eG aa (aC aa) (cE hg1)
 ·intro hg1
  refine aW aa (.on aa aa (ag hg1)) aa (aW aa (.on aa aa (ag hg1)) aa (aW aa (.on aa aa (ag hg1)) aa (aW aa (.on aa aa (ag hg1)) aa (aW aa (.on aa aa (ag hg1)) aa (aW aa (.on aa aa (ag hg1)) aa (aW aa (.on aa aa (ag hg1)) aa (aW aa (.on aa aa (ag hg1)) aa (aW aa (.on aa aa (ag hg1)) aa (aW aa (.on aa aa (ag hg1)) aa (aW aa (.on aa aa (ag hg1)) aa (aW aa (.on aa aa (ag hg1)) aa ?_)))))))))))
  refine aW aa (.on aa aa (ag hg1)) aa (aW aa (.on aa aa (ag hg1)) aa (aW aa (.on aa aa (ag hg1)) aa (aW aa (.on aa aa (ag hg1)) aa (aW aa (.on aa aa (ag hg1)) aa (aW aa (.on aa aa (ag hg1)) aa (kQv (aD aa hg1 aa) aa ?_))))))
  exact eG aa (aC aa) (cF hg1)
 refine bU ?_
 refine ba aa (fun h39=> ?_) (fun h39=> ?_)
 ·try simp only[decide_eq_true_eq,decide_eq_false_iff_not,Bool.not_eq_true',Bool.not_eq_false',Bool.or_eq_true,Bool.and_eq_true,Bool.and_eq_false_iff,Bool.or_eq_false_iff,beq_iff_eq,bne_iff_ne,beq_eq_false_iff_ne,bne_eq_false_iff_eq,ge_iff_le,gt_iff_lt,ne_eq] at h39
  refine aq (aK (ab (kPf cW isAgg3 aa aa aa aa (kPv (aN aa aa) aa (kPv (aJ aa) aa (kPv (aF (m:=_) cW aa aa) aa (kPs (aO sizeOf3 aa aa aa aa) aa (ad (ao [5,4,3,0] rfl ?_)))))))))
  have e1:(c.log - n).toNat=(c.log - (n+1)).toNat+1:=by omega
  exact fun a w st=>⟨n+1,⟨⟨by omega,by omega⟩,by rw[e1] at hn3;simp only[gt] at hn3;rwa [if_pos h39.2] at hn3⟩,by omega,st.to ⟨rfl,rfl,rfl,rfl,trivial⟩ id⟩
 ·try simp only[decide_eq_true_eq,decide_eq_false_iff_not,Bool.not_eq_true',Bool.not_eq_false',Bool.or_eq_true,Bool.and_eq_true,Bool.and_eq_false_iff,Bool.or_eq_false_iff,beq_iff_eq,bne_iff_ne,beq_eq_false_iff_ne,bne_eq_false_iff_eq,ge_iff_le,gt_iff_lt,ne_eq] at h39
  refine bD (ac (ab (kPm aa aa (kPa aa aa (ad (aB ?_))))))
  exact aw results124 aa (fun w hh=>⟨_,⟨b12,rfl,rfl⟩,by
   have e2:gt s c (s.load 8%4294967296) c.log.toNat 0=n:=by
    rw[←hn3]
    cases e1:(c.log - n).toNat with
    | zero=>rfl
    | succ k=>simp only[gt];rw[if_neg (by rcases h39 with h | h;omega;exact h)]
   simp only[bP]
   rw[e2]
   exact(hh.front 1 aa).tail⟩)
def jy(s:Dev)(c:Cfg):Nat→Int→Int
 | 0,_=> -1
 | f+1,k=>if s.load (c.record k+1)<c.active∨(s.n:Int)≤s.load (c.record k+1) then k else jy s c f (k+1)
theorem yr(B:World)(Fr:List HP)(bl:Nat)(L:bJ)(s:Dev)(hL:dD L):
 ∀ w,Holds B (cO bl L::az L.d s::Fr) w→Calls Tryz.prog 125 [ptr bl].toArray w (aZ B (cO bl L::az L.d s::Fr) (i64 (jy s L.c L.n.toNat 0))):=by
 refine ap func125 aa ntmps125 aa ?_
 have hc:=hL.c
 have hc1:=hc.r1
 have hc2:=hc.r2
 have hc3:=hc.l1
 have hc4:=hc.l2
 have hl1:=hL.e1
 have hl2:=hL.e2
 have hl3:=hL.n1
 have hl4:=hL.n2
 have hrc:16≤L.c.record L.n∧L.c.record L.n≤10000:=by simp only[Cfg.record];omega
 refine kE L.d fun hn1 hn2 hn3=> ?_
 have ha:=hc.act
 refine ac (ab (kPa aa aa (ad (ac (ac (ab (kPf cW isAgg3 aa aa aa aa (kPm aa aa (ad (aK (di (ι:=Int) (fun k=>(0≤k∧k≤L.n)∧jy s L.c (L.n - k).toNat k=jy s L.c L.n.toNat 0) (fun k=>[(0,ptr bl),(2,i64 0),(8,i64 L.n),(9,i64 k)]) (fun _=>cO bl L::az L.d s::Fr) (fun k=>(L.n - k).toNat) 0 ⟨⟨by omega,by omega⟩,by rw[Int.sub_zero]⟩ (fun a w st=>st.to ⟨rfl,rfl,rfl,rfl,trivial⟩ id) ?_)))))))))))
 rintro k ⟨⟨hk1,hk2⟩,hk3⟩
 have hrk:16≤L.c.record k∧L.c.record k≤10000:=by simp only[Cfg.record];omega
 refine ac (ab (kPv (am aa aa aa) aa (ad (ac ?_))))
 refine ba aa (fun h10=> ?_) (fun h10=> ?_)
 ·try simp only[decide_eq_true_eq,decide_eq_false_iff_not,Bool.not_eq_true',Bool.not_eq_false',Bool.or_eq_true,Bool.and_eq_true,Bool.and_eq_false_iff,Bool.or_eq_false_iff,beq_iff_eq,bne_iff_ne,beq_eq_false_iff_ne,bne_eq_false_iff_eq,ge_iff_le,gt_iff_lt,ne_eq] at h10
  refine aq (ac (aK (ac (ab (kPm aa aa (kPa aa aa (ad (ac (cL Tryz.mixed (by kernel_rfl) (by kernel_rfl) ?_)))))))))
  refine kQm aa aa (kQv (aJ aa) aa (kQv (aF (m:=_) cD aa aa) aa (kQv (ai isAgg90 aa aa) aa (kQm aa aa (kQv (aJ aa) aa (kQv (aF (m:=_) jZ aa aa) aa (kQv (ah isAgg134 sizeOf134 aa aa) aa ?_)))))))
  refine kQm aa aa (bC aa (ar call176 aa) (gb _ _ L.c _ (by omega) (by omega)) .free aa ?_)
  refine kQv (aN aa aa) aa (bC aa (ar call173 aa) (bF (q:=az) (fun Fr=>cf _ Fr _ _ _)) .free aa ?_)
  refine kQa aa aa (bU (ao [4,3,9,8,2,0] rfl (ac (ab (kPm aa aa (kPm aa aa (kPv (aJ aa) aa (kPv (aF (m:=_) jZ aa aa) aa (kPv (ah isAgg134 sizeOf134 aa aa) aa ?_)))))))))
  refine ax aa (ar call142 aa) (fA _ _ L.c hc) .free aa aa ?_
  refine kPv (bK runUnderlying3 runUnderlying25 aa) aa (kPv (am aa aa aa) aa (kPm aa aa ?_))
  apply fK (tp:=41) (t:=32) (σ1:=[(32,_),(3,_),(9,_),(8,_),(2,_),(0,_)]) 9 rfl (aC rfl)
  ·intro hg1
   refine aj aa (ak aa) (.on aa aa (ae hg1)) aa aa (aj aa (ak aa) (.on aa aa (ae hg1)) aa aa (aj aa (aJ aa) (.on aa aa (ae hg1)) aa aa (aj aa (aF (m:=_) cD aa aa) (.on aa aa (ae hg1)) aa aa (aj aa (ai isAgg90 aa aa) (.on aa aa (ae hg1)) aa aa (ax aa (ar call143 aa) (bF (q:=az) (fun Fr=>kj _ Fr _ _)) (.on aa aa (ae hg1)) aa aa ?_)))))
   refine aj aa (bK runUnderlying3 runUnderlying25 aa) (.on aa aa (ae hg1)) aa aa (aj aa (am aa aa aa) (.on aa aa (ae hg1)) aa aa (kPv (aD aa hg1 aa) aa ?_))
   exact aT aa (aC aa) (eM hg1)
  ·intro hg1
   refine al aa (.on aa aa (ag hg1)) aa (al aa (.on aa aa (ag hg1)) aa (al aa (.on aa aa (ag hg1)) aa (al aa (.on aa aa (ag hg1)) aa (al aa (.on aa aa (ag hg1)) aa (al aa (.on aa aa (ag hg1)) aa (al aa (.on aa aa (ag hg1)) aa (al aa (.on aa aa (ag hg1)) aa (kPv (au aa hg1 aa) aa ?_))))))))
   exact aT aa (aC aa) (eK hg1)
  refine ad ?_
  refine ba aa (fun h41=> ?_) (fun h41=> ?_)
  ·try simp only[decide_eq_true_eq,decide_eq_false_iff_not,Bool.not_eq_true',Bool.not_eq_false',Bool.or_eq_true,Bool.and_eq_true,Bool.and_eq_false_iff,Bool.or_eq_false_iff,beq_iff_eq,bne_iff_ne,beq_eq_false_iff_ne,bne_eq_false_iff_eq,ge_iff_le,gt_iff_lt,ne_eq] at h41
   refine ac (ab (kPm aa aa (kPa aa aa (ad (aB ?_)))))
   exact aw results125 aa (fun w hh=>⟨by
   have e1:(L.n - k).toNat=(L.n - (k+1)).toNat+1:=by omega
   rw[←hk3,e1];simp only[jy];rw[if_pos (by omega)],hh⟩)
  ·try simp only[decide_eq_true_eq,decide_eq_false_iff_not,Bool.not_eq_true',Bool.not_eq_false',Bool.or_eq_true,Bool.and_eq_true,Bool.and_eq_false_iff,Bool.or_eq_false_iff,beq_iff_eq,bne_iff_ne,beq_eq_false_iff_ne,bne_eq_false_iff_eq,ge_iff_le,gt_iff_lt,ne_eq] at h41
   refine aq (ab (kPv (aN aa aa) aa (kPm aa aa (ad ?_))))
   have e1:(L.n - k).toNat=(L.n - (k+1)).toNat+1:=by omega
   exact fun a w st=>⟨k+1,⟨⟨by omega,by omega⟩,by rw[e1] at hk3;simp only[jy] at hk3;rwa [if_neg (by omega)] at hk3⟩,by omega,st.to ⟨rfl,rfl,rfl,rfl,trivial⟩ id⟩
 ·try simp only[decide_eq_true_eq,decide_eq_false_iff_not,Bool.not_eq_true',Bool.not_eq_false',Bool.or_eq_true,Bool.and_eq_true,Bool.and_eq_false_iff,Bool.or_eq_false_iff,beq_iff_eq,bne_iff_ne,beq_eq_false_iff_ne,bne_eq_false_iff_eq,ge_iff_le,gt_iff_lt,ne_eq] at h10
  refine bD (ac (ab (kPa aa aa (ad (ao [2] rfl (aB ?_))))))
  exact aw results125 aa (fun w hh=>⟨by rw[←hk3,show(L.n - k).toNat=0 by omega];rfl,hh⟩)
def kx(st:Int→Int→Dev→Out Unit)(c:Cfg):Nat→Dev→Out Unit
 | 0,s=> .ok () s
 | k+1,s=>(st (IntKind.i64.wrap (s.load (c.record k+1))) (s.load (c.record k+2)) s).then fun _ s=>kx st c k s
def jv(i v:Int)(s:Dev):Out Unit:=(s.store i v).then fun _ s=>(s.flush i).then fun _ s=> .ok () s
def bJ.undo(L:bJ)(s:Dev):Out bJ:=
 (kx jv L.c L.n.toNat s).then fun _ s=>(if 0<L.n then s.fence else .ok () s).then fun _ s=>L.truncate s
theorem mq(B:World)(H:List HP)(bl:Nat):
 ∀ w,Holds B H w→Calls Tryz.prog 179 [ptr bl].toArray w (Ret B (fun v H'=>∃ bb,v= .func (.func 207) [].toArray [ptr bb].toArray∧H'=row bb [ptr bl] 168::H) (fun _ _=>False)):=by
 refine ap func179 aa ntmps179 aa (ac (ab (kPb (dE aa aa) aa fun b1=>(kPa aa aa (ad (ac (ab (kPv (dt aa aa) aa (kPa aa aa (ad (aB ?_)))))))))))
 exact aw results179 aa (fun w hw=>⟨_,⟨_,rfl,rfl⟩,hw⟩)
theorem yo(B:World)(Fr:List HP)(bl bb l f:Nat)(L:bJ)(s:Dev)(hL:dD L)(r:Loop)(hrf:r.fn=f)(hrp:r.params.size=2)(st:Int→Int→Dev→Out Unit)(hround:∀ (i v:Int) (s:Dev),∀ w,Holds B (blk l (.loop r)::row bb [ptr bl] 168::cO bl L::az L.d s::Fr) w→RoundIn (Wd (cxF f)) 0 Tryz.prog l f ((r.params.zip [i64 i,w64 v].toArray).foldl (fun tmps (t,a)=>tmps.setIfInBounds t a) r.tmps) r.assign r.body w (Ret B (fun rv H'=>∃ s',st i v s= .ok () s'∧rv= .bool true∧H'=blk l (.loop r)::row bb [ptr bl] 168::cO bl L::az L.d s'::Fr) (fun c H'=>∃ s',st i v s= .off s'∧c=dN∧H'=row bb [ptr bl] 168::cO bl L::az L.d s'::Fr))):
 ∀ w,Holds B (blk l (.loop r)::row bb [ptr bl] 168::cO bl L::az L.d s::Fr) w→Calls Tryz.prog 207 [.func (.yield l) #[] #[],ptr bb].toArray w (Ret B (fun rv H'=>∃ s',kx st L.c L.n.toNat s= .ok () s'∧H'=blk l (.loop r)::row bb [ptr bl] 168::cO bl L::az L.d s'::Fr) (fun c H'=>∃ s',kx st L.c L.n.toNat s= .off s'∧c=dN∧H'=row bb [ptr bl] 168::cO bl L::az L.d s'::Fr)):=by
 refine ap func207 aa ntmps207 aa ?_
 have hc:=hL.c
 have hc1:=hc.r1
 have hc2:=hc.r2
 have hc3:=hc.l1
 have hc4:=hc.l2
 have hl1:=hL.e1
 have hl2:=hL.e2
 have hl3:=hL.n1
 have hl4:=hL.n2
 have hrc:16≤L.c.record L.n∧L.c.record L.n≤10000:=by simp only[Cfg.record];omega
 refine kE L.d fun hn1 hn2 hn3=>(ac (ab (kPv (ai isAgg168 aa aa) aa (kPv (aJ aa) aa (kPl cW isAgg3 aa aa aa aa (kPv (eV aa aa) aa (kPa aa aa (ad (aK (di (ι:=Int×Dev) (fun i=>(-1≤i.1∧i.1<L.n)∧kx st L.c (i.1+1).toNat i.2=kx st L.c L.n.toNat s) (fun i=>[(0,.func (.yield l) #[] #[]),(1,ptr bb),(3,i64 i.1)]) (fun i=>blk l (.loop r)::row bb [ptr bl] 168::cO bl L::az L.d i.2::Fr) (fun i=>(i.1+1).toNat) (L.n - 1,s) ⟨⟨by simp only;omega,by simp only;omega⟩,by simp only;rw[Int.sub_add_cancel]⟩ (fun a w st=>st.to ⟨rfl,rfl,rfl,trivial⟩ id) ?_))))))))))
 rintro⟨k,s1⟩ ⟨⟨hk1,hk2⟩,hk3⟩
 simp only at hk1 hk2 hk3 ⊢
 have hrk:k<0∨16≤L.c.record k∧L.c.record k≤10000:=by simp only[Cfg.record];omega
 refine ac (ac (ab (kPm aa aa (kPv (am aa aa aa) aa (ad ?_)))))
 refine ba aa (fun h11=> ?_) (fun h11=> ?_)
 ·try simp only[decide_eq_true_eq,decide_eq_false_iff_not,Bool.not_eq_true',Bool.not_eq_false',Bool.or_eq_true,Bool.and_eq_true,Bool.and_eq_false_iff,Bool.or_eq_false_iff,beq_iff_eq,bne_iff_ne,beq_eq_false_iff_ne,bne_eq_false_iff_eq,ge_iff_le,gt_iff_lt,ne_eq] at h11
  refine aq (ac (aK (ac (ab (kPv (ai isAgg168 aa aa) aa (kPv (aJ aa) aa (kPv (aF (m:=_) jZ aa aa) aa (kPv (ah isAgg134 sizeOf134 aa aa) aa ?_))))))))
  refine kPm aa aa (ax aa (ar call176 aa) (gb _ _ L.c _ (by omega) (by omega)) .free aa aa ?_)
  refine kPa aa aa (ad (ao [4,3,0,1] rfl (ac (cQ 16 Tryz.mixed (by kernel_rfl) (by kernel_rfl) ?_))))
  refine kQm aa aa (kQv (ai isAgg168 aa aa) aa (kQv (aJ aa) aa (kQv (aF (m:=_) cD aa aa) aa (kQv (ai isAgg90 aa aa) aa (kQm aa aa (kQv (aN aa aa) aa (bC aa (ar call173 aa) (bF (q:=az) (fun Fr=>cf _ Fr _ _ _)) .free aa ?_)))))))
  refine kQv (bK runUnderlying25 runUnderlying3 aa) aa (kQv (ai isAgg168 aa aa) aa (kQv (aJ aa) aa (kQv (aF (m:=_) cD aa aa) aa (kQv (ai isAgg90 aa aa) aa (kQm aa aa (kQv (aN aa aa) aa (bC aa (ar call173 aa) (bF (q:=az) (fun Fr=>cf _ Fr _ _ _)) .free aa ?_)))))))
  refine bU ?_
  refine fJ (f:=f) aa aa (fun w hw=>hw) (by rw[hrp];rfl) hrf (hround _ _ _) .free aa ?_ ?_
  rotate_left
  ·rintro _ _ ⟨s9,hm9,rfl,rfl⟩
   exact a8 fun w hh=>⟨_,⟨s9,by rw[←hk3,show(k+1).toNat=k.toNat+1 by omega];simp only[kx];rw[show((k.toNat:Nat):Int)=k by omega,hm9];rfl,rfl,rfl⟩,hh⟩
  rintro _ _ ⟨s2,hm2,rfl,rfl⟩
  refine kPv (bu aa) aa (ad (ao [37,3,0,1] rfl (bE aa (rfl) (aq (ab (kPm aa aa (kPv (eV aa aa) aa (kPa aa aa (ad ?_)))))))))
  exact fun a w st=>⟨(k - 1,s2),⟨⟨by simp only;omega,by simp only;omega⟩,by
   simp only
   rw[←hk3,show(k+1).toNat=k.toNat+1 by omega,show(k - 1+1).toNat=k.toNat by omega]
   simp only[kx]
   rw[show((k.toNat:Nat):Int)=k by omega,hm2];rfl⟩,by simp only;omega,st.to ⟨rfl,rfl,rfl,trivial⟩ id⟩
 ·try simp only[decide_eq_true_eq,decide_eq_false_iff_not,Bool.not_eq_true',Bool.not_eq_false',Bool.or_eq_true,Bool.and_eq_true,Bool.and_eq_false_iff,Bool.or_eq_false_iff,beq_iff_eq,bne_iff_ne,beq_eq_false_iff_ne,bne_eq_false_iff_eq,ge_iff_le,gt_iff_lt,ne_eq] at h11
  refine bD ?_
  exact cJ results207 (fun w hh=>⟨_,⟨s1,by rw[←hk3,show(k+1).toNat=0 by omega];rfl,rfl⟩,hh⟩)
theorem nW(B:World)(Fr:List HP)(bl:Nat)(L:bJ)(s:Dev)(hL:dD L):
 ∀ w,Holds B (cO bl L::az L.d s::Fr) w→Calls Tryz.prog 129 [ptr bl].toArray w (Ret B (fun rv H'=>∃ L' s',L.undo s= .ok L' s'∧rv= .tuple #[]∧H'=cO bl L'::az L.d s'::Fr) (fun c H'=>∃ s',L.undo s= .off s'∧c=dN∧H'=cO bl L::az L.d s'::Fr)):=by
 refine ew func129 aa ntmps129 aa ?_
 have hc:=hL.c
 have hc1:=hc.r1
 have hc2:=hc.r2
 have hc3:=hc.l1
 have hc4:=hc.l2
 have hl1:=hL.e1
 have hl2:=hL.e2
 have hl3:=hL.n1
 have hl4:=hL.n2
 have hrc:16≤L.c.record L.n∧L.c.record L.n≤10000:=by simp only[Cfg.record];omega
 refine kE L.d fun hn1 hn2 hn3=>(ac (ab (kPb (dE aa aa) aa fun b1=>(ad (ac (ac (ab (kPv (ai isAgg168 aa aa) aa (aI aa (ar call179 aa) (mq _ _ _) .free aa aa ?_)))))))))
 rintro _ _ ⟨bb,rfl,rfl⟩
 refine ad (aK ?_)
 refine oc (ι:=Dev) (fun s'=>row bb [ptr bl] 168::cO bl L::az L.d s'::row b1 [ptr bl] 168::Fr) (fun s'=>kx jv L.c L.n.toNat s= .ok () s') (fun s'=>kx jv L.c L.n.toNat s= .off s') dN aa call207 ?_ ?_ ?_
 ·intro l m tmps hts hkn w hh
  have hk1:=hkn 1 _ rfl
  refine(yo B (blk m (.deferred (some []))::row b1 [ptr bl] 168::Fr) bl bb l 129 L s hL _ aa aa jv ?_ w ((((hh.front 5 aa).front 5 aa).front 4 aa).front 3 aa)).mono (Ret.mono ?_ ?_)
  rotate_left
  ·rintro v H' ⟨s',hs',rfl⟩
   exact⟨s',hs',fun w hh=>((hh.front 4 aa).front 1 aa)⟩
  ·rintro c H' ⟨s',hs',rfl,rfl⟩
   exact⟨rfl,s',hs',fun w hh=>(hh.front 3 aa)⟩
  intro i v s
  refine gr (n:=33) (σ:=[(6,i64 i),(7,w64 v),(1,ptr b1)]) func129 (by simp[fB,hts]) (KnA.knows (by simp[KnA,fB,hts];exact(Array.getElem?_eq_some_iff.1 hk1).2)) aa ?_;refine ac ?_;refine ab ?_;refine kPa aa aa ?_;refine ad ?_;refine ab ?_;refine kPa aa aa ?_;refine ad ?_;refine jW ?_;refine aK ?_;refine ac ?_;refine ab ?_;refine kPv (ai isAgg168 aa aa) aa ?_;refine kPv (aJ aa) aa ?_
  refine kPl cD isAgg90 aa aa aa aa (kPm aa aa (kPm aa aa ?_))
  refine aS aa (ar call145 aa) (cy (fun Fr=>cm _ Fr _ _ _ _)) .free aa aa ?_ ?_
  rotate_left
  ·rintro _ _ ⟨s9,⟨hm9,rfl⟩,rfl⟩
   exact a8 fun w hh=>⟨_,⟨s9,by simp[jv, *],rfl,rfl⟩,hh.tail⟩
  rintro _ _ ⟨s1,⟨e1,hm1,rfl⟩,rfl⟩
  refine ad (ao [2,1] rfl (ab (kPv (ai isAgg168 aa aa) aa (kPv (aJ aa) aa (kPl cD isAgg90 aa aa aa aa (kPm aa aa ?_))))))
  refine aS aa (ar call151 aa) (cy (fun Fr=>dx _ Fr _ _ _)) .free aa aa ?_ ?_
  rotate_left
  ·rintro _ _ ⟨s9,⟨hm9,rfl⟩,rfl⟩
   exact a8 fun w hh=>⟨_,⟨s9,by simp[jv, *],rfl,rfl⟩,hh.tail⟩
  rintro _ _ ⟨s2,⟨e2,hm2,rfl⟩,rfl⟩
  refine ad (ao [] rfl ?_)
  exact jV fun w hh=>⟨_,⟨_,by simp[jv, *],rfl,rfl⟩,hh⟩
 rotate_left
 ·intro m s1 hm1
  exact li (.cons (i:=0) aa .nil) fun w hh=>⟨_,⟨s1,by simp[bJ.undo, *],rfl,rfl⟩,(((hh.front 4 aa).front 2 aa).front 2 aa).tail.tail.tail⟩
 intro m s1 hm1
 refine ac (ac (ab (kPv (ai isAgg168 aa aa) aa (kPv (aJ aa) aa (kPl cW isAgg3 aa aa aa aa (kPv (am aa aa aa) aa (ad (ao [25,1] rfl ?_))))))))
 refine ba aa (fun h25=> ?_) (fun h25=> ?_)
 ·try simp only[decide_eq_true_eq,decide_eq_false_iff_not,Bool.not_eq_true',Bool.not_eq_false',Bool.or_eq_true,Bool.and_eq_true,Bool.and_eq_false_iff,Bool.or_eq_false_iff,beq_iff_eq,bne_iff_ne,beq_eq_false_iff_ne,bne_eq_false_iff_eq,ge_iff_le,gt_iff_lt,ne_eq] at h25
  refine ab (kPv (ai isAgg168 aa aa) aa (kPv (aJ aa) aa (kPl cD isAgg90 aa aa aa aa ?_)))
  refine aS aa (ar call152 aa) (cy (fun Fr=>eD _ Fr _ _)) .free aa aa ?_ ?_
  rotate_left
  ·rintro _ _ ⟨s9,⟨hm9,rfl⟩,rfl⟩
   exact li (.cons (i:=0) aa .nil) fun w hh=>⟨_,⟨s9,by simp[bJ.undo, *],rfl,rfl⟩,(((hh.front 4 aa).front 2 aa).front 2 aa).tail.tail.tail⟩
  rintro _ _ ⟨s2,⟨e2,hm2,rfl⟩,rfl⟩
  refine ad (ab (aM (H':=cO bl L::az L.d _::blk m (.deferred (some []))::row bb [ptr bl] 168::row b1 [ptr bl] 168::Fr) (fun w hh=>(((((hh.front 4 aa).front 2 aa).front 2 aa).front 4 aa).front 4 aa)) (kPv (ai isAgg168 aa aa) aa ?_)))
  refine aS aa (ar call153 aa) (kl _ _ bl L _ hL) .free aa aa ?_ ?_
  rotate_left
  ·rintro _ _ ⟨s9,hm9,rfl,rfl⟩
   exact li (.cons (i:=2) aa .nil) fun w hh=>⟨_,⟨s9,by simp[bJ.undo, *],rfl,rfl⟩,(((hh.front 4 aa).front 4 aa).front 4 aa).tail.tail.tail⟩
  rintro _ _ ⟨L3,s3,hm3,rfl,rfl⟩
  refine ad (ao [] rfl ?_)
  exact kO results129 (.cons (i:=2) aa .nil) (fun w hh=>⟨_,⟨L3,s3,by simp[bJ.undo, *],rfl,rfl⟩,(((hh.front 4 aa).front 4 aa).front 4 aa).tail.tail.tail⟩)
 ·try simp only[decide_eq_true_eq,decide_eq_false_iff_not,Bool.not_eq_true',Bool.not_eq_false',Bool.or_eq_true,Bool.and_eq_true,Bool.and_eq_false_iff,Bool.or_eq_false_iff,beq_iff_eq,bne_iff_ne,beq_eq_false_iff_ne,bne_eq_false_iff_eq,ge_iff_le,gt_iff_lt,ne_eq] at h25
  refine aq (ab (aM (H':=cO bl L::az L.d _::blk m (.deferred (some []))::row bb [ptr bl] 168::row b1 [ptr bl] 168::Fr) (fun w hh=>(((((hh.front 4 aa).front 2 aa).front 2 aa).front 4 aa).front 4 aa)) (kPv (ai isAgg168 aa aa) aa ?_)))
  refine aS aa (ar call153 aa) (kl _ _ bl L _ hL) .free aa aa ?_ ?_
  rotate_left
  ·rintro _ _ ⟨s9,hm9,rfl,rfl⟩
   exact li (.cons (i:=2) aa .nil) fun w hh=>⟨_,⟨s9,by simp[bJ.undo, *],rfl,rfl⟩,(((hh.front 4 aa).front 4 aa).front 4 aa).tail.tail.tail⟩
  rintro _ _ ⟨L3,s3,hm3,rfl,rfl⟩
  refine ad ?_
  exact kO results129 (.cons (i:=2) aa .nil) (fun w hh=>⟨_,⟨L3,s3,by simp[bJ.undo, *],rfl,rfl⟩,(((hh.front 4 aa).front 4 aa).front 4 aa).tail.tail.tail⟩)
abbrev bS(_:Unit):Value:= .agg #[]
def jA(b:Nat)(xs:List Int):HP:=hex fun (x:Option (Nat×List Value))=>match x with
 | none=>grp [row b [.slice none 0 0] 166,pr (xs=[])]
 | some (bd,rest)=>grp [row b [.slice (some ⟨bd,0,none⟩) xs.length (xs.length+rest.length)] 166,row bd (xs.map i64++rest) 3]
theorem pM{B:World}{b:Nat}{xs:List Int}{Fr:List HP}{w:World}(h:Holds B (jA b xs::Fr) w):(xs=[]∧Holds B (row b [.slice none 0 0] 166::Fr) w)∨∃ bd rest,Holds B (row b [.slice (some ⟨bd,0,none⟩) xs.length (xs.length+rest.length)] 166::row bd (xs.map i64++rest) 3::Fr) w:=by
 obtain⟨x,hx⟩:=h.hex
 cases x with
 | none=>have h2:=hx.grp;have h3:=(h2.front 1 rfl).pr;exact .inl ⟨h3.1,h3.2⟩
 | some p=>exact .inr ⟨_,_,hx.grp⟩
theorem wc{B:World}{b:Nat}{Fr:List HP}{w:World}(h:Holds B (row b [.slice none 0 0] 166::Fr) w):Holds B (jA b []::Fr) w:=
 Holds.unhex none (Holds.ungrp (l:=[row b [.slice none 0 0] 166,pr (([]:List Int)=[])]) ((h.unpr rfl).back 1 (by simp)))
theorem m5{B:World}{b bd n c:Nat}{xs:List Int}{rest:List Value}{Fr:List HP}{w:World}(hn:n=xs.length)(hc:c=n+rest.length)(h:Holds B (row b [.slice (some ⟨bd,0,none⟩) n c] 166::row bd (xs.map i64++rest) 3::Fr) w):Holds B (jA b xs::Fr) w:=by
 subst hn;subst hc
 exact Holds.unhex (some (bd,rest)) (Holds.ungrp (l:=[row b [.slice (some ⟨bd,0,none⟩) xs.length (xs.length+rest.length)] 166,row bd (xs.map i64++rest) 3]) h)
theorem yI{B:World}{n:Nat}{D:List Deferred}{σ:Env}{b:Nat}{xs:List Int}{Fr:List HP}{K:Act→World→Prop}(h1:xs=[]→GO B n D σ (row b [.slice none 0 0] 166::Fr) K)(h2:∀ bd rest,GO B n D σ (row b [.slice (some ⟨bd,0,none⟩) xs.length (xs.length+rest.length)] 166::row bd (xs.map i64++rest) 3::Fr) K):GO B n D σ (jA b xs::Fr) K:=fun a w st=>by
 rcases pM st.holds with ⟨e,h⟩ | ⟨bd,rest,h⟩
 ·exact h1 e a w ⟨st.toStA,h⟩
 ·exact h2 bd rest a w ⟨st.toStA,h⟩
theorem yl(B:World)(H:List HP)(r:Nat):
 ∀ w,Holds B H w→Calls Tryz.prog 150 [.map (some r)].toArray w (Ret B (fun v H'=>∃ bb,v= .func (.func 193) [].toArray [ptr bb].toArray∧H'=row bb [.map (some r)] 169::H) (fun _ _=>False)):=by
 refine ap func150 aa ntmps150 aa (ac (ab (kPb (dE aa aa) aa fun b1=>(kPa aa aa (ad (ac (ab (kPv (dt aa aa) aa (kPa aa aa (ad (aB ?_)))))))))))
 exact aw results150 aa (fun w hw=>⟨_,⟨_,rfl,rfl⟩,hw⟩)
theorem wL(B:World)(Fr:List HP)(l f mr bb b2:Nat)(ml:List (Int×Unit))(r:Loop)(hrf:r.fn=f)(hrp:r.params.size=1)(hround:∀ (A1 A2:HP) (v:Int) (xs:List Int),xs.length<ml.length→∀ w,Holds B (blk l (.loop r)::A1::A2::jA b2 xs::Fr) w→RoundIn (Wd (cxF f)) 0 Tryz.prog l f ((r.params.zip [i64 v].toArray).foldl (fun tmps (t,a)=>tmps.setIfInBounds t a) r.tmps) r.assign r.body w (Ret B (fun rv H'=>rv= .bool true∧H'=blk l (.loop r)::A1::A2::jA b2 (xs++[v])::Fr) (fun _ _=>False))):
 ∀ w,Holds B (blk l (.loop r)::row bb [.map (some mr)] 169::bi .i64 bS mr ml::jA b2 []::Fr) w→Calls Tryz.prog 193 [.func (.yield l) #[] #[],ptr bb].toArray w (Ret B (fun rv H'=>∃ ks:List Int,ks.Perm (ml.map Prod.fst)∧H'=blk l (.loop r)::row bb [.map (some mr)] 169::bi .i64 bS mr ml::jA b2 ks::Fr) (fun _ _=>False)):=by
 refine ap func193 aa ntmps193 aa (ac (ab (kPv (ai isAgg169 aa aa) aa (kPb (lH runUnderlying169 aa) aa fun it=>(ad (aK (di (ι:=List (Int×Unit)) (fun d=>d.length≤ml.length) (fun d=>[(0,.func (.yield l) #[] #[]),(1,ptr bb),(5,.pointer (some ⟨it,0,none⟩))]) (fun done=>blk l (.loop r)::row bb [.map (some mr)] 169::fp .i64 bS mr it ml done::jA b2 (done.map Prod.fst)::Fr) (fun d=>ml.length - d.length) [] (Nat.zero_le _) (fun a w st=>st.to ⟨rfl,rfl,rfl,trivial⟩ id) ?_)))))))
 intro done hdone
 refine ac (ab (cP aa (mW aa) .free aa aa ?_))
 rintro _ _ ⟨bb0,vs,done',rfl,hvs,rfl,hno,hyes⟩
 refine kPv (aA aa hvs) aa (ad (ac ?_))
 refine ba aa (fun h7=> ?_) (fun h7=> ?_)
 ·obtain⟨pp,hpl,hpn,rfl⟩:=hyes h7
  refine io it fun hl hd hsub=>(aq (aK (ac (ab (kPv (lE (p0:=pp) (dn:=done) aa) aa (kPv (aA aa aa) aa (kPa aa aa (ad (ac (ab (kPm aa aa ?_)))))))))))
  refine kPm aa aa ?_
  refine fJ (f:=f) aa aa (fun w hw=>hw) (by rw[hrp];rfl) hrf (hround _ _ _ _ (by have:=im hd hsub;simp;omega)) .free aa ?_ ?_
  rotate_left
  ·rintro _ _ ⟨⟩
  rintro _ _ ⟨rfl,rfl⟩
  refine kPv (bu aa) aa (ad (ao [13,5,0,1] rfl (bE aa (rfl) (aq ?_))))
  have hle:=im hd hsub
  exact fun a w st=>⟨done++[pp],by simp;omega,by simp;omega,st.to ⟨rfl,rfl,rfl,trivial⟩ (fun hh=>by rw[List.map_append];exact hh)⟩
 ·obtain⟨rfl,hall⟩:=hno h7
  refine io it fun hl hd hsub=>(aM (fun w hh=>hh.iter_end it) (bD ?_))
  exact cJ results193 (fun w hh=>⟨_,⟨_,(List.perm_ext_iff_of_nodup hd hl).2 fun x=>⟨fun hx=>by obtain⟨p,hp,rfl⟩:=List.mem_map.1 hx;exact List.mem_map_of_mem (hsub p hp),fun hx=>by obtain⟨p,hp,rfl⟩:=List.mem_map.1 hx;exact List.mem_map_of_mem (hall p hp)⟩,rfl⟩,hh⟩)
theorem wb{xs:List Int}{v:Int}{rest:List Value}(h:0<rest.length):cY (xs.map i64++rest) (0+xs.length) [i64 v]=(xs++[v]).map i64++rest.drop 1:=by
 cases rest with
 | nil=>simp at h
 | cons a t=>simp[cY,List.set_append_right]
def ii(_:Nat)(x:Value×List Int):HP:=hex fun (o:Option (Nat×List Value))=>match o with
 | none=>pr (x.2=[]∧x.1= .slice none 0 0)
 | some (bd,rest)=>grp [row bd (x.2.map i64++rest) 3,pr (x.1= .slice (some ⟨bd,0,none⟩) x.2.length (x.2.length+rest.length))]
theorem tz{B:World}{Fr:List HP}{w:World}(h:Holds B Fr w):Holds B (ii 0 (.slice none 0 0,[])::Fr) w:=Holds.unhex none (h.unpr ⟨rfl,rfl⟩)
theorem oR{B:World}{bd n c:Nat}{xs:List Int}{rest:List Value}{Fr:List HP}{w:World}(hn:n=xs.length)(hc:c=n+rest.length)(h:Holds B (row bd (xs.map i64++rest) 3::Fr) w):Holds B (ii 0 (.slice (some ⟨bd,0,none⟩) n c,xs)::Fr) w:=by
 subst hn;subst hc
 refine Holds.unhex (some (bd,rest)) (Holds.ungrp (l:=[row bd (xs.map i64++rest) 3,pr _]) ?_)
 exact(h.unpr aa).back 1 (by simp)
theorem ji{B:World}{sv:Value}{xs:List Int}{Fr:List HP}{w:World}(h:Holds B (ii 0 (sv,xs)::Fr) w):(xs=[]∧sv= .slice none 0 0∧Holds B Fr w)∨∃ bd rest,sv= .slice (some ⟨bd,0,none⟩) xs.length (xs.length+rest.length)∧Holds B (row bd (xs.map i64++rest) 3::Fr) w:=by
 obtain⟨x,hx⟩:=h.hex
 cases x with
 | none=>have h2:=hx.pr;exact .inl ⟨h2.1.1,h2.1.2,h2.2⟩
 | some p=>have h2:=(hx.grp.front 1 rfl).pr;exact .inr ⟨_,_,h2.1,h2.2⟩
theorem zH{B:World}{b:Nat}{xs:List Int}{Fr:List HP}{w:World}(h:Holds B (jA b xs::Fr) w):∃ sv,Holds B (row b [sv] 166::ii 0 (sv,xs)::Fr) w:=by
 rcases pM h with ⟨rfl,h2⟩ | ⟨bd,rest,h2⟩
 ·exact⟨_,(tz h2).front 1 aa⟩
 ·exact⟨_,(oR (n:=xs.length) aa aa (h2.front 1 aa)).front 1 aa⟩
theorem vE{B:World}{n:Nat}{D:List Deferred}{σ:Env}{b:Nat}{xs:List Int}{Fr:List HP}{K:Act→World→Prop}(h:∀ sv,GO B n D σ (row b [sv] 166::ii 0 (sv,xs)::Fr) K):GO B n D σ (jA b xs::Fr) K:=fun a w st=>by
 obtain⟨sv,h1⟩:=zH st.holds
 exact h sv a w ⟨st.toStA,h1⟩
theorem xo(B:World)(Fr:List HP)(mr bb:Nat)(ml:List (Int×Unit))(hml:ml.length≤1000000):
 ∀ w,Holds B (row bb [.map (some mr)] 169::bi .i64 bS mr ml::Fr) w→Calls Tryz.prog 211 [.slice none 0 0,.func (.func 193) [].toArray [ptr bb].toArray].toArray w (Ret B (fun rv H'=>∃ ks:List Int,ks.Perm (ml.map Prod.fst)∧H'=ii 0 (rv,ks)::bi .i64 bS mr ml::Fr) (fun _ _=>False)):=by
 refine ew func211 aa ntmps211 aa (ac (ab (kPb (dE aa aa) aa fun b2=>(kPa aa aa (ad (ac (ac (ab (kPm aa aa (ad (aK ?_)))))))))))
 refine oc (ι:=List Int) (fun ks=>row bb [.map (some mr)] 169::bi .i64 bS mr ml::jA b2 ks::Fr) (fun ks=>ks.Perm (ml.map Prod.fst)) (fun _=>False) [] rfl call193 ?_ ?_ ?_
 ·intro l m tmps hts hkn w hh
  have hk2:=hkn 2 _ rfl
  refine(wL B (blk m (.deferred (some []))::Fr) l 211 mr bb b2 ml _ aa aa ?_ w (((((wc ((((hh.front 4 aa).front 4 aa).front 2 aa).front 4 aa)).front 0 aa).front 3 aa).front 3 aa).front 3 aa)).mono (Ret.mono ?_ ?_)
  rotate_left
  ·rintro v H' ⟨ks,hks,rfl⟩
   exact⟨ks,hks,fun w hh=>((hh.front 4 aa).front 1 aa)⟩
  ·rintro c H' ⟨⟩
  intro A1 A2 v xs hxs
  have hxs:xs.length≤1000000:=by omega
  refine gr (n:=13) (σ:=[(7,i64 v),(2,ptr b2)]) func211 (by simp[fB,hts]) (KnA.knows (by simp[KnA,fB,hts];exact(Array.getElem?_eq_some_iff.1 hk2).2)) aa ?_;refine ab ?_;refine kPa aa aa ?_;refine ad ?_;refine jW ?_;refine dh 3 aa ?_
  refine yI (fun hxe=> ?_) (fun bd rest=> ?_)
  ·subst hxe
   refine aK (ab (kPv (ai isAgg166 aa aa) aa (kPm aa aa (kPb (gk runUnderlying166 sizeOf3 zeroValue3 aa aa aa) aa fun b1=>(cP aa (go aa aa runUnderlying166 runUnderlying166 ⟨_,rfl⟩ sizeOf3 zeroValue3 aa xE aa aa (SlR.row (xs:=[i64 v]) aa aa) (by simp) (by simp)) .free aa aa ?_)))))
   rintro _ _ ⟨bn,cn,rest',hcn,hrest,rfl,rfl⟩
   refine kPs (aO sizeOf166 aa aa aa aa) aa (ad (ao [] rfl (dh 3 aa ?_)))
   exact jV fun w hh=>⟨_,⟨rfl,rfl⟩,((((((m5 (xs:=[]++[v]) (by simp) (by first | omega | (simp at*;omega)) ((hh.front 1 aa).front 3 aa)).front 2 aa).tail.front 0 aa).front 3 aa).front 3 aa).front 3 aa)⟩
  ·skip
   refine aK (ab (kPv (ai isAgg166 aa aa) aa (kPm aa aa (kPb (gk runUnderlying166 sizeOf3 zeroValue3 aa aa aa) aa fun b1=>(cP aa (iR aa aa runUnderlying166 runUnderlying166 ⟨_,rfl⟩ sizeOf3 zeroValue3 aa xE aa aa (SlR.row (xs:=[i64 v]) aa aa) (by simp) (by omega) (by simp;omega) aa) .free aa aa (fun v2 H2 hY=> ?_))))))
   revert hY
   generalize hob:Obj.loop _=ob
   intro hY
   have hY2:∃ bn c' rest',c'=xs.length+1+rest'.length∧v2= .slice (some ⟨bn,0,none⟩) (xs.length+1) c'∧∀ w,Holds B H2 w→Holds B (row b2 [.slice (some ⟨bd,0,none⟩) xs.length (xs.length+rest.length)] 166::row bn ((xs++[v]).map i64++rest') 3::blk l ob::A1::A2::blk m (.deferred (some []))::Fr) w:=by
    rcases hY with ⟨h1,rfl,rfl⟩ | ⟨h1,bn,cn,rest',h2,_,rfl,rfl⟩
    ·refine⟨bd,_,rest.drop 1,by simp at h1 ⊢;omega,rfl,fun w hh=> ?_⟩
     have h3:=hh.tail
     rw[wb (by simp at h1;omega)] at h3
     exact h3
    ·refine⟨bn,_,rest',by simpa using h2.symm,rfl,fun w hh=> ?_⟩
     have h3:=((((hh.front 1 rfl).tail).front 2 rfl).tail).front 1 rfl
     have e:(xs++[v]).map i64++rest'=((xs.map i64++rest).drop 0).take xs.length++[i64 v]++rest':=by simp
     rw[e]
     exact h3
   obtain⟨bn,c',rest',hc',rfl,hY3⟩:=hY2
   refine aM hY3 (kPs (aO sizeOf166 aa aa aa aa) aa (ad (ao [] rfl ?_)))
   subst hob
   refine dh 2 aa ?_
   exact jV fun w hh=>⟨_,⟨rfl,rfl⟩,(((((m5 (xs:=xs++[v]) (by simp) (by first | omega | (simp at*;omega)) ((hh.front 2 aa).front 2 aa)).front 0 aa).front 3 aa).front 3 aa).front 3 aa)⟩
 rotate_left
 ·rintro m x ⟨⟩
 intro m ks hks
 refine dh 3 aa (vE fun sv=>(ac (ab (kPv (ai isAgg166 aa aa) aa (kPa aa aa (ad (aB ?_)))))))
 exact fh results211 aa (.cons (i:=2) aa .nil) (fun w hh=>⟨_,⟨ks,hks,rfl⟩,(((hh.front 3 aa).front 3 aa).front 2 aa).tail.tail.tail⟩)
open Go Go.Proofs
open Go.Shelf
def Tryz.sortA_ren:Go.Shelf.Ren:=⟨fun | 5=>192 | 8=>213 | 7=>212 | 19=>227 | 20=>103 | 10=>218 | 11=>219 | 12=>220 | 13=>221 | 14=>222 | 15=>223 | 16=>224 | 17=>225 | 18=>226 | 30=>230 | 31=>231 | 32=>232 | 33=>233 | 34=>234 | 35=>235 | 40=>238 | n=>n,fun | 23=>166 | 25=>3 | 3=>3 | 32=>79 | 22=>166 | 0=>0 | 44=>116 | 46=>25 | 4=>4 | 36=>306 | 35=>305 | 41=>199 | 5=>5 | 9=>9 | 53=>312 | 57=>315 | 63=>319 | 64=>320 | n=>n,fun | n=>n⟩
theorem Tryz.sortA:Go.Proofs.SlLaysM.n5 Tryz.prog Tryz.sortA_ren:={
 mixed:=by kernel_rfl
 f5:=⟨Tryz.f192.name,by decide,Tryz.func192.trans (congrArg some (by kernel_rfl))⟩
 f7:=⟨Tryz.f212.name,by decide,Tryz.func212.trans (congrArg some (by kernel_rfl))⟩
 f8:=Tryz.func213.trans (congrArg some (by kernel_rfl))
 f10:=⟨Tryz.f218.name,by decide,Tryz.func218.trans (congrArg some (by kernel_rfl))⟩
 f11:=⟨Tryz.f219.name,by decide,Tryz.func219.trans (congrArg some (by kernel_rfl))⟩
 f12:=⟨Tryz.f220.name,by decide,Tryz.func220.trans (congrArg some (by kernel_rfl))⟩
 f13:=⟨Tryz.f221.name,by decide,Tryz.func221.trans (congrArg some (by kernel_rfl))⟩
 f14:=⟨Tryz.f222.name,by decide,Tryz.func222.trans (congrArg some (by kernel_rfl))⟩
 f15:=⟨Tryz.f223.name,by decide,Tryz.func223.trans (congrArg some (by kernel_rfl))⟩
 f16:=⟨Tryz.f224.name,by decide,Tryz.func224.trans (congrArg some (by kernel_rfl))⟩
 f17:=⟨Tryz.f225.name,by decide,Tryz.func225.trans (congrArg some (by kernel_rfl))⟩
 f18:=⟨Tryz.f226.name,by decide,Tryz.func226.trans (congrArg some (by kernel_rfl))⟩
 f19:=Tryz.func227.trans (congrArg some (by kernel_rfl))
 f20:=Tryz.func103.trans (congrArg some (by kernel_rfl))
 f30:=⟨Tryz.f230.name,by decide,Tryz.func230.trans (congrArg some (by kernel_rfl))⟩
 f31:=Tryz.func231.trans (congrArg some (by kernel_rfl))
 f32:=Tryz.func232.trans (congrArg some (by kernel_rfl))
 f33:=⟨Tryz.f233.name,by decide,Tryz.func233.trans (congrArg some (by kernel_rfl))⟩
 f34:=⟨Tryz.f234.name,by decide,Tryz.func234.trans (congrArg some (by kernel_rfl))⟩
 f35:=⟨Tryz.f235.name,by decide,Tryz.func235.trans (congrArg some (by kernel_rfl))⟩
 f40:=⟨Tryz.f238.name,by decide,Tryz.func238.trans (congrArg some (by kernel_rfl))⟩
 t0:=underlying0
 a0:=isAgg0
 z0:=sizeOf0
 v0:=zeroValue0
 t3:=underlying3
 a3:=isAgg3
 z3:=sizeOf3
 v3:=zeroValue3
 t4:=underlying4
 a4:=isAgg4
 z4:=sizeOf4
 v4:=zeroValue4
 t5:=underlying5
 a5:=isAgg5
 z5:=sizeOf5
 v5:=zeroValue5
 t9:=underlying9
 a9:=isAgg9
 z9:=sizeOf9
 v9:=zeroValue9
 t22:=underlying166
 a22:=isAgg166
 z22:=sizeOf166
 v22:=zeroValue166
 t23:=underlying166
 a23:=isAgg166
 z23:=sizeOf166
 v23:=zeroValue166
 t25:=underlying3
 a25:=isAgg3
 z25:=sizeOf3
 v25:=zeroValue3
 t32:=underlying79
 a32:=isAgg79
 z32:=sizeOf79
 v32:=zeroValue79
 t35:=underlying305
 a35:=isAgg305
 z35:=sizeOf305
 v35:=zeroValue305
 t36:=underlying306
 a36:=isAgg306
 z36:=sizeOf306
 v36:=zeroValue306
 t41:=underlying199
 a41:=isAgg199
 z41:=sizeOf199
 v41:=zeroValue199
 t44:=underlying116
 a44:=isAgg116
 z44:=sizeOf116
 v44:=zeroValue116
 t46:=underlying25
 a46:=isAgg25
 z46:=sizeOf25
 v46:=zeroValue25
 t53:=underlying312
 a53:=isAgg312
 z53:=sizeOf312
 v53:=zeroValue312
 t57:=underlying315
 a57:=isAgg315
 z57:=sizeOf315
 v57:=zeroValue315
 t63:=underlying319
 a63:=isAgg319
 z63:=sizeOf319
 v63:=zeroValue319
 t64:=underlying320
 a64:=isAgg320
 z64:=sizeOf320
 v64:=zeroValue320}
theorem Holds.grown{B:World}{H:List HP}{w:World}(h:Holds B H w)(os:Array Obj):Holds B H (Go.Sort.grow w os):=by
 refine⟨h.os,h.tape,h.output,by simp[Go.Sort.grow];have:=h.size;omega,nu (fun b o e=> ?_) h.sat⟩
 have hb:=(Array.getElem?_eq_some_iff.1 e).1
 show(w.heap++os)[b]? =_
 rw[Array.getElem?_append_left hb];exact e
theorem wy{xs ys:List Int}{rest:List Value}(h:ys.length=xs.length):Go.Sort.putCells (Value.int .i64) 0 ys.toArray (xs.map i64++rest).toArray=(ys.map i64++rest).toArray:=by
 apply Array.ext_getElem?
 intro j
 simp only[Go.Sort.putCells,Array.getElem?_mapIdx,List.getElem?_toArray]
 by_cases hj:j<xs.length
 ·rw[List.getElem?_append_left (by simpa using hj),List.getElem?_append_left (by simp;omega)]
  have hj':j<ys.length:=by omega
  simp[hj,hj']
 ·rw[List.getElem?_append_right (by simp;omega),List.getElem?_append_right (by simp;omega)]
  simp[h]
  cases e:rest[j - xs.length]? with
  | none=>rfl
  | some v=>simp;omega
theorem tQ{B:World}{bd T:Nat}{xs ys:List Int}{rest:List Value}{Fr:List HP}{w:World}(h:Holds B (row bd (xs.map i64++rest) T::Fr) w)(hl:ys.length=xs.length)(n:Nat)(os:Array Obj):
 Holds B (row bd (ys.map i64++rest) T::Fr) (Go.Sort.grow (Go.Sort.putRow (Value.int .i64) (Go.Sort.ahead w n) bd 0 ys.toArray) os):=by
 have hr:=h.read 0 rfl
 have h1:=(h.drew (w.drawn+n)).put 0 rfl (.cells (ys.map i64++rest).toArray T (0,0))
 have e:Go.Sort.putRow (Value.int .i64) (Go.Sort.ahead w n) bd 0 ys.toArray={w with drawn:=w.drawn+n,heap:=w.heap.setIfInBounds bd (.cells (ys.map i64++rest).toArray T (0,0))}:=by
  obtain⟨hlt,hg⟩:=Array.getElem?_eq_some_iff.1 hr
  simp only[Go.Sort.putRow,Go.Sort.mapBlock,Go.Sort.ahead]
  congr 1
  apply Array.ext_getElem?
  intro k
  rw[Array.getElem?_modify]
  by_cases hk:bd=k
  ·subst hk
   rw[hr]
   simp[hlt,Go.Sort.onCells,wy hl]
  ·simp[hk]
 rw[e]
 exact Holds.grown h1 os
def bT(l:List Int):List Int:=l.mergeSort fun x y=>decide (x≤y)
theorem nn{l l':List Int}(h:l.Perm l'):bT l=bT l':=by
 have tr:∀ a b c:Int,decide (a≤b)=true→decide (b≤c)=true→decide (a≤c)=true:=fun a b c h1 h2=>by simp only[decide_eq_true_eq] at*;omega
 have to:∀ a b:Int,(decide (a≤b)||decide (b≤a))=true:=fun a b=>by simp only[Bool.or_eq_true,decide_eq_true_eq];omega
 refine List.Perm.eq_of_pairwise (le:=fun a b=>decide (a≤b)=true) (fun a b _ _ h1 h2=> ?_) (List.pairwise_mergeSort tr to l) (List.pairwise_mergeSort tr to l') (((List.mergeSort_perm l _).trans h).trans (List.mergeSort_perm l' _).symm)
 simp only[decide_eq_true_eq] at h1 h2;omega
theorem rx(B:World)(Fr:List HP)(sv:Value)(xs:List Int)(hx:xs.length≤1000000):∀ w,Holds B (ii 0 (sv,xs)::Fr) w→Calls Tryz.prog 192 [sv].toArray w (Ret B (fun _ H'=>H'=ii 0 (sv,bT xs)::Fr) (fun _ _=>False)):=by
 intro w hw
 have hl:(bT xs).length=xs.length:=List.length_mergeSort ..
 rcases ji hw with ⟨rfl,rfl,h⟩ | ⟨bd,rest,rfl,h⟩
 ·have:=AnyM.slices_Sort_int_none Tryz.sortA none 0 w
  refine this.mono ?_
  rintro e w' ⟨rfl,rfl⟩
  exact⟨_,rfl,by simpa [bT] using tz h⟩
 ·have hh:Go.Sort.Holds (Value.int .i64) w bd 0 xs.toArray:=by
   intro j hj
   have hj':j<xs.length:=by simpa using hj
   have h1:=h.cell 0 rfl (0+j)
   have h2:=h.free 0 rfl (0+j)
   refine⟨h1.trans ?_,h2⟩
   rw[Nat.zero_add,List.getElem?_append_left (by simpa using hj')]
   simp[hj']
  have:=AnyM.slices_Sort_int Tryz.sortA bd 0 (xs.length+rest.length) xs w hh (h.row_lt 0 rfl) (by omega)
  refine this.mono ?_
  rintro e w' ⟨rfl,n,os,rfl⟩
  exact⟨_,rfl,oR (by rw[hl]) (by omega) (tQ h hl n os)⟩
theorem uw(B:World)(Fr:List HP)(mr bb:Nat)(ml:List (Int×Unit))(hml:ml.length≤1000000):
 ∀ w,Holds B (row bb [.map (some mr)] 169::bi .i64 bS mr ml::Fr) w→Calls Tryz.prog 191 [.func (.func 193) [].toArray [ptr bb].toArray].toArray w (Ret B (fun rv H'=>∃ ks:List Int,ks.Perm (ml.map Prod.fst)∧H'=ii 0 (rv,ks)::bi .i64 bS mr ml::Fr) (fun _ _=>False)):=by
 refine ap func191 aa ntmps191 aa (ac (ab (kPa aa aa (ad (ac (ab (kPm aa aa (aI aa (ar call211 aa) (xo _ _ mr bb ml hml) .free aa aa ?_))))))))
 rintro _ _ ⟨ks,hks,rfl⟩
 refine kPa aa aa (ad (aB ?_))
 exact aw results191 aa (fun w hw=>⟨_,⟨ks,hks,rfl⟩,hw⟩)
theorem wq(B:World)(Fr:List HP)(mr bb:Nat)(ml:List (Int×Unit))(hml:ml.length≤1000000):
 ∀ w,Holds B (row bb [.map (some mr)] 169::bi .i64 bS mr ml::Fr) w→Calls Tryz.prog 149 [.func (.func 193) [].toArray [ptr bb].toArray].toArray w (Ret B (fun rv H'=>H'=ii 0 (rv,bT (ml.map Prod.fst))::bi .i64 bS mr ml::Fr) (fun _ _=>False)):=by
 refine ap func149 aa ntmps149 aa (ac (ab (kPa aa aa (ad (ac (ab (kPm aa aa (aI aa (ar call191 aa) (uw _ _ mr bb ml hml) .free aa aa ?_))))))))
 rintro v5 _ ⟨ks,hks,rfl⟩
 have hkl:ks.length≤1000000:=by rw[hks.length_eq,List.length_map];exact hml
 refine kPa aa aa (ad (ac (ab (kPm aa aa (aI aa (ar call192 aa) (rx _ _ _ ks hkl) .free aa aa ?_)))))
 rintro _ _ rfl
 refine ad (ac (ab (kPm aa aa (kPa aa aa (ad (ao [2] rfl (aB ?_)))))))
 exact aw results149 aa (fun w hw=>⟨_,rfl,by rw[←nn hks];exact hw⟩)
end Go.Proofs.YtoakdoeajpjgkaaGreatDoor
