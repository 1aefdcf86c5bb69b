/- Part of a law's texts. Conditions: none. -/
import Derived.Test.YtipdhkmphngmoaaGreatDoorQL19Fe
import Derived.Sort.Grow
import Derived.Shelf.SortM.Plain
import Derived.Shelf.SortM.SortNone
open Go.Proofs.Tryz
set_option linter.all false
namespace Go.Proofs.YtipdhkmphngmoaaGreatDoor
open Go
theorem Az(x:Int):pK .and .u64 x 4294967295=x%4294967296:=by
 have h1:(BitVec.ofInt 64 x&&& BitVec.ofInt 64 4294967295).toNat=(x%18446744073709551616).toNat%4294967296:=by
  rw[BitVec.toNat_and,BitVec.toNat_ofInt,BitVec.toNat_ofInt]
  have:((4294967295:Int)%((2 ^ 64:Nat):Int)).toNat=2 ^ 32 - 1:=by decide
  rw[this,Nat.and_two_pow_sub_one_eq_mod]
  rfl
 show IntKind.u64.wrap ((BitVec.ofInt 64 x&&& BitVec.ofInt 64 4294967295).toNat:Int)=_
 rw[h1,fk (by omega)];omega
theorem D5{e i:Int}(h:0≤e∧e<4294967296)(h2:0≤i∧i<4294967296):pK .or .u64 (e*4294967296) i=e*4294967296+i:=by
 have h1:(BitVec.ofInt 64 (e*4294967296)||| BitVec.ofInt 64 i).toNat=e.toNat*4294967296+i.toNat:=by
  rw[BitVec.toNat_or,BitVec.toNat_ofInt,BitVec.toNat_ofInt]
  have e1:((e*4294967296)%((2 ^ 64:Nat):Int)).toNat=e.toNat<<<32:=by rw[Nat.shiftLeft_eq];omega
  have e2:(i%((2 ^ 64:Nat):Int)).toNat=i.toNat:=by omega
  rw[e1,e2, ←Nat.shiftLeft_add_eq_or_of_lt (by omega),Nat.shiftLeft_eq]
 show IntKind.u64.wrap ((BitVec.ofInt 64 (e*4294967296)||| BitVec.ofInt 64 i).toNat:Int)=_
 rw[h1,fk (by omega)];omega
theorem Dw{e:Int}(h:0≤e∧e<4294967296):IntKind.u64.wrap (e*2 ^ min (32:Int).toNat IntKind.u64.bits)=e*4294967296:=by
 have:min (32:Int).toNat IntKind.u64.bits=32:=by decide
 rw[this,show(2:Int) ^ 32=4294967296 by decide,fk (by omega)]
def gp(e i:Int):Int:=e*4294967296+(i+1)
structure bT where
 d:Nat
 c:Cfg
 epoch:Int
 n:Int
structure dR(L:bT):Prop where
 c:bx L.c
 e1:0≤L.epoch
 e2:L.epoch<4294967296
 n1:0≤L.n
 n2:L.n≤L.c.log
abbrev dm(b:Nat)(L:bT):HP:=row b [ptr L.d,i64 L.c.log,i64 L.c.roots,i64 L.c.space,w64 L.epoch,i64 L.n] 209
def Out.then{α β:Type}(m:Out α)(f:α→Dev→Out β):Out β:=match m with
 | .ok a s=>f a s
 | .off s=> .off s
@[simp] theorem aU {α β:Type} (a:α) (s:Dev) (f:α→Dev→Out β):(Out.ok a s).then f=f a s:=rfl
@[simp] theorem Ds {α β:Type} (s:Dev) (f:α→Dev→Out β):(Out.off s:Out α).then f= .off s:=rfl
def bT.append(L:bT)(s:Dev)(i:Int):Out (Int×bT):=
 if i<0∨s.n≤i then .ok (1,L) s
 else if L.n=L.c.log then .ok (3,L) s
 else
  (s.store (L.c.record L.n+1) i).then fun _ s=>(s.store (L.c.record L.n+2) (s.load i)).then fun _ s=>
  (s.flush (L.c.record L.n)).then fun _ s=>s.fence.then fun _ s=>
  (s.store (L.c.record L.n) (gp L.epoch L.n)).then fun _ s=>(s.flush (L.c.record L.n)).then fun _ s=>s.fence.then fun _ s=> .ok (0,{L with n:=L.n+1}) s
def bT.truncate(L:bT)(s:Dev):Out bT:=
 if L.n=0 then .ok L s else
  (s.store 8 ((L.epoch+1)%4294967296)).then fun _ s=>(s.flush 8).then fun _ s=>s.fence.then fun _ s=> .ok {L with epoch:=(L.epoch+1)%4294967296,n:=0} s
theorem si(B:World)(H:List HP)(e i:Int)(he:0≤e∧e<4294967296)(hi:0≤i∧i<1000000):
 ∀ w,Holds B H w→Calls Tryz.prog 157 [w64 e,i64 i].toArray w (aZ B H (w64 (gp e i))):=by
 refine ak func157 aa ntmps157 aa (ac (ab (kPa aa aa (ad (ac (ab (kPm aa aa (kPv (u5 aa aa (by decide) (Dw he)) aa (kPm aa aa (kPv (aP aa aa) aa (kPv (bY runUnderlying3 runUnderlying24 aa) aa ?_)))))))))))
 refine kPv (zY aa aa (D5 he (by omega))) aa (kPa aa aa (ad (aj [4] rfl (au ?_))))
 exact aq results157 aa (fun w hw=>⟨rfl,hw⟩)
theorem vV(B:World)(Fr:List HP)(bl:Nat)(L:bT):
 ∀ w,Holds B (dm bl L::Fr) w→Calls Tryz.prog 88 [ptr bl].toArray w (aZ B (dm bl L::Fr) (i64 L.n)):=by
 refine ak func88 aa ntmps88 aa (ac (ab (kPa aa aa (ad (ac (ab (kPf dw isAgg3 aa aa aa aa (kPa aa aa (ad (au ?_))))))))))
 exact aq results88 aa (fun w hw=>⟨rfl,hw⟩)
theorem xH(B:World)(Fr:List HP)(bl:Nat)(L:bT):
 ∀ w,Holds B (dm bl L::Fr) w→Calls Tryz.prog 267 [ptr bl].toArray w (aZ B (dm bl L::Fr) (w64 L.epoch)):=by
 refine ak func267 aa ntmps267 aa (ac (ab (kPa aa aa (ad (ac (ab (kPf je isAgg24 aa aa aa aa (kPa aa aa (ad (au ?_))))))))))
 exact aq results267 aa (fun w hw=>⟨rfl,hw⟩)
theorem kR(B:World)(Fr:List HP)(bl:Nat)(L:bT)(s:Dev)(hL:dR L):
 ∀ w,Holds B (dm bl L::ax L.d s::Fr) w→Calls Tryz.prog 147 [ptr bl].toArray w (Ret B (fun rv H'=>∃ L' s',L.truncate s= .ok L' s'∧rv= .tuple #[]∧H'=dm bl L'::ax L.d s'::Fr) (fun c H'=>∃ s',L.truncate s= .off s'∧c=dh∧H'=dm bl L::ax L.d s'::Fr)):=by
 refine ak func147 aa ntmps147 aa ?_
 have hc:=hL.c
 have hc1:=hc.r1
 have hc2:=hc.r2
 have hc3:=hc.l1
 have hc4:=hc.l2
 have hl1:=hL.e1
 have hl2:=hL.e2
 have hl3:=hL.n1
 have hl4:=hL.n2
 have hrc:16≤L.c.record L.n∧L.c.record L.n≤10000:=by simp only[Cfg.record];omega
 refine kt L.d fun hn1 hn2 hn3=>(ac (ac (ab (kPf dw isAgg3 aa aa aa aa (kPv (am aa aa aa) aa (ad ?_))))))
 refine aV aa (fun h6=> ?_) (fun h6=> ?_)
 ·try simp only[decide_eq_true_eq,decide_eq_false_iff_not,Bool.not_eq_true',Bool.not_eq_false',Bool.or_eq_true,Bool.and_eq_true,Bool.and_eq_false_iff,Bool.or_eq_false_iff,beq_iff_eq,bne_iff_ne,beq_eq_false_iff_ne,bne_eq_false_iff_eq,ge_iff_le,gt_iff_lt,ne_eq] at h6
  refine au ?_
  exact ja results147 (fun w hh=>⟨_,⟨L,s,by simp[bT.truncate, *],rfl,rfl⟩,hh⟩)
 ·try simp only[decide_eq_true_eq,decide_eq_false_iff_not,Bool.not_eq_true',Bool.not_eq_false',Bool.or_eq_true,Bool.and_eq_true,Bool.and_eq_false_iff,Bool.or_eq_false_iff,beq_iff_eq,bne_iff_ne,beq_eq_false_iff_ne,bne_eq_false_iff_eq,ge_iff_le,gt_iff_lt,ne_eq] at h6
  refine aw (ac (cH 10 Tryz.mixed (by kernel_rfl) (by kernel_rfl) ?_))
  refine kQm aa aa (kQv (aF aa) aa (kQv (aC (m:=_) cU aa aa) aa (kQv (ag isAgg53 aa aa) aa (kQm aa aa (kQv (aF aa) aa (kQv (aC (m:=_) je aa aa) aa (kQv (ag isAgg24 aa aa) aa (kQv (aP aa aa) aa (kQv (pz aa aa (Az _)) aa (bM ?_))))))))))
  refine aQ aa (ar call104 aa) (cS (fun Fr=>cI _ Fr _ _ _ _)) .free aa aa ?_ ?_
  rotate_left
  ·rintro _ _ ⟨s9,⟨hm9,rfl⟩,rfl⟩
   exact aX fun w hh=>⟨_,⟨_,by simp[bT.truncate, *],rfl,rfl⟩,hh⟩
  rintro _ _ ⟨s1,⟨e1,hm1,rfl⟩,rfl⟩
  refine ad (aj [0] rfl (ac (ab (kPf cU isAgg53 aa aa aa aa ?_))))
  refine aQ aa (ar call105 aa) (cS (fun Fr=>dJ _ Fr _ _ _)) .free aa aa ?_ ?_
  rotate_left
  ·rintro _ _ ⟨s9,⟨hm9,rfl⟩,rfl⟩
   exact aX fun w hh=>⟨_,⟨_,by simp[bT.truncate, *],rfl,rfl⟩,hh⟩
  rintro _ _ ⟨s2,⟨e2,hm2,rfl⟩,rfl⟩
  refine ad (ac (ab (kPf cU isAgg53 aa aa aa aa ?_)))
  refine aQ aa (ar call106 aa) (cS (fun Fr=>eW _ Fr _ _)) .free aa aa ?_ ?_
  rotate_left
  ·rintro _ _ ⟨s9,⟨hm9,rfl⟩,rfl⟩
   exact aX fun w hh=>⟨_,⟨_,by simp[bT.truncate, *],rfl,rfl⟩,hh⟩
  rintro _ _ ⟨s3,⟨e3,hm3,rfl⟩,rfl⟩
  refine ad (aj [0] rfl (ac (ab (kPm aa aa (kPf je isAgg24 aa aa aa aa (kPv (aP aa aa) aa (kPv (pz aa aa (Az _)) aa (kPv (aF aa) aa (kPv (aC (m:=_) je aa aa) aa (kPs (aO sizeOf24 aa aa aa aa) aa (ad ?_)))))))))))
  refine aj [0] rfl (ab (kPm aa aa (kPv (aF aa) aa (kPv (aC (m:=_) dw aa aa) aa (kPs (aO sizeOf3 aa aa aa aa) aa (ad ?_))))))
  exact cG results147 (fun w hh=>⟨_,⟨{L with epoch:=(L.epoch+1)%4294967296,n:=0},_,by simp[bT.truncate, *],rfl,rfl⟩,hh⟩)
theorem o8(B:World)(Fr:List HP)(bl:Nat)(L:bT)(s:Dev)(hL:dR L)(i:Int):
 ∀ w,Holds B (dm bl L::ax L.d s::Fr) w→Calls Tryz.prog 141 [ptr bl,i64 i].toArray w (Ret B (fun rv H'=>∃ a L' s',L.append s i= .ok (a,L') s'∧rv=i64 a∧H'=dm bl L'::ax L.d s'::Fr) (fun c H'=>∃ s',L.append s i= .off s'∧c=dh∧H'=dm bl L::ax L.d s'::Fr)):=by
 refine ak func141 aa ntmps141 aa ?_
 have hc:=hL.c
 have hc1:=hc.r1
 have hc2:=hc.r2
 have hc3:=hc.l1
 have hc4:=hc.l2
 have hl1:=hL.e1
 have hl2:=hL.e2
 have hl3:=hL.n1
 have hl4:=hL.n2
 have hrc:16≤L.c.record L.n∧L.c.record L.n≤10000:=by simp only[Cfg.record];omega
 refine kt L.d fun hn1 hn2 hn3=>(ac (ab (kPa aa aa (ad (ac (aI (ac (ab (kPm aa aa (kPv (am aa aa aa) aa (kPm aa aa ?_)))))))))))
 apply gJ (tp:=17) (t:=9) (σ1:=[(9,_),(4,_),(0,_),(1,_)]) 8 rfl (aG rfl)
 ·intro hg1
  refine ao aa (al aa) (.on aa aa (ae hg1)) aa aa (ao aa (al aa) (.on aa aa (ae hg1)) aa aa (ao aa (aF aa) (.on aa aa (ae hg1)) aa aa (ao aa (aC (m:=_) cU aa aa) (.on aa aa (ae hg1)) aa aa (ao aa (ag isAgg53 aa aa) (.on aa aa (ae hg1)) aa aa (ap aa (ar call103 aa) (bF (q:=ax) (fun Fr=>kQ _ Fr _ _)) (.on aa aa (ae hg1)) aa aa ?_)))))
  refine ao aa (am aa aa aa) (.on aa aa (ae hg1)) aa aa (kPv (aJ aa hg1 aa) aa ?_)
  exact bf aa (aG aa) (ga hg1)
 ·intro hg1
  refine ay aa (.on aa aa (ai hg1)) aa (ay aa (.on aa aa (ai hg1)) aa (ay aa (.on aa aa (ai hg1)) aa (ay aa (.on aa aa (ai hg1)) aa (ay aa (.on aa aa (ai hg1)) aa (ay aa (.on aa aa (ai hg1)) aa (ay aa (.on aa aa (ai hg1)) aa (kPv (aB aa hg1 aa) aa ?_)))))))
  exact bf aa (aG aa) (f9 hg1)
 refine kPa aa aa (ad ?_)
 refine aV aa (fun h6=> ?_) (fun h6=> ?_)
 ·try simp only[decide_eq_true_eq,decide_eq_false_iff_not,Bool.not_eq_true',Bool.not_eq_false',Bool.or_eq_true,Bool.and_eq_true,Bool.and_eq_false_iff,Bool.or_eq_false_iff,beq_iff_eq,bne_iff_ne,beq_eq_false_iff_ne,bne_eq_false_iff_eq,ge_iff_le,gt_iff_lt,ne_eq] at h6
  refine ac (ab (kPa aa aa (ad (au ?_))))
  exact aq results141 aa (fun w hh=>⟨_,⟨1,L,s,by simp[bT.append, *],rfl,rfl⟩,hh⟩)
 ·try simp only[decide_eq_true_eq,decide_eq_false_iff_not,Bool.not_eq_true',Bool.not_eq_false',Bool.or_eq_true,Bool.and_eq_true,Bool.and_eq_false_iff,Bool.or_eq_false_iff,beq_iff_eq,bne_iff_ne,beq_eq_false_iff_ne,bne_eq_false_iff_eq,ge_iff_le,gt_iff_lt,ne_eq] at h6
  refine ac (cN Tryz.mixed (by kernel_rfl) (by kernel_rfl) ?_)
  refine kQm aa aa (kQv (aF aa) aa (kQv (aC (m:=_) dw aa aa) aa (kQv (ag isAgg3 aa aa) aa (kQm aa aa (kQv (aF aa) aa (kQv (aC (m:=_) ku aa aa) aa (kQv (aC (m:=_) jN aa aa) aa (kQv (ag isAgg3 aa aa) aa (kQv (am aa aa aa) aa (kQa aa aa (bM ?_)))))))))))
  refine aj [18,4,0,1] rfl ?_
  refine aV aa (fun h18=> ?_) (fun h18=> ?_)
  ·try simp only[decide_eq_true_eq,decide_eq_false_iff_not,Bool.not_eq_true',Bool.not_eq_false',Bool.or_eq_true,Bool.and_eq_true,Bool.and_eq_false_iff,Bool.or_eq_false_iff,beq_iff_eq,bne_iff_ne,beq_eq_false_iff_ne,bne_eq_false_iff_eq,ge_iff_le,gt_iff_lt,ne_eq] at h18
   refine ac (ab (kPa aa aa (ad (au ?_))))
   exact aq results141 aa (fun w hh=>⟨_,⟨3,L,s,by simp[bT.append, *],rfl,rfl⟩,hh⟩)
  ·try simp only[decide_eq_true_eq,decide_eq_false_iff_not,Bool.not_eq_true',Bool.not_eq_false',Bool.or_eq_true,Bool.and_eq_true,Bool.and_eq_false_iff,Bool.or_eq_false_iff,beq_iff_eq,bne_iff_ne,beq_eq_false_iff_ne,bne_eq_false_iff_eq,ge_iff_le,gt_iff_lt,ne_eq] at h18
   refine aw (ac (cN Tryz.mixed (by kernel_rfl) (by kernel_rfl) ?_))
   refine kQm aa aa (kQv (aF aa) aa (kQv (aC (m:=_) ku aa aa) aa (kQv (ah isAgg39 sizeOf39 aa aa) aa ?_)))
   refine kQm aa aa (kQv (aF aa) aa (kQv (aC (m:=_) dw aa aa) aa (kQv (ag isAgg3 aa aa) aa (bj aa (ar call107 aa) (gq _ _ L.c _ (by omega) (by omega)) .free aa ?_))))
   refine kQa aa aa (bM (aj [5,4,0,1] rfl (ac (ab (kPf cU isAgg53 aa aa aa aa (kPm aa aa (kPv (aP aa aa) aa (kPm aa aa (kPv (bY runUnderlying3 runUnderlying24 aa) aa ?_)))))))))
   refine aQ aa (ar call104 aa) (cS (fun Fr=>cI _ Fr _ _ _ _)) .free aa aa ?_ ?_
   rotate_left
   ·rintro _ _ ⟨s9,⟨hm9,rfl⟩,rfl⟩
    exact aX fun w hh=>⟨_,⟨_,by simp[bT.append, *],rfl,rfl⟩,hh⟩
   rintro _ _ ⟨s1,⟨e1,hm1,rfl⟩,rfl⟩
   refine ad (aj [5,4,0,1] rfl (ac (cH 12 Tryz.mixed (by kernel_rfl) (by kernel_rfl) ?_)))
   refine kQm aa aa (kQv (aF aa) aa (kQv (aC (m:=_) cU aa aa) aa (kQv (ag isAgg53 aa aa) aa (kQm aa aa (kQv (aP aa aa) aa (kQm aa aa (kQv (aF aa) aa (kQv (aC (m:=_) cU aa aa) aa (kQv (ag isAgg53 aa aa) aa (kQm aa aa (bj aa (ar call101 aa) (bF (q:=ax) (fun Fr=>ck _ Fr _ _ _)) .free aa ?_)))))))))))
   refine bM ?_
   refine aQ aa (ar call104 aa) (cS (fun Fr=>cI _ Fr _ _ _ _)) .free aa aa ?_ ?_
   rotate_left
   ·rintro _ _ ⟨s9,⟨hm9,rfl⟩,rfl⟩
    exact aX fun w hh=>⟨_,⟨_,by simp[bT.append, *],rfl,rfl⟩,hh⟩
   rintro _ _ ⟨s2,⟨e2,hm2,rfl⟩,rfl⟩
   refine ad (aj [5,4,0] rfl (ac (ab (kPf cU isAgg53 aa aa aa aa (kPm aa aa ?_)))))
   refine aQ aa (ar call105 aa) (cS (fun Fr=>dJ _ Fr _ _ _)) .free aa aa ?_ ?_
   rotate_left
   ·rintro _ _ ⟨s9,⟨hm9,rfl⟩,rfl⟩
    exact aX fun w hh=>⟨_,⟨_,by simp[bT.append, *],rfl,rfl⟩,hh⟩
   rintro _ _ ⟨s3,⟨e3,hm3,rfl⟩,rfl⟩
   refine ad (ac (ab (kPf cU isAgg53 aa aa aa aa ?_)))
   refine aQ aa (ar call106 aa) (cS (fun Fr=>eW _ Fr _ _)) .free aa aa ?_ ?_
   rotate_left
   ·rintro _ _ ⟨s9,⟨hm9,rfl⟩,rfl⟩
    exact aX fun w hh=>⟨_,⟨_,by simp[bT.append, *],rfl,rfl⟩,hh⟩
   rintro _ _ ⟨s4,⟨e4,hm4,rfl⟩,rfl⟩
   refine ad (aj [5,4,0] rfl (ac (cH 14 Tryz.mixed (by kernel_rfl) (by kernel_rfl) ?_)))
   refine kQm aa aa (kQv (aF aa) aa (kQv (aC (m:=_) cU aa aa) aa (kQv (ag isAgg53 aa aa) aa (kQm aa aa (kQm aa aa (kQv (aF aa) aa (kQv (aC (m:=_) je aa aa) aa (kQv (ag isAgg24 aa aa) aa (kQm aa aa (kQv (aF aa) aa (kQv (aC (m:=_) dw aa aa) aa ?_)))))))))))
   refine kQv (ag isAgg3 aa aa) aa (bj aa (ar call157 aa) (si _ _ _ _ ⟨by omega,by omega⟩ ⟨by omega,by omega⟩) .free aa ?_)
   refine bM ?_
   refine aQ aa (ar call104 aa) (cS (fun Fr=>cI _ Fr _ _ _ _)) .free aa aa ?_ ?_
   rotate_left
   ·rintro _ _ ⟨s9,⟨hm9,rfl⟩,rfl⟩
    exact aX fun w hh=>⟨_,⟨_,by simp[bT.append, *],rfl,rfl⟩,hh⟩
   rintro _ _ ⟨s5,⟨e5,hm5,rfl⟩,rfl⟩
   refine ad (aj [5,4,0] rfl (ac (ab (kPf cU isAgg53 aa aa aa aa (kPm aa aa ?_)))))
   refine aQ aa (ar call105 aa) (cS (fun Fr=>dJ _ Fr _ _ _)) .free aa aa ?_ ?_
   rotate_left
   ·rintro _ _ ⟨s9,⟨hm9,rfl⟩,rfl⟩
    exact aX fun w hh=>⟨_,⟨_,by simp[bT.append, *],rfl,rfl⟩,hh⟩
   rintro _ _ ⟨s6,⟨e6,hm6,rfl⟩,rfl⟩
   refine ad (aj [4,0] rfl (ac (ab (kPf cU isAgg53 aa aa aa aa ?_))))
   refine aQ aa (ar call106 aa) (cS (fun Fr=>eW _ Fr _ _)) .free aa aa ?_ ?_
   rotate_left
   ·rintro _ _ ⟨s9,⟨hm9,rfl⟩,rfl⟩
    exact aX fun w hh=>⟨_,⟨_,by simp[bT.append, *],rfl,rfl⟩,hh⟩
   rintro _ _ ⟨s7,⟨e7,hm7,rfl⟩,rfl⟩
   refine ad (ac (ab (kPf dw isAgg3 aa aa aa aa (kPv (aP aa aa) aa (kPv (aF aa) aa (kPv (aC (m:=_) dw aa aa) aa (kPs (aO sizeOf3 aa aa aa aa) aa (ad (aj [4] rfl (ac (ab ?_)))))))))))
   refine kPa aa aa (ad (au ?_))
   exact aq results141 aa (fun w hh=>⟨_,⟨0,{L with n:=L.n+1},_,by simp[bT.append, *],rfl,rfl⟩,hh⟩)
def gK(s:Dev)(c:Cfg)(e:Int):Nat→Int→Int
 | 0,n=>n
 | f+1,n=>if s.load (c.record n)=gp e n then gK s c e f (n+1) else n
def bP(d:Nat)(c:Cfg)(s:Dev):bT:=⟨d,c,s.load 8%4294967296,gK s c (s.load 8%4294967296) c.log.toNat 0⟩
theorem sN(s:Dev)(c:Cfg)(e:Int):∀ f n,n≤gK s c e f n∧gK s c e f n≤n+f
 | 0,n=>by simp[gK]
 | f+1,n=>by
   have:=sN s c e f (n+1)
   simp only[gK];split<;>omega
theorem iE{d:Nat}{c:Cfg}{s:Dev}(h:bx c):dR (bP d c s):=by
 have:=sN s c (s.load 8%4294967296) c.log.toNat 0
 have:=h.l1;have:=h.r1
 exact⟨h,by simp only[bP];omega,by simp only[bP];omega,by simp only[bP];omega,by simp only[bP];omega⟩
theorem ki(B:World)(Fr:List HP)(bd:Nat)(s:Dev)(c:Cfg)(hc:bx c):
 ∀ w,Holds B (ax bd s::Fr) w→Calls Tryz.prog 110 [ptr bd,dU c].toArray w (Ret B (fun rv H'=>∃ bl,rv=ptr bl∧H'=dm bl (bP bd c s)::ax bd s::Fr) (fun _ _=>False)):=by
 refine ak func110 aa ntmps110 aa ?_
 have hc1:=hc.r1
 have hc2:=hc.r2
 have hc3:=hc.l1
 have hc4:=hc.l2
 refine ac (ab (kPb (aY aa) aa fun b3=>(kPa aa aa (ad (ac (cH 6 Tryz.mixed (by kernel_rfl) (by kernel_rfl) ?_))))))
 refine kQm aa aa (kQv (ah isAgg39 sizeOf39 aa aa) aa ?_)
 refine kQm aa aa (bj aa (ar call101 aa) (bF (q:=ax) (fun Fr=>ck _ Fr _ _ _)) .free aa ?_)
 refine kQv (pz aa aa (Az _)) aa ?_
 refine bg aa (aR aa (p5 _ _ _ _ _ (by first | rfl | assumption) rfl)) .free rfl ?_;refine bM ?_;refine kPb (aY aa) aa fun b12=> ?_;refine kPa aa aa ?_;refine ad ?_;refine aj [5,4,3,0] rfl ?_;refine ac ?_;refine aI ?_
 refine dF (ι:=Int) (fun n=>(0≤n∧n≤c.log)∧gK s c (s.load 8%4294967296) (c.log - n).toNat n=gK s c (s.load 8%4294967296) c.log.toNat 0) (fun _=>[(0,ptr bd),(3,ptr b3),(4,.pointer none),(5,ptr b12)]) (fun n=>row b12 [ptr bd,i64 c.log,i64 c.roots,i64 c.space,w64 (s.load 8%4294967296),i64 n] 209::row b3 [i64 c.log,i64 c.roots,i64 c.space] 39::ax bd s::Fr) (fun n=>(c.log - n).toNat) 0 ⟨⟨by omega,by omega⟩,by rw[Int.sub_zero]⟩ (fun a w st=>st.to ⟨rfl,rfl,rfl,rfl,trivial⟩ id) ?_
 rintro n ⟨⟨hn1,hn2⟩,hn3⟩
 refine ac (ac (cN Tryz.mixed (by kernel_rfl) (by kernel_rfl) ?_))
 refine kQm aa aa (kQv (aF aa) aa (kQv (aC (m:=_) dw aa aa) aa (kQv (ag isAgg3 aa aa) aa (kQv (aC (m:=_) jN aa aa) aa (kQv (ag isAgg3 aa aa) aa (kQv (am aa aa aa) aa (kQm aa aa ?_)))))))
 apply nl (tp:=39) (t:=20) (σ1:=[(20,_),(5,_),(4,_),(3,_),(0,_)]) 19 rfl (aG rfl)
 ·intro hg1
  refine bg aa (al aa) (.on aa aa (ae hg1)) aa (bg aa (ah isAgg39 sizeOf39 aa aa) (.on aa aa (ae hg1)) aa ?_)
  refine bg aa (al aa) (.on aa aa (ae hg1)) aa (bg aa (aF aa) (.on aa aa (ae hg1)) aa (bg aa (aC (m:=_) dw aa aa) (.on aa aa (ae hg1)) aa (bg aa (ag isAgg3 aa aa) (.on aa aa (ae hg1)) aa (bj aa (ar call107 aa) (gq _ _ c _ (by omega) (by omega)) (.on aa aa (ae hg1)) aa ?_))))
  refine bj aa (ar call101 aa) (bF (q:=ax) (fun Fr=>ck _ Fr _ _ _)) (.on aa aa (ae hg1)) aa ?_
  refine bg aa (al aa) (.on aa aa (ae hg1)) aa (bg aa (aF aa) (.on aa aa (ae hg1)) aa (bg aa (aC (m:=_) je aa aa) (.on aa aa (ae hg1)) aa (bg aa (ag isAgg24 aa aa) (.on aa aa (ae hg1)) aa (bg aa (al aa) (.on aa aa (ae hg1)) aa (bg aa (aF aa) (.on aa aa (ae hg1)) aa (bg aa (aC (m:=_) dw aa aa) (.on aa aa (ae hg1)) aa (bg aa (ag isAgg3 aa aa) (.on aa aa (ae hg1)) aa (bj aa (ar call157 aa) (si _ _ _ _ ⟨by omega,by omega⟩ ⟨by omega,by omega⟩) (.on aa aa (ae hg1)) aa ?_))))))))
  refine bg aa (am aa aa aa) (.on aa aa (ae hg1)) aa (kQv (aB aa hg1 aa) aa ?_)
  exact fp aa (aG aa) (dj hg1)
 ·intro hg1
  refine ba aa (.on aa aa (ai hg1)) aa (ba aa (.on aa aa (ai hg1)) aa (ba aa (.on aa aa (ai hg1)) aa (ba aa (.on aa aa (ai hg1)) aa (ba aa (.on aa aa (ai hg1)) aa (ba aa (.on aa aa (ai hg1)) aa (ba aa (.on aa aa (ai hg1)) aa (ba aa (.on aa aa (ai hg1)) aa (ba aa (.on aa aa (ai hg1)) aa (ba aa (.on aa aa (ai hg1)) aa (ba aa (.on aa aa (ai hg1)) aa (ba aa (.on aa aa (ai hg1)) aa ?_)))))))))))
  refine ba aa (.on aa aa (ai hg1)) aa (ba aa (.on aa aa (ai hg1)) aa (ba aa (.on aa aa (ai hg1)) aa (ba aa (.on aa aa (ai hg1)) aa (ba aa (.on aa aa (ai hg1)) aa (ba aa (.on aa aa (ai hg1)) aa (kQv (aJ aa hg1 aa) aa ?_))))))
  exact fp aa (aG aa) (dl hg1)
 refine bM ?_
 refine aV aa (fun h39=> ?_) (fun h39=> ?_)
 ·try simp only[decide_eq_true_eq,decide_eq_false_iff_not,Bool.not_eq_true',Bool.not_eq_false',Bool.or_eq_true,Bool.and_eq_true,Bool.and_eq_false_iff,Bool.or_eq_false_iff,beq_iff_eq,bne_iff_ne,beq_eq_false_iff_ne,bne_eq_false_iff_eq,ge_iff_le,gt_iff_lt,ne_eq] at h39
  refine aw (aI (ab (kPf dw isAgg3 aa aa aa aa (kPv (aP aa aa) aa (kPv (aF aa) aa (kPv (aC (m:=_) dw aa aa) aa (kPs (aO sizeOf3 aa aa aa aa) aa (ad (aj [5,4,3,0] rfl ?_)))))))))
  have e1:(c.log - n).toNat=(c.log - (n+1)).toNat+1:=by omega
  exact fun a w st=>⟨n+1,⟨⟨by omega,by omega⟩,by rw[e1] at hn3;simp only[gK] at hn3;rwa [if_pos h39.2] at hn3⟩,by omega,st.to ⟨rfl,rfl,rfl,rfl,trivial⟩ id⟩
 ·try simp only[decide_eq_true_eq,decide_eq_false_iff_not,Bool.not_eq_true',Bool.not_eq_false',Bool.or_eq_true,Bool.and_eq_true,Bool.and_eq_false_iff,Bool.or_eq_false_iff,beq_iff_eq,bne_iff_ne,beq_eq_false_iff_ne,bne_eq_false_iff_eq,ge_iff_le,gt_iff_lt,ne_eq] at h39
  refine bJ (ac (ab (kPm aa aa (kPa aa aa (ad (au ?_))))))
  exact aq results110 aa (fun w hh=>⟨_,⟨b12,rfl,rfl⟩,by
   have e2:gK s c (s.load 8%4294967296) c.log.toNat 0=n:=by
    rw[←hn3]
    cases e1:(c.log - n).toNat with
    | zero=>rfl
    | succ k=>simp only[gK];rw[if_neg (by rcases h39 with h | h;omega;exact h)]
   simp only[bP]
   rw[e2]
   exact(hh.front 1 aa).tail⟩)
def jY(s:Dev)(c:Cfg):Nat→Int→Int
 | 0,_=> -1
 | f+1,k=>if s.load (c.record k+1)<c.active∨(s.n:Int)≤s.load (c.record k+1) then k else jY s c f (k+1)
theorem zo(B:World)(Fr:List HP)(bl:Nat)(L:bT)(s:Dev)(hL:dR L):
 ∀ w,Holds B (dm bl L::ax L.d s::Fr) w→Calls Tryz.prog 111 [ptr bl].toArray w (aZ B (dm bl L::ax L.d s::Fr) (i64 (jY s L.c L.n.toNat 0))):=by
 refine ak func111 aa ntmps111 aa ?_
 have hc:=hL.c
 have hc1:=hc.r1
 have hc2:=hc.r2
 have hc3:=hc.l1
 have hc4:=hc.l2
 have hl1:=hL.e1
 have hl2:=hL.e2
 have hl3:=hL.n1
 have hl4:=hL.n2
 have hrc:16≤L.c.record L.n∧L.c.record L.n≤10000:=by simp only[Cfg.record];omega
 refine kt L.d fun hn1 hn2 hn3=> ?_
 have ha:=hc.act
 refine ac (ab (kPa aa aa (ad (ac (ac (ab (kPf dw isAgg3 aa aa aa aa (kPm aa aa (ad (aI (dF (ι:=Int) (fun k=>(0≤k∧k≤L.n)∧jY s L.c (L.n - k).toNat k=jY s L.c L.n.toNat 0) (fun k=>[(0,ptr bl),(2,i64 0),(8,i64 L.n),(9,i64 k)]) (fun _=>dm bl L::ax L.d s::Fr) (fun k=>(L.n - k).toNat) 0 ⟨⟨by omega,by omega⟩,by rw[Int.sub_zero]⟩ (fun a w st=>st.to ⟨rfl,rfl,rfl,rfl,trivial⟩ id) ?_)))))))))))
 rintro k ⟨⟨hk1,hk2⟩,hk3⟩
 have hrk:16≤L.c.record k∧L.c.record k≤10000:=by simp only[Cfg.record];omega
 refine ac (ab (kPv (am aa aa aa) aa (ad (ac ?_))))
 refine aV aa (fun h10=> ?_) (fun h10=> ?_)
 ·try simp only[decide_eq_true_eq,decide_eq_false_iff_not,Bool.not_eq_true',Bool.not_eq_false',Bool.or_eq_true,Bool.and_eq_true,Bool.and_eq_false_iff,Bool.or_eq_false_iff,beq_iff_eq,bne_iff_ne,beq_eq_false_iff_ne,bne_eq_false_iff_eq,ge_iff_le,gt_iff_lt,ne_eq] at h10
  refine aw (ac (aI (ac (ab (kPm aa aa (kPa aa aa (ad (ac (cN Tryz.mixed (by kernel_rfl) (by kernel_rfl) ?_)))))))))
  refine kQm aa aa (kQv (aF aa) aa (kQv (aC (m:=_) cU aa aa) aa (kQv (ag isAgg53 aa aa) aa (kQm aa aa (kQv (aF aa) aa (kQv (aC (m:=_) ku aa aa) aa (kQv (ah isAgg39 sizeOf39 aa aa) aa ?_)))))))
  refine kQm aa aa (bj aa (ar call107 aa) (gq _ _ L.c _ (by omega) (by omega)) .free aa ?_)
  refine kQv (aP aa aa) aa (bj aa (ar call101 aa) (bF (q:=ax) (fun Fr=>ck _ Fr _ _ _)) .free aa ?_)
  refine kQa aa aa (bM (aj [4,3,9,8,2,0] rfl (ac (ab (kPm aa aa (kPm aa aa (kPv (aF aa) aa (kPv (aC (m:=_) ku aa aa) aa (kPv (ah isAgg39 sizeOf39 aa aa) aa ?_)))))))))
  refine ap aa (ar call108 aa) (fS _ _ L.c hc) .free aa aa ?_
  refine kPv (bY runUnderlying3 runUnderlying24 aa) aa (kPv (am aa aa aa) aa (kPm aa aa ?_))
  apply gJ (tp:=41) (t:=32) (σ1:=[(32,_),(3,_),(9,_),(8,_),(2,_),(0,_)]) 9 rfl (aG rfl)
  ·intro hg1
   refine ao aa (al aa) (.on aa aa (ae hg1)) aa aa (ao aa (al aa) (.on aa aa (ae hg1)) aa aa (ao aa (aF aa) (.on aa aa (ae hg1)) aa aa (ao aa (aC (m:=_) cU aa aa) (.on aa aa (ae hg1)) aa aa (ao aa (ag isAgg53 aa aa) (.on aa aa (ae hg1)) aa aa (ap aa (ar call103 aa) (bF (q:=ax) (fun Fr=>kQ _ Fr _ _)) (.on aa aa (ae hg1)) aa aa ?_)))))
   refine ao aa (bY runUnderlying3 runUnderlying24 aa) (.on aa aa (ae hg1)) aa aa (ao aa (am aa aa aa) (.on aa aa (ae hg1)) aa aa (kPv (aJ aa hg1 aa) aa ?_))
   exact bf aa (aG aa) (ga hg1)
  ·intro hg1
   refine ay aa (.on aa aa (ai hg1)) aa (ay aa (.on aa aa (ai hg1)) aa (ay aa (.on aa aa (ai hg1)) aa (ay aa (.on aa aa (ai hg1)) aa (ay aa (.on aa aa (ai hg1)) aa (ay aa (.on aa aa (ai hg1)) aa (ay aa (.on aa aa (ai hg1)) aa (ay aa (.on aa aa (ai hg1)) aa (kPv (aB aa hg1 aa) aa ?_))))))))
   exact bf aa (aG aa) (f9 hg1)
  refine ad ?_
  refine aV aa (fun h41=> ?_) (fun h41=> ?_)
  ·try simp only[decide_eq_true_eq,decide_eq_false_iff_not,Bool.not_eq_true',Bool.not_eq_false',Bool.or_eq_true,Bool.and_eq_true,Bool.and_eq_false_iff,Bool.or_eq_false_iff,beq_iff_eq,bne_iff_ne,beq_eq_false_iff_ne,bne_eq_false_iff_eq,ge_iff_le,gt_iff_lt,ne_eq] at h41
   refine ac (ab (kPm aa aa (kPa aa aa (ad (au ?_)))))
   exact aq results111 aa (fun w hh=>⟨by
   have e1:(L.n - k).toNat=(L.n - (k+1)).toNat+1:=by omega
   rw[←hk3,e1];simp only[jY];rw[if_pos (by omega)],hh⟩)
  ·try simp only[decide_eq_true_eq,decide_eq_false_iff_not,Bool.not_eq_true',Bool.not_eq_false',Bool.or_eq_true,Bool.and_eq_true,Bool.and_eq_false_iff,Bool.or_eq_false_iff,beq_iff_eq,bne_iff_ne,beq_eq_false_iff_ne,bne_eq_false_iff_eq,ge_iff_le,gt_iff_lt,ne_eq] at h41
   refine aw (ab (kPv (aP aa aa) aa (kPm aa aa (ad ?_))))
   have e1:(L.n - k).toNat=(L.n - (k+1)).toNat+1:=by omega
   exact fun a w st=>⟨k+1,⟨⟨by omega,by omega⟩,by rw[e1] at hk3;simp only[jY] at hk3;rwa [if_neg (by omega)] at hk3⟩,by omega,st.to ⟨rfl,rfl,rfl,rfl,trivial⟩ id⟩
 ·try simp only[decide_eq_true_eq,decide_eq_false_iff_not,Bool.not_eq_true',Bool.not_eq_false',Bool.or_eq_true,Bool.and_eq_true,Bool.and_eq_false_iff,Bool.or_eq_false_iff,beq_iff_eq,bne_iff_ne,beq_eq_false_iff_ne,bne_eq_false_iff_eq,ge_iff_le,gt_iff_lt,ne_eq] at h10
  refine bJ (ac (ab (kPa aa aa (ad (aj [2] rfl (au ?_))))))
  exact aq results111 aa (fun w hh=>⟨by rw[←hk3,show(L.n - k).toNat=0 by omega];rfl,hh⟩)
def kZ(st:Int→Int→Dev→Out Unit)(c:Cfg):Nat→Dev→Out Unit
 | 0,s=> .ok () s
 | k+1,s=>(st (IntKind.i64.wrap (s.load (c.record k+1))) (s.load (c.record k+2)) s).then fun _ s=>kZ st c k s
def jU(i v:Int)(s:Dev):Out Unit:=(s.store i v).then fun _ s=>(s.flush i).then fun _ s=> .ok () s
def bT.undo(L:bT)(s:Dev):Out bT:=
 (kZ jU L.c L.n.toNat s).then fun _ s=>(if 0<L.n then s.fence else .ok () s).then fun _ s=>L.truncate s
theorem nt(B:World)(H:List HP)(bl:Nat):
 ∀ w,Holds B H w→Calls Tryz.prog 158 [ptr bl].toArray w (Ret B (fun v H'=>∃ bb,v= .func (.func 189) [].toArray [ptr bb].toArray∧H'=row bb [ptr bl] 141::H) (fun _ _=>False)):=by
 refine ak func158 aa ntmps158 aa (ac (ab (kPb (dA aa aa) aa fun b1=>(kPa aa aa (ad (ac (ab (kPv (c7 aa aa) aa (kPa aa aa (ad (au ?_)))))))))))
 exact aq results158 aa (fun w hw=>⟨_,⟨_,rfl,rfl⟩,hw⟩)
theorem zk(B:World)(Fr:List HP)(bl bb l f:Nat)(L:bT)(s:Dev)(hL:dR L)(r:Loop)(hrf:r.fn=f)(hrp:r.params.size=2)(st:Int→Int→Dev→Out Unit)(hround:∀ (i v:Int) (s:Dev),∀ w,Holds B (blk l (.loop r)::row bb [ptr bl] 141::dm bl L::ax L.d s::Fr) w→RoundIn (Wd (cxF f)) 0 Tryz.prog l f ((r.params.zip [i64 i,w64 v].toArray).foldl (fun tmps (t,a)=>tmps.setIfInBounds t a) r.tmps) r.assign r.body w (Ret B (fun rv H'=>∃ s',st i v s= .ok () s'∧rv= .bool true∧H'=blk l (.loop r)::row bb [ptr bl] 141::dm bl L::ax L.d s'::Fr) (fun c H'=>∃ s',st i v s= .off s'∧c=dh∧H'=row bb [ptr bl] 141::dm bl L::ax L.d s'::Fr))):
 ∀ w,Holds B (blk l (.loop r)::row bb [ptr bl] 141::dm bl L::ax L.d s::Fr) w→Calls Tryz.prog 189 [.func (.yield l) #[] #[],ptr bb].toArray w (Ret B (fun rv H'=>∃ s',kZ st L.c L.n.toNat s= .ok () s'∧H'=blk l (.loop r)::row bb [ptr bl] 141::dm bl L::ax L.d s'::Fr) (fun c H'=>∃ s',kZ st L.c L.n.toNat s= .off s'∧c=dh∧H'=row bb [ptr bl] 141::dm bl L::ax L.d s'::Fr)):=by
 refine ak func189 aa ntmps189 aa ?_
 have hc:=hL.c
 have hc1:=hc.r1
 have hc2:=hc.r2
 have hc3:=hc.l1
 have hc4:=hc.l2
 have hl1:=hL.e1
 have hl2:=hL.e2
 have hl3:=hL.n1
 have hl4:=hL.n2
 have hrc:16≤L.c.record L.n∧L.c.record L.n≤10000:=by simp only[Cfg.record];omega
 refine kt L.d fun hn1 hn2 hn3=>(ac (ab (kPv (ag isAgg141 aa aa) aa (kPv (aF aa) aa (kPl dw isAgg3 aa aa aa aa (kPv (fF aa aa) aa (kPa aa aa (ad (aI (dF (ι:=Int×Dev) (fun i=>(-1≤i.1∧i.1<L.n)∧kZ st L.c (i.1+1).toNat i.2=kZ st L.c L.n.toNat s) (fun i=>[(0,.func (.yield l) #[] #[]),(1,ptr bb),(3,i64 i.1)]) (fun i=>blk l (.loop r)::row bb [ptr bl] 141::dm bl L::ax L.d i.2::Fr) (fun i=>(i.1+1).toNat) (L.n - 1,s) ⟨⟨by simp only;omega,by simp only;omega⟩,by simp only;rw[Int.sub_add_cancel]⟩ (fun a w st=>st.to ⟨rfl,rfl,rfl,trivial⟩ id) ?_))))))))))
 rintro⟨k,s1⟩ ⟨⟨hk1,hk2⟩,hk3⟩
 simp only at hk1 hk2 hk3 ⊢
 have hrk:k<0∨16≤L.c.record k∧L.c.record k≤10000:=by simp only[Cfg.record];omega
 refine ac (ac (ab (kPm aa aa (kPv (am aa aa aa) aa (ad ?_)))))
 refine aV aa (fun h11=> ?_) (fun h11=> ?_)
 ·try simp only[decide_eq_true_eq,decide_eq_false_iff_not,Bool.not_eq_true',Bool.not_eq_false',Bool.or_eq_true,Bool.and_eq_true,Bool.and_eq_false_iff,Bool.or_eq_false_iff,beq_iff_eq,bne_iff_ne,beq_eq_false_iff_ne,bne_eq_false_iff_eq,ge_iff_le,gt_iff_lt,ne_eq] at h11
  refine aw (ac (aI (ac (ab (kPv (ag isAgg141 aa aa) aa (kPv (aF aa) aa (kPv (aC (m:=_) ku aa aa) aa (kPv (ah isAgg39 sizeOf39 aa aa) aa ?_))))))))
  refine kPm aa aa (ap aa (ar call107 aa) (gq _ _ L.c _ (by omega) (by omega)) .free aa aa ?_)
  refine kPa aa aa (ad (aj [4,3,0,1] rfl (ac (cH 16 Tryz.mixed (by kernel_rfl) (by kernel_rfl) ?_))))
  refine kQm aa aa (kQv (ag isAgg141 aa aa) aa (kQv (aF aa) aa (kQv (aC (m:=_) cU aa aa) aa (kQv (ag isAgg53 aa aa) aa (kQm aa aa (kQv (aP aa aa) aa (bj aa (ar call101 aa) (bF (q:=ax) (fun Fr=>ck _ Fr _ _ _)) .free aa ?_)))))))
  refine kQv (bY runUnderlying24 runUnderlying3 aa) aa (kQv (ag isAgg141 aa aa) aa (kQv (aF aa) aa (kQv (aC (m:=_) cU aa aa) aa (kQv (ag isAgg53 aa aa) aa (kQm aa aa (kQv (aP aa aa) aa (bj aa (ar call101 aa) (bF (q:=ax) (fun Fr=>ck _ Fr _ _ _)) .free aa ?_)))))))
  refine bM ?_
  refine fZ (f:=f) aa aa (fun w hw=>hw) (by rw[hrp];rfl) hrf (hround _ _ _) .free aa ?_ ?_
  rotate_left
  ·rintro _ _ ⟨s9,hm9,rfl,rfl⟩
   exact aX fun w hh=>⟨_,⟨s9,by rw[←hk3,show(k+1).toNat=k.toNat+1 by omega];simp only[kZ];rw[show((k.toNat:Nat):Int)=k by omega,hm9];rfl,rfl,rfl⟩,hh⟩
  rintro _ _ ⟨s2,hm2,rfl,rfl⟩
  refine kPv (bu aa) aa (ad (aj [37,3,0,1] rfl (bH aa (rfl) (aw (ab (kPm aa aa (kPv (fF aa aa) aa (kPa aa aa (ad ?_)))))))))
  exact fun a w st=>⟨(k - 1,s2),⟨⟨by simp only;omega,by simp only;omega⟩,by
   simp only
   rw[←hk3,show(k+1).toNat=k.toNat+1 by omega,show(k - 1+1).toNat=k.toNat by omega]
   simp only[kZ]
   rw[show((k.toNat:Nat):Int)=k by omega,hm2];rfl⟩,by simp only;omega,st.to ⟨rfl,rfl,rfl,trivial⟩ id⟩
 ·try simp only[decide_eq_true_eq,decide_eq_false_iff_not,Bool.not_eq_true',Bool.not_eq_false',Bool.or_eq_true,Bool.and_eq_true,Bool.and_eq_false_iff,Bool.or_eq_false_iff,beq_iff_eq,bne_iff_ne,beq_eq_false_iff_ne,bne_eq_false_iff_eq,ge_iff_le,gt_iff_lt,ne_eq] at h11
  refine bJ ?_
  exact cG results189 (fun w hh=>⟨_,⟨s1,by rw[←hk3,show(k+1).toNat=0 by omega];rfl,rfl⟩,hh⟩)
theorem o3(B:World)(Fr:List HP)(bl:Nat)(L:bT)(s:Dev)(hL:dR L):
 ∀ w,Holds B (dm bl L::ax L.d s::Fr) w→Calls Tryz.prog 113 [ptr bl].toArray w (Ret B (fun rv H'=>∃ L' s',L.undo s= .ok L' s'∧rv= .tuple #[]∧H'=dm bl L'::ax L.d s'::Fr) (fun c H'=>∃ s',L.undo s= .off s'∧c=dh∧H'=dm bl L::ax L.d s'::Fr)):=by
 refine eK func113 aa ntmps113 aa ?_
 have hc:=hL.c
 have hc1:=hc.r1
 have hc2:=hc.r2
 have hc3:=hc.l1
 have hc4:=hc.l2
 have hl1:=hL.e1
 have hl2:=hL.e2
 have hl3:=hL.n1
 have hl4:=hL.n2
 have hrc:16≤L.c.record L.n∧L.c.record L.n≤10000:=by simp only[Cfg.record];omega
 refine kt L.d fun hn1 hn2 hn3=>(ac (ab (kPb (dA aa aa) aa fun b1=>(ad (ac (ac (ab (kPv (ag isAgg141 aa aa) aa (aE aa (ar call158 aa) (nt _ _ _) .free aa aa ?_)))))))))
 rintro _ _ ⟨bb,rfl,rfl⟩
 refine ad (aI ?_)
 refine pn (ι:=Dev) (fun s'=>row bb [ptr bl] 141::dm bl L::ax L.d s'::row b1 [ptr bl] 141::Fr) (fun s'=>kZ jU L.c L.n.toNat s= .ok () s') (fun s'=>kZ jU L.c L.n.toNat s= .off s') dh aa call189 ?_ ?_ ?_
 ·intro l m tmps hts hkn w hh
  have hk1:=hkn 1 _ rfl
  refine(zk B (blk m (.deferred (some []))::row b1 [ptr bl] 141::Fr) bl bb l 113 L s hL _ aa aa jU ?_ w ((((hh.front 5 aa).front 5 aa).front 4 aa).front 3 aa)).mono (Ret.mono ?_ ?_)
  rotate_left
  ·rintro v H' ⟨s',hs',rfl⟩
   exact⟨s',hs',fun w hh=>((hh.front 4 aa).front 1 aa)⟩
  ·rintro c H' ⟨s',hs',rfl,rfl⟩
   exact⟨rfl,s',hs',fun w hh=>(hh.front 3 aa)⟩
  intro i v s
  refine gI (n:=33) (σ:=[(6,i64 i),(7,w64 v),(1,ptr b1)]) func113 (by simp[fT,hts]) (KnA.knows (by simp[KnA,fT,hts];exact(Array.getElem?_eq_some_iff.1 hk1).2)) aa ?_;refine ac ?_;refine ab ?_;refine kPa aa aa ?_;refine ad ?_;refine ab ?_;refine kPa aa aa ?_;refine ad ?_;refine kr ?_;refine aI ?_;refine ac ?_;refine ab ?_;refine kPv (ag isAgg141 aa aa) aa ?_;refine kPv (aF aa) aa ?_
  refine kPl cU isAgg53 aa aa aa aa (kPm aa aa (kPm aa aa ?_))
  refine aQ aa (ar call104 aa) (cS (fun Fr=>cI _ Fr _ _ _ _)) .free aa aa ?_ ?_
  rotate_left
  ·rintro _ _ ⟨s9,⟨hm9,rfl⟩,rfl⟩
   exact aX fun w hh=>⟨_,⟨s9,by simp[jU, *],rfl,rfl⟩,hh.tail⟩
  rintro _ _ ⟨s1,⟨e1,hm1,rfl⟩,rfl⟩
  refine ad (aj [2,1] rfl (ab (kPv (ag isAgg141 aa aa) aa (kPv (aF aa) aa (kPl cU isAgg53 aa aa aa aa (kPm aa aa ?_))))))
  refine aQ aa (ar call105 aa) (cS (fun Fr=>dJ _ Fr _ _ _)) .free aa aa ?_ ?_
  rotate_left
  ·rintro _ _ ⟨s9,⟨hm9,rfl⟩,rfl⟩
   exact aX fun w hh=>⟨_,⟨s9,by simp[jU, *],rfl,rfl⟩,hh.tail⟩
  rintro _ _ ⟨s2,⟨e2,hm2,rfl⟩,rfl⟩
  refine ad (aj [] rfl ?_)
  exact kq fun w hh=>⟨_,⟨_,by simp[jU, *],rfl,rfl⟩,hh⟩
 rotate_left
 ·intro m s1 hm1
  exact lT (.cons (i:=0) aa .nil) fun w hh=>⟨_,⟨s1,by simp[bT.undo, *],rfl,rfl⟩,(((hh.front 4 aa).front 2 aa).front 2 aa).tail.tail.tail⟩
 intro m s1 hm1
 refine ac (ac (ab (kPv (ag isAgg141 aa aa) aa (kPv (aF aa) aa (kPl dw isAgg3 aa aa aa aa (kPv (am aa aa aa) aa (ad (aj [25,1] rfl ?_))))))))
 refine aV aa (fun h25=> ?_) (fun h25=> ?_)
 ·try simp only[decide_eq_true_eq,decide_eq_false_iff_not,Bool.not_eq_true',Bool.not_eq_false',Bool.or_eq_true,Bool.and_eq_true,Bool.and_eq_false_iff,Bool.or_eq_false_iff,beq_iff_eq,bne_iff_ne,beq_eq_false_iff_ne,bne_eq_false_iff_eq,ge_iff_le,gt_iff_lt,ne_eq] at h25
  refine ab (kPv (ag isAgg141 aa aa) aa (kPv (aF aa) aa (kPl cU isAgg53 aa aa aa aa ?_)))
  refine aQ aa (ar call106 aa) (cS (fun Fr=>eW _ Fr _ _)) .free aa aa ?_ ?_
  rotate_left
  ·rintro _ _ ⟨s9,⟨hm9,rfl⟩,rfl⟩
   exact lT (.cons (i:=0) aa .nil) fun w hh=>⟨_,⟨s9,by simp[bT.undo, *],rfl,rfl⟩,(((hh.front 4 aa).front 2 aa).front 2 aa).tail.tail.tail⟩
  rintro _ _ ⟨s2,⟨e2,hm2,rfl⟩,rfl⟩
  refine ad (ab (aK (H':=dm bl L::ax L.d _::blk m (.deferred (some []))::row bb [ptr bl] 141::row b1 [ptr bl] 141::Fr) (fun w hh=>(((((hh.front 4 aa).front 2 aa).front 2 aa).front 4 aa).front 4 aa)) (kPv (ag isAgg141 aa aa) aa ?_)))
  refine aQ aa (ar call147 aa) (kR _ _ bl L _ hL) .free aa aa ?_ ?_
  rotate_left
  ·rintro _ _ ⟨s9,hm9,rfl,rfl⟩
   exact lT (.cons (i:=2) aa .nil) fun w hh=>⟨_,⟨s9,by simp[bT.undo, *],rfl,rfl⟩,(((hh.front 4 aa).front 4 aa).front 4 aa).tail.tail.tail⟩
  rintro _ _ ⟨L3,s3,hm3,rfl,rfl⟩
  refine ad (aj [] rfl ?_)
  exact lA results113 (.cons (i:=2) aa .nil) (fun w hh=>⟨_,⟨L3,s3,by simp[bT.undo, *],rfl,rfl⟩,(((hh.front 4 aa).front 4 aa).front 4 aa).tail.tail.tail⟩)
 ·try simp only[decide_eq_true_eq,decide_eq_false_iff_not,Bool.not_eq_true',Bool.not_eq_false',Bool.or_eq_true,Bool.and_eq_true,Bool.and_eq_false_iff,Bool.or_eq_false_iff,beq_iff_eq,bne_iff_ne,beq_eq_false_iff_ne,bne_eq_false_iff_eq,ge_iff_le,gt_iff_lt,ne_eq] at h25
  refine aw (ab (aK (H':=dm bl L::ax L.d _::blk m (.deferred (some []))::row bb [ptr bl] 141::row b1 [ptr bl] 141::Fr) (fun w hh=>(((((hh.front 4 aa).front 2 aa).front 2 aa).front 4 aa).front 4 aa)) (kPv (ag isAgg141 aa aa) aa ?_)))
  refine aQ aa (ar call147 aa) (kR _ _ bl L _ hL) .free aa aa ?_ ?_
  rotate_left
  ·rintro _ _ ⟨s9,hm9,rfl,rfl⟩
   exact lT (.cons (i:=2) aa .nil) fun w hh=>⟨_,⟨s9,by simp[bT.undo, *],rfl,rfl⟩,(((hh.front 4 aa).front 4 aa).front 4 aa).tail.tail.tail⟩
  rintro _ _ ⟨L3,s3,hm3,rfl,rfl⟩
  refine ad ?_
  exact lA results113 (.cons (i:=2) aa .nil) (fun w hh=>⟨_,⟨L3,s3,by simp[bT.undo, *],rfl,rfl⟩,(((hh.front 4 aa).front 4 aa).front 4 aa).tail.tail.tail⟩)
abbrev cj(_:Unit):Value:= .agg #[]
def j2(b:Nat)(xs:List Int):HP:=hex fun (x:Option (Nat×List Value))=>match x with
 | none=>grp [row b [.slice none 0 0] 59,pr (xs=[])]
 | some (bd,rest)=>grp [row b [.slice (some ⟨bd,0,none⟩) xs.length (xs.length+rest.length)] 59,row bd (xs.map i64++rest) 3]
theorem qH{B:World}{b:Nat}{xs:List Int}{Fr:List HP}{w:World}(h:Holds B (j2 b xs::Fr) w):(xs=[]∧Holds B (row b [.slice none 0 0] 59::Fr) w)∨∃ bd rest,Holds B (row b [.slice (some ⟨bd,0,none⟩) xs.length (xs.length+rest.length)] 59::row bd (xs.map i64++rest) 3::Fr) w:=by
 obtain⟨x,hx⟩:=h.hex
 cases x with
 | none=>have h2:=hx.grp;have h3:=(h2.front 1 rfl).pr;exact .inl ⟨h3.1,h3.2⟩
 | some p=>exact .inr ⟨_,_,hx.grp⟩
theorem wW{B:World}{b:Nat}{Fr:List HP}{w:World}(h:Holds B (row b [.slice none 0 0] 59::Fr) w):Holds B (j2 b []::Fr) w:=
 Holds.unhex none (Holds.ungrp (l:=[row b [.slice none 0 0] 59,pr (([]:List Int)=[])]) ((h.unpr rfl).back 1 (by simp)))
theorem nZ{B:World}{b bd n c:Nat}{xs:List Int}{rest:List Value}{Fr:List HP}{w:World}(hn:n=xs.length)(hc:c=n+rest.length)(h:Holds B (row b [.slice (some ⟨bd,0,none⟩) n c] 59::row bd (xs.map i64++rest) 3::Fr) w):Holds B (j2 b xs::Fr) w:=by
 subst hn;subst hc
 exact Holds.unhex (some (bd,rest)) (Holds.ungrp (l:=[row b [.slice (some ⟨bd,0,none⟩) xs.length (xs.length+rest.length)] 59,row bd (xs.map i64++rest) 3]) h)
theorem zI{B:World}{n:Nat}{D:List Deferred}{σ:Env}{b:Nat}{xs:List Int}{Fr:List HP}{K:Act→World→Prop}(h1:xs=[]→GO B n D σ (row b [.slice none 0 0] 59::Fr) K)(h2:∀ bd rest,GO B n D σ (row b [.slice (some ⟨bd,0,none⟩) xs.length (xs.length+rest.length)] 59::row bd (xs.map i64++rest) 3::Fr) K):GO B n D σ (j2 b xs::Fr) K:=fun a w st=>by
 rcases qH st.holds with ⟨e,h⟩ | ⟨bd,rest,h⟩
 ·exact h1 e a w ⟨st.toStA,h⟩
 ·exact h2 bd rest a w ⟨st.toStA,h⟩
theorem zh(B:World)(H:List HP)(r:Nat):
 ∀ w,Holds B H w→Calls Tryz.prog 146 [.map (some r)].toArray w (Ret B (fun v H'=>∃ bb,v= .func (.func 179) [].toArray [ptr bb].toArray∧H'=row bb [.map (some r)] 142::H) (fun _ _=>False)):=by
 refine ak func146 aa ntmps146 aa (ac (ab (kPb (dA aa aa) aa fun b1=>(kPa aa aa (ad (ac (ab (kPv (c7 aa aa) aa (kPa aa aa (ad (au ?_)))))))))))
 exact aq results146 aa (fun w hw=>⟨_,⟨_,rfl,rfl⟩,hw⟩)
theorem xB(B:World)(Fr:List HP)(l f mr bb b2:Nat)(ml:List (Int×Unit))(r:Loop)(hrf:r.fn=f)(hrp:r.params.size=1)(hround:∀ (A1 A2:HP) (v:Int) (xs:List Int),xs.length<ml.length→∀ w,Holds B (blk l (.loop r)::A1::A2::j2 b2 xs::Fr) w→RoundIn (Wd (cxF f)) 0 Tryz.prog l f ((r.params.zip [i64 v].toArray).foldl (fun tmps (t,a)=>tmps.setIfInBounds t a) r.tmps) r.assign r.body w (Ret B (fun rv H'=>rv= .bool true∧H'=blk l (.loop r)::A1::A2::j2 b2 (xs++[v])::Fr) (fun _ _=>False))):
 ∀ w,Holds B (blk l (.loop r)::row bb [.map (some mr)] 142::bB .i64 cj mr ml::j2 b2 []::Fr) w→Calls Tryz.prog 179 [.func (.yield l) #[] #[],ptr bb].toArray w (Ret B (fun rv H'=>∃ ks:List Int,ks.Perm (ml.map Prod.fst)∧H'=blk l (.loop r)::row bb [.map (some mr)] 142::bB .i64 cj mr ml::j2 b2 ks::Fr) (fun _ _=>False)):=by
 refine ak func179 aa ntmps179 aa (ac (ab (kPv (ag isAgg142 aa aa) aa (kPb (mp runUnderlying142 aa) aa fun it=>(ad (aI (dF (ι:=List (Int×Unit)) (fun d=>d.length≤ml.length) (fun d=>[(0,.func (.yield l) #[] #[]),(1,ptr bb),(5,.pointer (some ⟨it,0,none⟩))]) (fun done=>blk l (.loop r)::row bb [.map (some mr)] 142::fO .i64 cj mr it ml done::j2 b2 (done.map Prod.fst)::Fr) (fun d=>ml.length - d.length) [] (Nat.zero_le _) (fun a w st=>st.to ⟨rfl,rfl,rfl,trivial⟩ id) ?_)))))))
 intro done hdone
 refine ac (ab (cX aa (nV aa) .free aa aa ?_))
 rintro _ _ ⟨bb0,vs,done',rfl,hvs,rfl,hno,hyes⟩
 refine kPv (az aa hvs) aa (ad (ac ?_))
 refine aV aa (fun h7=> ?_) (fun h7=> ?_)
 ·obtain⟨pp,hpl,hpn,rfl⟩:=hyes h7
  refine iH it fun hl hd hsub=>(aw (aI (ac (ab (kPv (mm (p0:=pp) (dn:=done) aa) aa (kPv (az aa aa) aa (kPa aa aa (ad (ac (ab (kPm aa aa ?_)))))))))))
  refine kPm aa aa ?_
  refine fZ (f:=f) aa aa (fun w hw=>hw) (by rw[hrp];rfl) hrf (hround _ _ _ _ (by have:=iG hd hsub;simp;omega)) .free aa ?_ ?_
  rotate_left
  ·rintro _ _ ⟨⟩
  rintro _ _ ⟨rfl,rfl⟩
  refine kPv (bu aa) aa (ad (aj [13,5,0,1] rfl (bH aa (rfl) (aw ?_))))
  have hle:=iG hd hsub
  exact fun a w st=>⟨done++[pp],by simp;omega,by simp;omega,st.to ⟨rfl,rfl,rfl,trivial⟩ (fun hh=>by rw[List.map_append];exact hh)⟩
 ·obtain⟨rfl,hall⟩:=hno h7
  refine iH it fun hl hd hsub=>(aK (fun w hh=>hh.iter_end it) (bJ ?_))
  exact cG results179 (fun w hh=>⟨_,⟨_,(List.perm_ext_iff_of_nodup hd hl).2 fun x=>⟨fun hx=>by obtain⟨p,hp,rfl⟩:=List.mem_map.1 hx;exact List.mem_map_of_mem (hsub p hp),fun hx=>by obtain⟨p,hp,rfl⟩:=List.mem_map.1 hx;exact List.mem_map_of_mem (hall p hp)⟩,rfl⟩,hh⟩)
theorem wV{xs:List Int}{v:Int}{rest:List Value}(h:0<rest.length):dx (xs.map i64++rest) (0+xs.length) [i64 v]=(xs++[v]).map i64++rest.drop 1:=by
 cases rest with
 | nil=>simp at h
 | cons a t=>simp[dx,List.set_append_right]
def iC(_:Nat)(x:Value×List Int):HP:=hex fun (o:Option (Nat×List Value))=>match o with
 | none=>pr (x.2=[]∧x.1= .slice none 0 0)
 | some (bd,rest)=>grp [row bd (x.2.map i64++rest) 3,pr (x.1= .slice (some ⟨bd,0,none⟩) x.2.length (x.2.length+rest.length))]
theorem ue{B:World}{Fr:List HP}{w:World}(h:Holds B Fr w):Holds B (iC 0 (.slice none 0 0,[])::Fr) w:=Holds.unhex none (h.unpr ⟨rfl,rfl⟩)
theorem pN{B:World}{bd n c:Nat}{xs:List Int}{rest:List Value}{Fr:List HP}{w:World}(hn:n=xs.length)(hc:c=n+rest.length)(h:Holds B (row bd (xs.map i64++rest) 3::Fr) w):Holds B (iC 0 (.slice (some ⟨bd,0,none⟩) n c,xs)::Fr) w:=by
 subst hn;subst hc
 refine Holds.unhex (some (bd,rest)) (Holds.ungrp (l:=[row bd (xs.map i64++rest) 3,pr _]) ?_)
 exact(h.unpr aa).back 1 (by simp)
theorem jI{B:World}{sv:Value}{xs:List Int}{Fr:List HP}{w:World}(h:Holds B (iC 0 (sv,xs)::Fr) w):(xs=[]∧sv= .slice none 0 0∧Holds B Fr w)∨∃ bd rest,sv= .slice (some ⟨bd,0,none⟩) xs.length (xs.length+rest.length)∧Holds B (row bd (xs.map i64++rest) 3::Fr) w:=by
 obtain⟨x,hx⟩:=h.hex
 cases x with
 | none=>have h2:=hx.pr;exact .inl ⟨h2.1.1,h2.1.2,h2.2⟩
 | some p=>have h2:=(hx.grp.front 1 rfl).pr;exact .inr ⟨_,_,h2.1,h2.2⟩
theorem AC{B:World}{b:Nat}{xs:List Int}{Fr:List HP}{w:World}(h:Holds B (j2 b xs::Fr) w):∃ sv,Holds B (row b [sv] 59::iC 0 (sv,xs)::Fr) w:=by
 rcases qH h with ⟨rfl,h2⟩ | ⟨bd,rest,h2⟩
 ·exact⟨_,(ue h2).front 1 aa⟩
 ·exact⟨_,(pN (n:=xs.length) aa aa (h2.front 1 aa)).front 1 aa⟩
theorem wt{B:World}{n:Nat}{D:List Deferred}{σ:Env}{b:Nat}{xs:List Int}{Fr:List HP}{K:Act→World→Prop}(h:∀ sv,GO B n D σ (row b [sv] 59::iC 0 (sv,xs)::Fr) K):GO B n D σ (j2 b xs::Fr) K:=fun a w st=>by
 obtain⟨sv,h1⟩:=AC st.holds
 exact h sv a w ⟨st.toStA,h1⟩
theorem ye(B:World)(Fr:List HP)(mr bb:Nat)(ml:List (Int×Unit))(hml:ml.length≤1000000):
 ∀ w,Holds B (row bb [.map (some mr)] 142::bB .i64 cj mr ml::Fr) w→Calls Tryz.prog 203 [.slice none 0 0,.func (.func 179) [].toArray [ptr bb].toArray].toArray w (Ret B (fun rv H'=>∃ ks:List Int,ks.Perm (ml.map Prod.fst)∧H'=iC 0 (rv,ks)::bB .i64 cj mr ml::Fr) (fun _ _=>False)):=by
 refine eK func203 aa ntmps203 aa (ac (ab (kPb (dA aa aa) aa fun b2=>(kPa aa aa (ad (ac (ac (ab (kPm aa aa (ad (aI ?_)))))))))))
 refine pn (ι:=List Int) (fun ks=>row bb [.map (some mr)] 142::bB .i64 cj mr ml::j2 b2 ks::Fr) (fun ks=>ks.Perm (ml.map Prod.fst)) (fun _=>False) [] rfl call179 ?_ ?_ ?_
 ·intro l m tmps hts hkn w hh
  have hk2:=hkn 2 _ rfl
  refine(xB B (blk m (.deferred (some []))::Fr) l 203 mr bb b2 ml _ aa aa ?_ w (((((wW ((((hh.front 4 aa).front 4 aa).front 2 aa).front 4 aa)).front 0 aa).front 3 aa).front 3 aa).front 3 aa)).mono (Ret.mono ?_ ?_)
  rotate_left
  ·rintro v H' ⟨ks,hks,rfl⟩
   exact⟨ks,hks,fun w hh=>((hh.front 4 aa).front 1 aa)⟩
  ·rintro c H' ⟨⟩
  intro A1 A2 v xs hxs
  have hxs:xs.length≤1000000:=by omega
  refine gI (n:=13) (σ:=[(7,i64 v),(2,ptr b2)]) func203 (by simp[fT,hts]) (KnA.knows (by simp[KnA,fT,hts];exact(Array.getElem?_eq_some_iff.1 hk2).2)) aa ?_;refine ab ?_;refine kPa aa aa ?_;refine ad ?_;refine kr ?_;refine dE 3 aa ?_
  refine zI (fun hxe=> ?_) (fun bd rest=> ?_)
  ·subst hxe
   refine aI (ab (kPv (ag isAgg59 aa aa) aa (kPm aa aa (kPb (gA runUnderlying59 sizeOf3 zeroValue3 aa aa aa) aa fun b1=>(cX aa (gF aa aa runUnderlying59 runUnderlying59 ⟨_,rfl⟩ sizeOf3 zeroValue3 aa yr aa aa (SlR.row (xs:=[i64 v]) aa aa) (by simp) (by simp)) .free aa aa ?_)))))
   rintro _ _ ⟨bn,cn,rest',hcn,hrest,rfl,rfl⟩
   refine kPs (aO sizeOf59 aa aa aa aa) aa (ad (aj [] rfl (dE 3 aa ?_)))
   exact kq fun w hh=>⟨_,⟨rfl,rfl⟩,((((((nZ (xs:=[]++[v]) (by simp) (by first | omega | (simp at*;omega)) ((hh.front 1 aa).front 3 aa)).front 2 aa).tail.front 0 aa).front 3 aa).front 3 aa).front 3 aa)⟩
  ·skip
   refine aI (ab (kPv (ag isAgg59 aa aa) aa (kPm aa aa (kPb (gA runUnderlying59 sizeOf3 zeroValue3 aa aa aa) aa fun b1=>(cX aa (ji aa aa runUnderlying59 runUnderlying59 ⟨_,rfl⟩ sizeOf3 zeroValue3 aa yr aa aa (SlR.row (xs:=[i64 v]) aa aa) (by simp) (by omega) (by simp;omega) aa) .free aa aa (fun v2 H2 hY=> ?_))))))
   revert hY
   generalize hob:Obj.loop _=ob
   intro hY
   have hY2:∃ bn c' rest',c'=xs.length+1+rest'.length∧v2= .slice (some ⟨bn,0,none⟩) (xs.length+1) c'∧∀ w,Holds B H2 w→Holds B (row b2 [.slice (some ⟨bd,0,none⟩) xs.length (xs.length+rest.length)] 59::row bn ((xs++[v]).map i64++rest') 3::blk l ob::A1::A2::blk m (.deferred (some []))::Fr) w:=by
    rcases hY with ⟨h1,rfl,rfl⟩ | ⟨h1,bn,cn,rest',h2,_,rfl,rfl⟩
    ·refine⟨bd,_,rest.drop 1,by simp at h1 ⊢;omega,rfl,fun w hh=> ?_⟩
     have h3:=hh.tail
     rw[wV (by simp at h1;omega)] at h3
     exact h3
    ·refine⟨bn,_,rest',by simpa using h2.symm,rfl,fun w hh=> ?_⟩
     have h3:=((((hh.front 1 rfl).tail).front 2 rfl).tail).front 1 rfl
     have e:(xs++[v]).map i64++rest'=((xs.map i64++rest).drop 0).take xs.length++[i64 v]++rest':=by simp
     rw[e]
     exact h3
   obtain⟨bn,c',rest',hc',rfl,hY3⟩:=hY2
   refine aK hY3 (kPs (aO sizeOf59 aa aa aa aa) aa (ad (aj [] rfl ?_)))
   subst hob
   refine dE 2 aa ?_
   exact kq fun w hh=>⟨_,⟨rfl,rfl⟩,(((((nZ (xs:=xs++[v]) (by simp) (by first | omega | (simp at*;omega)) ((hh.front 2 aa).front 2 aa)).front 0 aa).front 3 aa).front 3 aa).front 3 aa)⟩
 rotate_left
 ·rintro m x ⟨⟩
 intro m ks hks
 refine dE 3 aa (wt fun sv=>(ac (ab (kPv (ag isAgg59 aa aa) aa (kPa aa aa (ad (au ?_)))))))
 exact fM results203 aa (.cons (i:=2) aa .nil) (fun w hh=>⟨_,⟨ks,hks,rfl⟩,(((hh.front 3 aa).front 3 aa).front 2 aa).tail.tail.tail⟩)
open Go Go.Proofs
open Go.Shelf
def Tryz.sortA_ren:Go.Shelf.Ren:=⟨fun | 5=>178 | 8=>205 | 7=>204 | 19=>228 | 20=>169 | 10=>219 | 11=>220 | 12=>221 | 13=>222 | 14=>223 | 15=>224 | 16=>225 | 17=>226 | 18=>227 | 30=>242 | 31=>243 | 32=>244 | 33=>245 | 34=>246 | 35=>247 | 40=>257 | n=>n,fun | 23=>59 | 25=>3 | 3=>3 | 32=>239 | 22=>59 | 0=>0 | 44=>237 | 46=>24 | 4=>4 | 36=>298 | 35=>297 | 41=>194 | 5=>5 | 9=>9 | 53=>314 | 57=>317 | 63=>330 | 64=>331 | n=>n,fun | n=>n⟩
theorem Tryz.sortA:Go.Proofs.SlLaysM.n5 Tryz.prog Tryz.sortA_ren:={
 mixed:=by kernel_rfl
 f5:=⟨Tryz.f178.name,by decide,Tryz.func178.trans (congrArg some (by kernel_rfl))⟩
 f7:=⟨Tryz.f204.name,by decide,Tryz.func204.trans (congrArg some (by kernel_rfl))⟩
 f8:=Tryz.func205.trans (congrArg some (by kernel_rfl))
 f10:=⟨Tryz.f219.name,by decide,Tryz.func219.trans (congrArg some (by kernel_rfl))⟩
 f11:=⟨Tryz.f220.name,by decide,Tryz.func220.trans (congrArg some (by kernel_rfl))⟩
 f12:=⟨Tryz.f221.name,by decide,Tryz.func221.trans (congrArg some (by kernel_rfl))⟩
 f13:=⟨Tryz.f222.name,by decide,Tryz.func222.trans (congrArg some (by kernel_rfl))⟩
 f14:=⟨Tryz.f223.name,by decide,Tryz.func223.trans (congrArg some (by kernel_rfl))⟩
 f15:=⟨Tryz.f224.name,by decide,Tryz.func224.trans (congrArg some (by kernel_rfl))⟩
 f16:=⟨Tryz.f225.name,by decide,Tryz.func225.trans (congrArg some (by kernel_rfl))⟩
 f17:=⟨Tryz.f226.name,by decide,Tryz.func226.trans (congrArg some (by kernel_rfl))⟩
 f18:=⟨Tryz.f227.name,by decide,Tryz.func227.trans (congrArg some (by kernel_rfl))⟩
 f19:=Tryz.func228.trans (congrArg some (by kernel_rfl))
 f20:=Tryz.func169.trans (congrArg some (by kernel_rfl))
 f30:=⟨Tryz.f242.name,by decide,Tryz.func242.trans (congrArg some (by kernel_rfl))⟩
 f31:=Tryz.func243.trans (congrArg some (by kernel_rfl))
 f32:=Tryz.func244.trans (congrArg some (by kernel_rfl))
 f33:=⟨Tryz.f245.name,by decide,Tryz.func245.trans (congrArg some (by kernel_rfl))⟩
 f34:=⟨Tryz.f246.name,by decide,Tryz.func246.trans (congrArg some (by kernel_rfl))⟩
 f35:=⟨Tryz.f247.name,by decide,Tryz.func247.trans (congrArg some (by kernel_rfl))⟩
 f40:=⟨Tryz.f257.name,by decide,Tryz.func257.trans (congrArg some (by kernel_rfl))⟩
 t0:=underlying0
 a0:=isAgg0
 z0:=sizeOf0
 v0:=zeroValue0
 t3:=underlying3
 a3:=isAgg3
 z3:=sizeOf3
 v3:=zeroValue3
 t4:=underlying4
 a4:=isAgg4
 z4:=sizeOf4
 v4:=zeroValue4
 t5:=underlying5
 a5:=isAgg5
 z5:=sizeOf5
 v5:=zeroValue5
 t9:=underlying9
 a9:=isAgg9
 z9:=sizeOf9
 v9:=zeroValue9
 t22:=underlying59
 a22:=isAgg59
 z22:=sizeOf59
 v22:=zeroValue59
 t23:=underlying59
 a23:=isAgg59
 z23:=sizeOf59
 v23:=zeroValue59
 t25:=underlying3
 a25:=isAgg3
 z25:=sizeOf3
 v25:=zeroValue3
 t32:=underlying239
 a32:=isAgg239
 z32:=sizeOf239
 v32:=zeroValue239
 t35:=underlying297
 a35:=isAgg297
 z35:=sizeOf297
 v35:=zeroValue297
 t36:=underlying298
 a36:=isAgg298
 z36:=sizeOf298
 v36:=zeroValue298
 t41:=underlying194
 a41:=isAgg194
 z41:=sizeOf194
 v41:=zeroValue194
 t44:=underlying237
 a44:=isAgg237
 z44:=sizeOf237
 v44:=zeroValue237
 t46:=underlying24
 a46:=isAgg24
 z46:=sizeOf24
 v46:=zeroValue24
 t53:=underlying314
 a53:=isAgg314
 z53:=sizeOf314
 v53:=zeroValue314
 t57:=underlying317
 a57:=isAgg317
 z57:=sizeOf317
 v57:=zeroValue317
 t63:=underlying330
 a63:=isAgg330
 z63:=sizeOf330
 v63:=zeroValue330
 t64:=underlying331
 a64:=isAgg331
 z64:=sizeOf331
 v64:=zeroValue331}
theorem Holds.grown{B:World}{H:List HP}{w:World}(h:Holds B H w)(os:Array Obj):Holds B H (Go.Sort.grow w os):=by
 refine⟨h.os,h.tape,h.output,by simp[Go.Sort.grow];have:=h.size;omega,oz (fun b o e=> ?_) h.sat⟩
 have hb:=(Array.getElem?_eq_some_iff.1 e).1
 show(w.heap++os)[b]? =_
 rw[Array.getElem?_append_left hb];exact e
theorem xn{xs ys:List Int}{rest:List Value}(h:ys.length=xs.length):Go.Sort.putCells (Value.int .i64) 0 ys.toArray (xs.map i64++rest).toArray=(ys.map i64++rest).toArray:=by
 apply Array.ext_getElem?
 intro j
 simp only[Go.Sort.putCells,Array.getElem?_mapIdx,List.getElem?_toArray]
 by_cases hj:j<xs.length
 ·rw[List.getElem?_append_left (by simpa using hj),List.getElem?_append_left (by simp;omega)]
  have hj':j<ys.length:=by omega
  simp[hj,hj']
 ·rw[List.getElem?_append_right (by simp;omega),List.getElem?_append_right (by simp;omega)]
  simp[h]
  cases e:rest[j - xs.length]? with
  | none=>rfl
  | some v=>simp;omega
theorem uA{B:World}{bd T:Nat}{xs ys:List Int}{rest:List Value}{Fr:List HP}{w:World}(h:Holds B (row bd (xs.map i64++rest) T::Fr) w)(hl:ys.length=xs.length)(n:Nat)(os:Array Obj):
 Holds B (row bd (ys.map i64++rest) T::Fr) (Go.Sort.grow (Go.Sort.putRow (Value.int .i64) (Go.Sort.ahead w n) bd 0 ys.toArray) os):=by
 have hr:=h.read 0 rfl
 have h1:=(h.drew (w.drawn+n)).put 0 rfl (.cells (ys.map i64++rest).toArray T (0,0))
 have e:Go.Sort.putRow (Value.int .i64) (Go.Sort.ahead w n) bd 0 ys.toArray={w with drawn:=w.drawn+n,heap:=w.heap.setIfInBounds bd (.cells (ys.map i64++rest).toArray T (0,0))}:=by
  obtain⟨hlt,hg⟩:=Array.getElem?_eq_some_iff.1 hr
  simp only[Go.Sort.putRow,Go.Sort.mapBlock,Go.Sort.ahead]
  congr 1
  apply Array.ext_getElem?
  intro k
  rw[Array.getElem?_modify]
  by_cases hk:bd=k
  ·subst hk
   rw[hr]
   simp[hlt,Go.Sort.onCells,xn hl]
  ·simp[hk]
 rw[e]
 exact Holds.grown h1 os
def cq(l:List Int):List Int:=l.mergeSort fun x y=>decide (x≤y)
theorem ou{l l':List Int}(h:l.Perm l'):cq l=cq l':=by
 have tr:∀ a b c:Int,decide (a≤b)=true→decide (b≤c)=true→decide (a≤c)=true:=fun a b c h1 h2=>by simp only[decide_eq_true_eq] at*;omega
 have to:∀ a b:Int,(decide (a≤b)||decide (b≤a))=true:=fun a b=>by simp only[Bool.or_eq_true,decide_eq_true_eq];omega
 refine List.Perm.eq_of_pairwise (le:=fun a b=>decide (a≤b)=true) (fun a b _ _ h1 h2=> ?_) (List.pairwise_mergeSort tr to l) (List.pairwise_mergeSort tr to l') (((List.mergeSort_perm l _).trans h).trans (List.mergeSort_perm l' _).symm)
 simp only[decide_eq_true_eq] at h1 h2;omega
theorem sl(B:World)(Fr:List HP)(sv:Value)(xs:List Int)(hx:xs.length≤1000000):∀ w,Holds B (iC 0 (sv,xs)::Fr) w→Calls Tryz.prog 178 [sv].toArray w (Ret B (fun _ H'=>H'=iC 0 (sv,cq xs)::Fr) (fun _ _=>False)):=by
 intro w hw
 have hl:(cq xs).length=xs.length:=List.length_mergeSort ..
 rcases jI hw with ⟨rfl,rfl,h⟩ | ⟨bd,rest,rfl,h⟩
 ·have:=AnyM.slices_Sort_int_none Tryz.sortA none 0 w
  refine this.mono ?_
  rintro e w' ⟨rfl,rfl⟩
  exact⟨_,rfl,by simpa [cq] using ue h⟩
 ·have hh:Go.Sort.Holds (Value.int .i64) w bd 0 xs.toArray:=by
   intro j hj
   have hj':j<xs.length:=by simpa using hj
   have h1:=h.cell 0 rfl (0+j)
   have h2:=h.free 0 rfl (0+j)
   refine⟨h1.trans ?_,h2⟩
   rw[Nat.zero_add,List.getElem?_append_left (by simpa using hj')]
   simp[hj']
  have:=AnyM.slices_Sort_int Tryz.sortA bd 0 (xs.length+rest.length) xs w hh (h.row_lt 0 rfl) (by omega)
  refine this.mono ?_
  rintro e w' ⟨rfl,n,os,rfl⟩
  exact⟨_,rfl,pN (by rw[hl]) (by omega) (uA h hl n os)⟩
theorem u9(B:World)(Fr:List HP)(mr bb:Nat)(ml:List (Int×Unit))(hml:ml.length≤1000000):
 ∀ w,Holds B (row bb [.map (some mr)] 142::bB .i64 cj mr ml::Fr) w→Calls Tryz.prog 177 [.func (.func 179) [].toArray [ptr bb].toArray].toArray w (Ret B (fun rv H'=>∃ ks:List Int,ks.Perm (ml.map Prod.fst)∧H'=iC 0 (rv,ks)::bB .i64 cj mr ml::Fr) (fun _ _=>False)):=by
 refine ak func177 aa ntmps177 aa (ac (ab (kPa aa aa (ad (ac (ab (kPm aa aa (aE aa (ar call203 aa) (ye _ _ mr bb ml hml) .free aa aa ?_))))))))
 rintro _ _ ⟨ks,hks,rfl⟩
 refine kPa aa aa (ad (au ?_))
 exact aq results177 aa (fun w hw=>⟨_,⟨ks,hks,rfl⟩,hw⟩)
theorem xc(B:World)(Fr:List HP)(mr bb:Nat)(ml:List (Int×Unit))(hml:ml.length≤1000000):
 ∀ w,Holds B (row bb [.map (some mr)] 142::bB .i64 cj mr ml::Fr) w→Calls Tryz.prog 145 [.func (.func 179) [].toArray [ptr bb].toArray].toArray w (Ret B (fun rv H'=>H'=iC 0 (rv,cq (ml.map Prod.fst))::bB .i64 cj mr ml::Fr) (fun _ _=>False)):=by
 refine ak func145 aa ntmps145 aa (ac (ab (kPa aa aa (ad (ac (ab (kPm aa aa (aE aa (ar call177 aa) (u9 _ _ mr bb ml hml) .free aa aa ?_))))))))
 rintro v5 _ ⟨ks,hks,rfl⟩
 have hkl:ks.length≤1000000:=by rw[hks.length_eq,List.length_map];exact hml
 refine kPa aa aa (ad (ac (ab (kPm aa aa (aE aa (ar call178 aa) (sl _ _ _ ks hkl) .free aa aa ?_)))))
 rintro _ _ rfl
 refine ad (ac (ab (kPm aa aa (kPa aa aa (ad (aj [2] rfl (au ?_)))))))
 exact aq results145 aa (fun w hw=>⟨_,rfl,by rw[←ou hks];exact hw⟩)
end Go.Proofs.YtipdhkmphngmoaaGreatDoor
