/- Part of a law's texts. Conditions: none. -/
import Derived.Test.YtoakdoeajpjgkaaGreatDoorQL18Je
import Derived.Sort.Grow
import Derived.Shelf.SortM.Plain
import Derived.Shelf.SortM.SortNone
open Go.Proofs.Tryz
set_option linter.all false
namespace Go.Proofs.YtoakdoeajpjgkaaGreatDoor
open Go
theorem AY(x:Int):p6 .and .u64 x 4294967295=x%4294967296:=by
 have h1:(BitVec.ofInt 64 x&&& BitVec.ofInt 64 4294967295).toNat=(x%18446744073709551616).toNat%4294967296:=by
  rw[BitVec.toNat_and,BitVec.toNat_ofInt,BitVec.toNat_ofInt]
  have:((4294967295:Int)%((2 ^ 64:Nat):Int)).toNat=2 ^ 32 - 1:=by decide
  rw[this,Nat.and_two_pow_sub_one_eq_mod]
  rfl
 show IntKind.u64.wrap ((BitVec.ofInt 64 x&&& BitVec.ofInt 64 4294967295).toNat:Int)=_
 rw[h1,fQ (by omega)];omega
theorem Ey{e i:Int}(h:0≤e∧e<4294967296)(h2:0≤i∧i<4294967296):p6 .or .u64 (e*4294967296) i=e*4294967296+i:=by
 have h1:(BitVec.ofInt 64 (e*4294967296)||| BitVec.ofInt 64 i).toNat=e.toNat*4294967296+i.toNat:=by
  rw[BitVec.toNat_or,BitVec.toNat_ofInt,BitVec.toNat_ofInt]
  have e1:((e*4294967296)%((2 ^ 64:Nat):Int)).toNat=e.toNat<<<32:=by rw[Nat.shiftLeft_eq];omega
  have e2:(i%((2 ^ 64:Nat):Int)).toNat=i.toNat:=by omega
  rw[e1,e2, ←Nat.shiftLeft_add_eq_or_of_lt (by omega),Nat.shiftLeft_eq]
 show IntKind.u64.wrap ((BitVec.ofInt 64 (e*4294967296)||| BitVec.ofInt 64 i).toNat:Int)=_
 rw[h1,fQ (by omega)];omega
theorem D0{e:Int}(h:0≤e∧e<4294967296):IntKind.u64.wrap (e*2 ^ min (32:Int).toNat IntKind.u64.bits)=e*4294967296:=by
 have:min (32:Int).toNat IntKind.u64.bits=32:=by decide
 rw[this,show(2:Int) ^ 32=4294967296 by decide,fQ (by omega)]
def gr(e i:Int):Int:=e*4294967296+(i+1)
structure bM where
 d:Nat
 c:Cfg
 epoch:Int
 n:Int
structure dK(L:bM):Prop where
 c:bA L.c
 e1:0≤L.epoch
 e2:L.epoch<4294967296
 n1:0≤L.n
 n2:L.n≤L.c.log
abbrev c6(b:Nat)(L:bM):HP:=row b [ptr L.d,i64 L.c.log,i64 L.c.roots,i64 L.c.space,w64 L.epoch,i64 L.n] 228
def Out.then{α β:Type}(m:Out α)(f:α→Dev→Out β):Out β:=match m with
 | .ok a s=>f a s
 | .off s=> .off s
@[simp] theorem aR {α β:Type} (a:α) (s:Dev) (f:α→Dev→Out β):(Out.ok a s).then f=f a s:=rfl
@[simp] theorem DY {α β:Type} (s:Dev) (f:α→Dev→Out β):(Out.off s:Out α).then f= .off s:=rfl
def bM.append(L:bM)(s:Dev)(i:Int):Out (Int×bM):=
 if i<0∨s.n≤i then .ok (1,L) s
 else if L.n=L.c.log then .ok (3,L) s
 else
  (s.store (L.c.record L.n+1) i).then fun _ s=>(s.store (L.c.record L.n+2) (s.load i)).then fun _ s=>
  (s.flush (L.c.record L.n)).then fun _ s=>s.fence.then fun _ s=>
  (s.store (L.c.record L.n) (gr L.epoch L.n)).then fun _ s=>(s.flush (L.c.record L.n)).then fun _ s=>s.fence.then fun _ s=> .ok (0,{L with n:=L.n+1}) s
def bM.truncate(L:bM)(s:Dev):Out bM:=
 if L.n=0 then .ok L s else
  (s.store 8 ((L.epoch+1)%4294967296)).then fun _ s=>(s.flush 8).then fun _ s=>s.fence.then fun _ s=> .ok {L with epoch:=(L.epoch+1)%4294967296,n:=0} s
theorem sV(B:World)(H:List HP)(e i:Int)(he:0≤e∧e<4294967296)(hi:0≤i∧i<1000000):
 ∀ w,Holds B H w→Calls Tryz.prog 177 [w64 e,i64 i].toArray w (aZ B H (w64 (gr e i))):=by
 refine an func177 aa ntmps177 aa (ac (ab (kPa aa aa (ad (ac (ab (kPm aa aa (kPv (vD aa aa (by decide) (D0 he)) aa (kPm aa aa (kPv (aN aa aa) aa (kPv (bR runUnderlying3 runUnderlying25 aa) aa ?_)))))))))))
 refine kPv (Ao aa aa (Ey he (by omega))) aa (kPa aa aa (ad (am [4] rfl (az ?_))))
 exact aq results177 aa (fun w hw=>⟨rfl,hw⟩)
theorem wC(B:World)(Fr:List HP)(bl:Nat)(L:bM):
 ∀ w,Holds B (c6 bl L::Fr) w→Calls Tryz.prog 93 [ptr bl].toArray w (aZ B (c6 bl L::Fr) (i64 L.n)):=by
 refine an func93 aa ntmps93 aa (ac (ab (kPa aa aa (ad (ac (ab (kPf da isAgg3 aa aa aa aa (kPa aa aa (ad (az ?_))))))))))
 exact aq results93 aa (fun w hw=>⟨rfl,hw⟩)
theorem xU(B:World)(Fr:List HP)(bl:Nat)(L:bM):
 ∀ w,Holds B (c6 bl L::Fr) w→Calls Tryz.prog 243 [ptr bl].toArray w (aZ B (c6 bl L::Fr) (w64 L.epoch)):=by
 refine an func243 aa ntmps243 aa (ac (ab (kPa aa aa (ad (ac (ab (kPf ja isAgg25 aa aa aa aa (kPa aa aa (ad (az ?_))))))))))
 exact aq results243 aa (fun w hw=>⟨rfl,hw⟩)
theorem kK(B:World)(Fr:List HP)(bl:Nat)(L:bM)(s:Dev)(hL:dK L):
 ∀ w,Holds B (c6 bl L::aB L.d s::Fr) w→Calls Tryz.prog 153 [ptr bl].toArray w (Ret B (fun rv H'=>∃ L' s',L.truncate s= .ok L' s'∧rv= .tuple #[]∧H'=c6 bl L'::aB L.d s'::Fr) (fun c H'=>∃ s',L.truncate s= .off s'∧c=dV∧H'=c6 bl L::aB L.d s'::Fr)):=by
 refine an func153 aa ntmps153 aa ?_
 have hc:=hL.c
 have hc1:=hc.r1
 have hc2:=hc.r2
 have hc3:=hc.l1
 have hc4:=hc.l2
 have hl1:=hL.e1
 have hl2:=hL.e2
 have hl3:=hL.n1
 have hl4:=hL.n2
 have hrc:16≤L.c.record L.n∧L.c.record L.n≤10000:=by simp only[Cfg.record];omega
 refine k9 L.d fun hn1 hn2 hn3=>(ac (ac (ab (kPf da isAgg3 aa aa aa aa (kPv (ao aa aa aa) aa (ad ?_))))))
 refine a8 aa (fun h6=> ?_) (fun h6=> ?_)
 ·try simp only[decide_eq_true_eq,decide_eq_false_iff_not,Bool.not_eq_true',Bool.not_eq_false',Bool.or_eq_true,Bool.and_eq_true,Bool.and_eq_false_iff,Bool.or_eq_false_iff,beq_iff_eq,bne_iff_ne,beq_eq_false_iff_ne,bne_eq_false_iff_eq,ge_iff_le,gt_iff_lt,ne_eq] at h6
  refine az ?_
  exact iX results153 (fun w hh=>⟨_,⟨L,s,by simp[bM.truncate, *],rfl,rfl⟩,hh⟩)
 ·try simp only[decide_eq_true_eq,decide_eq_false_iff_not,Bool.not_eq_true',Bool.not_eq_false',Bool.or_eq_true,Bool.and_eq_true,Bool.and_eq_false_iff,Bool.or_eq_false_iff,beq_iff_eq,bne_iff_ne,beq_eq_false_iff_ne,bne_eq_false_iff_eq,ge_iff_le,gt_iff_lt,ne_eq] at h6
  refine ar (ac (cQ 10 Tryz.mixed (by kernel_rfl) (by kernel_rfl) ?_))
  refine kQm aa aa (kQv (aI aa) aa (kQv (aD (m:=_) cL aa aa) aa (kQv (ah isAgg90 aa aa) aa (kQm aa aa (kQv (aI aa) aa (kQv (aD (m:=_) ja aa aa) aa (kQv (ah isAgg25 aa aa) aa (kQv (aN aa aa) aa (kQv (r7 aa aa (AY _)) aa (bY ?_))))))))))
  refine aU aa (au call145 aa) (cF (fun Fr=>cA _ Fr _ _ _ _)) .free aa aa ?_ ?_
  rotate_left
  ·rintro _ _ ⟨s9,⟨hm9,rfl⟩,rfl⟩
   exact bi fun w hh=>⟨_,⟨_,by simp[bM.truncate, *],rfl,rfl⟩,hh⟩
  rintro _ _ ⟨s1,⟨e1,hm1,rfl⟩,rfl⟩
  refine ad (am [0] rfl (ac (ab (kPf cL isAgg90 aa aa aa aa ?_))))
  refine aU aa (au call151 aa) (cF (fun Fr=>dB _ Fr _ _ _)) .free aa aa ?_ ?_
  rotate_left
  ·rintro _ _ ⟨s9,⟨hm9,rfl⟩,rfl⟩
   exact bi fun w hh=>⟨_,⟨_,by simp[bM.truncate, *],rfl,rfl⟩,hh⟩
  rintro _ _ ⟨s2,⟨e2,hm2,rfl⟩,rfl⟩
  refine ad (ac (ab (kPf cL isAgg90 aa aa aa aa ?_)))
  refine aU aa (au call152 aa) (cF (fun Fr=>eR _ Fr _ _)) .free aa aa ?_ ?_
  rotate_left
  ·rintro _ _ ⟨s9,⟨hm9,rfl⟩,rfl⟩
   exact bi fun w hh=>⟨_,⟨_,by simp[bM.truncate, *],rfl,rfl⟩,hh⟩
  rintro _ _ ⟨s3,⟨e3,hm3,rfl⟩,rfl⟩
  refine ad (am [0] rfl (ac (ab (kPm aa aa (kPf ja isAgg25 aa aa aa aa (kPv (aN aa aa) aa (kPv (r7 aa aa (AY _)) aa (kPv (aI aa) aa (kPv (aD (m:=_) ja aa aa) aa (kPs (aO sizeOf25 aa aa aa aa) aa (ad ?_)))))))))))
  refine am [0] rfl (ab (kPm aa aa (kPv (aI aa) aa (kPv (aD (m:=_) da aa aa) aa (kPs (aO sizeOf3 aa aa aa aa) aa (ad ?_))))))
  exact cI results153 (fun w hh=>⟨_,⟨{L with epoch:=(L.epoch+1)%4294967296,n:=0},_,by simp[bM.truncate, *],rfl,rfl⟩,hh⟩)
theorem oU(B:World)(Fr:List HP)(bl:Nat)(L:bM)(s:Dev)(hL:dK L)(i:Int):
 ∀ w,Holds B (c6 bl L::aB L.d s::Fr) w→Calls Tryz.prog 144 [ptr bl,i64 i].toArray w (Ret B (fun rv H'=>∃ a L' s',L.append s i= .ok (a,L') s'∧rv=i64 a∧H'=c6 bl L'::aB L.d s'::Fr) (fun c H'=>∃ s',L.append s i= .off s'∧c=dV∧H'=c6 bl L::aB L.d s'::Fr)):=by
 refine an func144 aa ntmps144 aa ?_
 have hc:=hL.c
 have hc1:=hc.r1
 have hc2:=hc.r2
 have hc3:=hc.l1
 have hc4:=hc.l2
 have hl1:=hL.e1
 have hl2:=hL.e2
 have hl3:=hL.n1
 have hl4:=hL.n2
 have hrc:16≤L.c.record L.n∧L.c.record L.n≤10000:=by simp only[Cfg.record];omega
 refine k9 L.d fun hn1 hn2 hn3=>(ac (ab (kPa aa aa (ad (ac (aG (ac (ab (kPm aa aa (kPv (ao aa aa aa) aa (kPm aa aa ?_)))))))))))
 apply gP (tp:=17) (t:=9) (σ1:=[(9,_),(4,_),(0,_),(1,_)]) 8 rfl (aE rfl)
 ·intro hg1
  refine al aa (ak aa) (.on aa aa (ae hg1)) aa aa (al aa (ak aa) (.on aa aa (ae hg1)) aa aa (al aa (aI aa) (.on aa aa (ae hg1)) aa aa (al aa (aD (m:=_) cL aa aa) (.on aa aa (ae hg1)) aa aa (al aa (ah isAgg90 aa aa) (.on aa aa (ae hg1)) aa aa (aw aa (au call143 aa) (bI (q:=aB) (fun Fr=>kJ _ Fr _ _)) (.on aa aa (ae hg1)) aa aa ?_)))))
  refine al aa (ao aa aa aa) (.on aa aa (ae hg1)) aa aa (kPv (aJ aa hg1 aa) aa ?_)
  exact aY aa (aE aa) (gg hg1)
 ·intro hg1
  refine ap aa (.on aa aa (ai hg1)) aa (ap aa (.on aa aa (ai hg1)) aa (ap aa (.on aa aa (ai hg1)) aa (ap aa (.on aa aa (ai hg1)) aa (ap aa (.on aa aa (ai hg1)) aa (ap aa (.on aa aa (ai hg1)) aa (ap aa (.on aa aa (ai hg1)) aa (kPv (ay aa hg1 aa) aa ?_)))))))
  exact aY aa (aE aa) (ge hg1)
 refine kPa aa aa (ad ?_)
 refine a8 aa (fun h6=> ?_) (fun h6=> ?_)
 ·try simp only[decide_eq_true_eq,decide_eq_false_iff_not,Bool.not_eq_true',Bool.not_eq_false',Bool.or_eq_true,Bool.and_eq_true,Bool.and_eq_false_iff,Bool.or_eq_false_iff,beq_iff_eq,bne_iff_ne,beq_eq_false_iff_ne,bne_eq_false_iff_eq,ge_iff_le,gt_iff_lt,ne_eq] at h6
  refine ac (ab (kPa aa aa (ad (az ?_))))
  exact aq results144 aa (fun w hh=>⟨_,⟨1,L,s,by simp[bM.append, *],rfl,rfl⟩,hh⟩)
 ·try simp only[decide_eq_true_eq,decide_eq_false_iff_not,Bool.not_eq_true',Bool.not_eq_false',Bool.or_eq_true,Bool.and_eq_true,Bool.and_eq_false_iff,Bool.or_eq_false_iff,beq_iff_eq,bne_iff_ne,beq_eq_false_iff_ne,bne_eq_false_iff_eq,ge_iff_le,gt_iff_lt,ne_eq] at h6
  refine ac (cV Tryz.mixed (by kernel_rfl) (by kernel_rfl) ?_)
  refine kQm aa aa (kQv (aI aa) aa (kQv (aD (m:=_) da aa aa) aa (kQv (ah isAgg3 aa aa) aa (kQm aa aa (kQv (aI aa) aa (kQv (aD (m:=_) kl aa aa) aa (kQv (aD (m:=_) iu aa aa) aa (kQv (ah isAgg3 aa aa) aa (kQv (ao aa aa aa) aa (kQa aa aa (bY ?_)))))))))))
  refine am [18,4,0,1] rfl ?_
  refine a8 aa (fun h18=> ?_) (fun h18=> ?_)
  ·try simp only[decide_eq_true_eq,decide_eq_false_iff_not,Bool.not_eq_true',Bool.not_eq_false',Bool.or_eq_true,Bool.and_eq_true,Bool.and_eq_false_iff,Bool.or_eq_false_iff,beq_iff_eq,bne_iff_ne,beq_eq_false_iff_ne,bne_eq_false_iff_eq,ge_iff_le,gt_iff_lt,ne_eq] at h18
   refine ac (ab (kPa aa aa (ad (az ?_))))
   exact aq results144 aa (fun w hh=>⟨_,⟨3,L,s,by simp[bM.append, *],rfl,rfl⟩,hh⟩)
  ·try simp only[decide_eq_true_eq,decide_eq_false_iff_not,Bool.not_eq_true',Bool.not_eq_false',Bool.or_eq_true,Bool.and_eq_true,Bool.and_eq_false_iff,Bool.or_eq_false_iff,beq_iff_eq,bne_iff_ne,beq_eq_false_iff_ne,bne_eq_false_iff_eq,ge_iff_le,gt_iff_lt,ne_eq] at h18
   refine ar (ac (cV Tryz.mixed (by kernel_rfl) (by kernel_rfl) ?_))
   refine kQm aa aa (kQv (aI aa) aa (kQv (aD (m:=_) kl aa aa) aa (kQv (ag isAgg134 sizeOf134 aa aa) aa ?_)))
   refine kQm aa aa (kQv (aI aa) aa (kQv (aD (m:=_) da aa aa) aa (kQv (ah isAgg3 aa aa) aa (bG aa (au call176 aa) (gt _ _ L.c _ (by omega) (by omega)) .free aa ?_))))
   refine kQa aa aa (bY (am [5,4,0,1] rfl (ac (ab (kPf cL isAgg90 aa aa aa aa (kPm aa aa (kPv (aN aa aa) aa (kPm aa aa (kPv (bR runUnderlying3 runUnderlying25 aa) aa ?_)))))))))
   refine aU aa (au call145 aa) (cF (fun Fr=>cA _ Fr _ _ _ _)) .free aa aa ?_ ?_
   rotate_left
   ·rintro _ _ ⟨s9,⟨hm9,rfl⟩,rfl⟩
    exact bi fun w hh=>⟨_,⟨_,by simp[bM.append, *],rfl,rfl⟩,hh⟩
   rintro _ _ ⟨s1,⟨e1,hm1,rfl⟩,rfl⟩
   refine ad (am [5,4,0,1] rfl (ac (cQ 12 Tryz.mixed (by kernel_rfl) (by kernel_rfl) ?_)))
   refine kQm aa aa (kQv (aI aa) aa (kQv (aD (m:=_) cL aa aa) aa (kQv (ah isAgg90 aa aa) aa (kQm aa aa (kQv (aN aa aa) aa (kQm aa aa (kQv (aI aa) aa (kQv (aD (m:=_) cL aa aa) aa (kQv (ah isAgg90 aa aa) aa (kQm aa aa (bG aa (au call173 aa) (bI (q:=aB) (fun Fr=>cq _ Fr _ _ _)) .free aa ?_)))))))))))
   refine bY ?_
   refine aU aa (au call145 aa) (cF (fun Fr=>cA _ Fr _ _ _ _)) .free aa aa ?_ ?_
   rotate_left
   ·rintro _ _ ⟨s9,⟨hm9,rfl⟩,rfl⟩
    exact bi fun w hh=>⟨_,⟨_,by simp[bM.append, *],rfl,rfl⟩,hh⟩
   rintro _ _ ⟨s2,⟨e2,hm2,rfl⟩,rfl⟩
   refine ad (am [5,4,0] rfl (ac (ab (kPf cL isAgg90 aa aa aa aa (kPm aa aa ?_)))))
   refine aU aa (au call151 aa) (cF (fun Fr=>dB _ Fr _ _ _)) .free aa aa ?_ ?_
   rotate_left
   ·rintro _ _ ⟨s9,⟨hm9,rfl⟩,rfl⟩
    exact bi fun w hh=>⟨_,⟨_,by simp[bM.append, *],rfl,rfl⟩,hh⟩
   rintro _ _ ⟨s3,⟨e3,hm3,rfl⟩,rfl⟩
   refine ad (ac (ab (kPf cL isAgg90 aa aa aa aa ?_)))
   refine aU aa (au call152 aa) (cF (fun Fr=>eR _ Fr _ _)) .free aa aa ?_ ?_
   rotate_left
   ·rintro _ _ ⟨s9,⟨hm9,rfl⟩,rfl⟩
    exact bi fun w hh=>⟨_,⟨_,by simp[bM.append, *],rfl,rfl⟩,hh⟩
   rintro _ _ ⟨s4,⟨e4,hm4,rfl⟩,rfl⟩
   refine ad (am [5,4,0] rfl (ac (cQ 14 Tryz.mixed (by kernel_rfl) (by kernel_rfl) ?_)))
   refine kQm aa aa (kQv (aI aa) aa (kQv (aD (m:=_) cL aa aa) aa (kQv (ah isAgg90 aa aa) aa (kQm aa aa (kQm aa aa (kQv (aI aa) aa (kQv (aD (m:=_) ja aa aa) aa (kQv (ah isAgg25 aa aa) aa (kQm aa aa (kQv (aI aa) aa (kQv (aD (m:=_) da aa aa) aa ?_)))))))))))
   refine kQv (ah isAgg3 aa aa) aa (bG aa (au call177 aa) (sV _ _ _ _ ⟨by omega,by omega⟩ ⟨by omega,by omega⟩) .free aa ?_)
   refine bY ?_
   refine aU aa (au call145 aa) (cF (fun Fr=>cA _ Fr _ _ _ _)) .free aa aa ?_ ?_
   rotate_left
   ·rintro _ _ ⟨s9,⟨hm9,rfl⟩,rfl⟩
    exact bi fun w hh=>⟨_,⟨_,by simp[bM.append, *],rfl,rfl⟩,hh⟩
   rintro _ _ ⟨s5,⟨e5,hm5,rfl⟩,rfl⟩
   refine ad (am [5,4,0] rfl (ac (ab (kPf cL isAgg90 aa aa aa aa (kPm aa aa ?_)))))
   refine aU aa (au call151 aa) (cF (fun Fr=>dB _ Fr _ _ _)) .free aa aa ?_ ?_
   rotate_left
   ·rintro _ _ ⟨s9,⟨hm9,rfl⟩,rfl⟩
    exact bi fun w hh=>⟨_,⟨_,by simp[bM.append, *],rfl,rfl⟩,hh⟩
   rintro _ _ ⟨s6,⟨e6,hm6,rfl⟩,rfl⟩
   refine ad (am [4,0] rfl (ac (ab (kPf cL isAgg90 aa aa aa aa ?_))))
   refine aU aa (au call152 aa) (cF (fun Fr=>eR _ Fr _ _)) .free aa aa ?_ ?_
   rotate_left
   ·rintro _ _ ⟨s9,⟨hm9,rfl⟩,rfl⟩
    exact bi fun w hh=>⟨_,⟨_,by simp[bM.append, *],rfl,rfl⟩,hh⟩
   rintro _ _ ⟨s7,⟨e7,hm7,rfl⟩,rfl⟩
   refine ad (ac (ab (kPf da isAgg3 aa aa aa aa (kPv (aN aa aa) aa (kPv (aI aa) aa (kPv (aD (m:=_) da aa aa) aa (kPs (aO sizeOf3 aa aa aa aa) aa (ad (am [4] rfl (ac (ab ?_)))))))))))
   refine kPa aa aa (ad (az ?_))
   exact aq results144 aa (fun w hh=>⟨_,⟨0,{L with n:=L.n+1},_,by simp[bM.append, *],rfl,rfl⟩,hh⟩)
def gH(s:Dev)(c:Cfg)(e:Int):Nat→Int→Int
 | 0,n=>n
 | f+1,n=>if s.load (c.record n)=gr e n then gH s c e f (n+1) else n
def bT(d:Nat)(c:Cfg)(s:Dev):bM:=⟨d,c,s.load 8%4294967296,gH s c (s.load 8%4294967296) c.log.toNat 0⟩
theorem tD(s:Dev)(c:Cfg)(e:Int):∀ f n,n≤gH s c e f n∧gH s c e f n≤n+f
 | 0,n=>by simp[gH]
 | f+1,n=>by
   have:=tD s c e f (n+1)
   simp only[gH];split<;>omega
theorem iB{d:Nat}{c:Cfg}{s:Dev}(h:bA c):dK (bT d c s):=by
 have:=tD s c (s.load 8%4294967296) c.log.toNat 0
 have:=h.l1;have:=h.r1
 exact⟨h,by simp only[bT];omega,by simp only[bT];omega,by simp only[bT];omega,by simp only[bT];omega⟩
theorem j8(B:World)(Fr:List HP)(bd:Nat)(s:Dev)(c:Cfg)(hc:bA c):
 ∀ w,Holds B (aB bd s::Fr) w→Calls Tryz.prog 124 [ptr bd,dY c].toArray w (Ret B (fun rv H'=>∃ bl,rv=ptr bl∧H'=c6 bl (bT bd c s)::aB bd s::Fr) (fun _ _=>False)):=by
 refine an func124 aa ntmps124 aa ?_
 have hc1:=hc.r1
 have hc2:=hc.r2
 have hc3:=hc.l1
 have hc4:=hc.l2
 refine ac (ab (kPb (aX aa) aa fun b3=>(kPa aa aa (ad (ac (cQ 6 Tryz.mixed (by kernel_rfl) (by kernel_rfl) ?_))))))
 refine kQm aa aa (kQv (ag isAgg134 sizeOf134 aa aa) aa ?_)
 refine kQm aa aa (bG aa (au call173 aa) (bI (q:=aB) (fun Fr=>cq _ Fr _ _ _)) .free aa ?_)
 refine kQv (r7 aa aa (AY _)) aa ?_
 refine bj aa (aQ aa (p3 _ _ _ _ _ (by first | rfl | assumption) rfl)) .free rfl ?_;refine bY ?_;refine kPb (aX aa) aa fun b12=> ?_;refine kPa aa aa ?_;refine ad ?_;refine am [5,4,3,0] rfl ?_;refine ac ?_;refine aG ?_
 refine du (ι:=Int) (fun n=>(0≤n∧n≤c.log)∧gH s c (s.load 8%4294967296) (c.log - n).toNat n=gH s c (s.load 8%4294967296) c.log.toNat 0) (fun _=>[(0,ptr bd),(3,ptr b3),(4,.pointer none),(5,ptr b12)]) (fun n=>row b12 [ptr bd,i64 c.log,i64 c.roots,i64 c.space,w64 (s.load 8%4294967296),i64 n] 228::row b3 [i64 c.log,i64 c.roots,i64 c.space] 134::aB bd s::Fr) (fun n=>(c.log - n).toNat) 0 ⟨⟨by omega,by omega⟩,by rw[Int.sub_zero]⟩ (fun a w st=>st.to ⟨rfl,rfl,rfl,rfl,trivial⟩ id) ?_
 rintro n ⟨⟨hn1,hn2⟩,hn3⟩
 refine ac (ac (cV Tryz.mixed (by kernel_rfl) (by kernel_rfl) ?_))
 refine kQm aa aa (kQv (aI aa) aa (kQv (aD (m:=_) da aa aa) aa (kQv (ah isAgg3 aa aa) aa (kQv (aD (m:=_) iu aa aa) aa (kQv (ah isAgg3 aa aa) aa (kQv (ao aa aa aa) aa (kQm aa aa ?_)))))))
 apply mX (tp:=39) (t:=20) (σ1:=[(20,_),(5,_),(4,_),(3,_),(0,_)]) 19 rfl (aE rfl)
 ·intro hg1
  refine bj aa (ak aa) (.on aa aa (ae hg1)) aa (bj aa (ag isAgg134 sizeOf134 aa aa) (.on aa aa (ae hg1)) aa ?_)
  refine bj aa (ak aa) (.on aa aa (ae hg1)) aa (bj aa (aI aa) (.on aa aa (ae hg1)) aa (bj aa (aD (m:=_) da aa aa) (.on aa aa (ae hg1)) aa (bj aa (ah isAgg3 aa aa) (.on aa aa (ae hg1)) aa (bG aa (au call176 aa) (gt _ _ c _ (by omega) (by omega)) (.on aa aa (ae hg1)) aa ?_))))
  refine bG aa (au call173 aa) (bI (q:=aB) (fun Fr=>cq _ Fr _ _ _)) (.on aa aa (ae hg1)) aa ?_
  refine bj aa (ak aa) (.on aa aa (ae hg1)) aa (bj aa (aI aa) (.on aa aa (ae hg1)) aa (bj aa (aD (m:=_) ja aa aa) (.on aa aa (ae hg1)) aa (bj aa (ah isAgg25 aa aa) (.on aa aa (ae hg1)) aa (bj aa (ak aa) (.on aa aa (ae hg1)) aa (bj aa (aI aa) (.on aa aa (ae hg1)) aa (bj aa (aD (m:=_) da aa aa) (.on aa aa (ae hg1)) aa (bj aa (ah isAgg3 aa aa) (.on aa aa (ae hg1)) aa (bG aa (au call177 aa) (sV _ _ _ _ ⟨by omega,by omega⟩ ⟨by omega,by omega⟩) (.on aa aa (ae hg1)) aa ?_))))))))
  refine bj aa (ao aa aa aa) (.on aa aa (ae hg1)) aa (kQv (ay aa hg1 aa) aa ?_)
  exact eU aa (aE aa) (cY hg1)
 ·intro hg1
  refine aV aa (.on aa aa (ai hg1)) aa (aV aa (.on aa aa (ai hg1)) aa (aV aa (.on aa aa (ai hg1)) aa (aV aa (.on aa aa (ai hg1)) aa (aV aa (.on aa aa (ai hg1)) aa (aV aa (.on aa aa (ai hg1)) aa (aV aa (.on aa aa (ai hg1)) aa (aV aa (.on aa aa (ai hg1)) aa (aV aa (.on aa aa (ai hg1)) aa (aV aa (.on aa aa (ai hg1)) aa (aV aa (.on aa aa (ai hg1)) aa (aV aa (.on aa aa (ai hg1)) aa ?_)))))))))))
  refine aV aa (.on aa aa (ai hg1)) aa (aV aa (.on aa aa (ai hg1)) aa (aV aa (.on aa aa (ai hg1)) aa (aV aa (.on aa aa (ai hg1)) aa (aV aa (.on aa aa (ai hg1)) aa (aV aa (.on aa aa (ai hg1)) aa (kQv (aJ aa hg1 aa) aa ?_))))))
  exact eU aa (aE aa) (cZ hg1)
 refine bY ?_
 refine a8 aa (fun h39=> ?_) (fun h39=> ?_)
 ·try simp only[decide_eq_true_eq,decide_eq_false_iff_not,Bool.not_eq_true',Bool.not_eq_false',Bool.or_eq_true,Bool.and_eq_true,Bool.and_eq_false_iff,Bool.or_eq_false_iff,beq_iff_eq,bne_iff_ne,beq_eq_false_iff_ne,bne_eq_false_iff_eq,ge_iff_le,gt_iff_lt,ne_eq] at h39
  refine ar (aG (ab (kPf da isAgg3 aa aa aa aa (kPv (aN aa aa) aa (kPv (aI aa) aa (kPv (aD (m:=_) da aa aa) aa (kPs (aO sizeOf3 aa aa aa aa) aa (ad (am [5,4,3,0] rfl ?_)))))))))
  have e1:(c.log - n).toNat=(c.log - (n+1)).toNat+1:=by omega
  exact fun a w st=>⟨n+1,⟨⟨by omega,by omega⟩,by rw[e1] at hn3;simp only[gH] at hn3;rwa [if_pos h39.2] at hn3⟩,by omega,st.to ⟨rfl,rfl,rfl,rfl,trivial⟩ id⟩
 ·try simp only[decide_eq_true_eq,decide_eq_false_iff_not,Bool.not_eq_true',Bool.not_eq_false',Bool.or_eq_true,Bool.and_eq_true,Bool.and_eq_false_iff,Bool.or_eq_false_iff,beq_iff_eq,bne_iff_ne,beq_eq_false_iff_ne,bne_eq_false_iff_eq,ge_iff_le,gt_iff_lt,ne_eq] at h39
  refine bF (ac (ab (kPm aa aa (kPa aa aa (ad (az ?_))))))
  exact aq results124 aa (fun w hh=>⟨_,⟨b12,rfl,rfl⟩,by
   have e2:gH s c (s.load 8%4294967296) c.log.toNat 0=n:=by
    rw[←hn3]
    cases e1:(c.log - n).toNat with
    | zero=>rfl
    | succ k=>simp only[gH];rw[if_neg (by rcases h39 with h | h;omega;exact h)]
   simp only[bT]
   rw[e2]
   exact(hh.front 1 aa).tail⟩)
def jS(s:Dev)(c:Cfg):Nat→Int→Int
 | 0,_=> -1
 | f+1,k=>if s.load (c.record k+1)<c.active∨(s.n:Int)≤s.load (c.record k+1) then k else jS s c f (k+1)
theorem zD(B:World)(Fr:List HP)(bl:Nat)(L:bM)(s:Dev)(hL:dK L):
 ∀ w,Holds B (c6 bl L::aB L.d s::Fr) w→Calls Tryz.prog 125 [ptr bl].toArray w (aZ B (c6 bl L::aB L.d s::Fr) (i64 (jS s L.c L.n.toNat 0))):=by
 refine an func125 aa ntmps125 aa ?_
 have hc:=hL.c
 have hc1:=hc.r1
 have hc2:=hc.r2
 have hc3:=hc.l1
 have hc4:=hc.l2
 have hl1:=hL.e1
 have hl2:=hL.e2
 have hl3:=hL.n1
 have hl4:=hL.n2
 have hrc:16≤L.c.record L.n∧L.c.record L.n≤10000:=by simp only[Cfg.record];omega
 refine k9 L.d fun hn1 hn2 hn3=> ?_
 have ha:=hc.act
 refine ac (ab (kPa aa aa (ad (ac (ac (ab (kPf da isAgg3 aa aa aa aa (kPm aa aa (ad (aG (du (ι:=Int) (fun k=>(0≤k∧k≤L.n)∧jS s L.c (L.n - k).toNat k=jS s L.c L.n.toNat 0) (fun k=>[(0,ptr bl),(2,i64 0),(8,i64 L.n),(9,i64 k)]) (fun _=>c6 bl L::aB L.d s::Fr) (fun k=>(L.n - k).toNat) 0 ⟨⟨by omega,by omega⟩,by rw[Int.sub_zero]⟩ (fun a w st=>st.to ⟨rfl,rfl,rfl,rfl,trivial⟩ id) ?_)))))))))))
 rintro k ⟨⟨hk1,hk2⟩,hk3⟩
 have hrk:16≤L.c.record k∧L.c.record k≤10000:=by simp only[Cfg.record];omega
 refine ac (ab (kPv (ao aa aa aa) aa (ad (ac ?_))))
 refine a8 aa (fun h10=> ?_) (fun h10=> ?_)
 ·try simp only[decide_eq_true_eq,decide_eq_false_iff_not,Bool.not_eq_true',Bool.not_eq_false',Bool.or_eq_true,Bool.and_eq_true,Bool.and_eq_false_iff,Bool.or_eq_false_iff,beq_iff_eq,bne_iff_ne,beq_eq_false_iff_ne,bne_eq_false_iff_eq,ge_iff_le,gt_iff_lt,ne_eq] at h10
  refine ar (ac (aG (ac (ab (kPm aa aa (kPa aa aa (ad (ac (cV Tryz.mixed (by kernel_rfl) (by kernel_rfl) ?_)))))))))
  refine kQm aa aa (kQv (aI aa) aa (kQv (aD (m:=_) cL aa aa) aa (kQv (ah isAgg90 aa aa) aa (kQm aa aa (kQv (aI aa) aa (kQv (aD (m:=_) kl aa aa) aa (kQv (ag isAgg134 sizeOf134 aa aa) aa ?_)))))))
  refine kQm aa aa (bG aa (au call176 aa) (gt _ _ L.c _ (by omega) (by omega)) .free aa ?_)
  refine kQv (aN aa aa) aa (bG aa (au call173 aa) (bI (q:=aB) (fun Fr=>cq _ Fr _ _ _)) .free aa ?_)
  refine kQa aa aa (bY (am [4,3,9,8,2,0] rfl (ac (ab (kPm aa aa (kPm aa aa (kPv (aI aa) aa (kPv (aD (m:=_) kl aa aa) aa (kPv (ag isAgg134 sizeOf134 aa aa) aa ?_)))))))))
  refine aw aa (au call142 aa) (fN _ _ L.c hc) .free aa aa ?_
  refine kPv (bR runUnderlying3 runUnderlying25 aa) aa (kPv (ao aa aa aa) aa (kPm aa aa ?_))
  apply gP (tp:=41) (t:=32) (σ1:=[(32,_),(3,_),(9,_),(8,_),(2,_),(0,_)]) 9 rfl (aE rfl)
  ·intro hg1
   refine al aa (ak aa) (.on aa aa (ae hg1)) aa aa (al aa (ak aa) (.on aa aa (ae hg1)) aa aa (al aa (aI aa) (.on aa aa (ae hg1)) aa aa (al aa (aD (m:=_) cL aa aa) (.on aa aa (ae hg1)) aa aa (al aa (ah isAgg90 aa aa) (.on aa aa (ae hg1)) aa aa (aw aa (au call143 aa) (bI (q:=aB) (fun Fr=>kJ _ Fr _ _)) (.on aa aa (ae hg1)) aa aa ?_)))))
   refine al aa (bR runUnderlying3 runUnderlying25 aa) (.on aa aa (ae hg1)) aa aa (al aa (ao aa aa aa) (.on aa aa (ae hg1)) aa aa (kPv (aJ aa hg1 aa) aa ?_))
   exact aY aa (aE aa) (gg hg1)
  ·intro hg1
   refine ap aa (.on aa aa (ai hg1)) aa (ap aa (.on aa aa (ai hg1)) aa (ap aa (.on aa aa (ai hg1)) aa (ap aa (.on aa aa (ai hg1)) aa (ap aa (.on aa aa (ai hg1)) aa (ap aa (.on aa aa (ai hg1)) aa (ap aa (.on aa aa (ai hg1)) aa (ap aa (.on aa aa (ai hg1)) aa (kPv (ay aa hg1 aa) aa ?_))))))))
   exact aY aa (aE aa) (ge hg1)
  refine ad ?_
  refine a8 aa (fun h41=> ?_) (fun h41=> ?_)
  ·try simp only[decide_eq_true_eq,decide_eq_false_iff_not,Bool.not_eq_true',Bool.not_eq_false',Bool.or_eq_true,Bool.and_eq_true,Bool.and_eq_false_iff,Bool.or_eq_false_iff,beq_iff_eq,bne_iff_ne,beq_eq_false_iff_ne,bne_eq_false_iff_eq,ge_iff_le,gt_iff_lt,ne_eq] at h41
   refine ac (ab (kPm aa aa (kPa aa aa (ad (az ?_)))))
   exact aq results125 aa (fun w hh=>⟨by
   have e1:(L.n - k).toNat=(L.n - (k+1)).toNat+1:=by omega
   rw[←hk3,e1];simp only[jS];rw[if_pos (by omega)],hh⟩)
  ·try simp only[decide_eq_true_eq,decide_eq_false_iff_not,Bool.not_eq_true',Bool.not_eq_false',Bool.or_eq_true,Bool.and_eq_true,Bool.and_eq_false_iff,Bool.or_eq_false_iff,beq_iff_eq,bne_iff_ne,beq_eq_false_iff_ne,bne_eq_false_iff_eq,ge_iff_le,gt_iff_lt,ne_eq] at h41
   refine ar (ab (kPv (aN aa aa) aa (kPm aa aa (ad ?_))))
   have e1:(L.n - k).toNat=(L.n - (k+1)).toNat+1:=by omega
   exact fun a w st=>⟨k+1,⟨⟨by omega,by omega⟩,by rw[e1] at hk3;simp only[jS] at hk3;rwa [if_neg (by omega)] at hk3⟩,by omega,st.to ⟨rfl,rfl,rfl,rfl,trivial⟩ id⟩
 ·try simp only[decide_eq_true_eq,decide_eq_false_iff_not,Bool.not_eq_true',Bool.not_eq_false',Bool.or_eq_true,Bool.and_eq_true,Bool.and_eq_false_iff,Bool.or_eq_false_iff,beq_iff_eq,bne_iff_ne,beq_eq_false_iff_ne,bne_eq_false_iff_eq,ge_iff_le,gt_iff_lt,ne_eq] at h10
  refine bF (ac (ab (kPa aa aa (ad (am [2] rfl (az ?_))))))
  exact aq results125 aa (fun w hh=>⟨by rw[←hk3,show(L.n - k).toNat=0 by omega];rfl,hh⟩)
def kX(st:Int→Int→Dev→Out Unit)(c:Cfg):Nat→Dev→Out Unit
 | 0,s=> .ok () s
 | k+1,s=>(st (IntKind.i64.wrap (s.load (c.record k+1))) (s.load (c.record k+2)) s).then fun _ s=>kX st c k s
def jP(i v:Int)(s:Dev):Out Unit:=(s.store i v).then fun _ s=>(s.flush i).then fun _ s=> .ok () s
def bM.undo(L:bM)(s:Dev):Out bM:=
 (kX jP L.c L.n.toNat s).then fun _ s=>(if 0<L.n then s.fence else .ok () s).then fun _ s=>L.truncate s
theorem m5(B:World)(H:List HP)(bl:Nat):
 ∀ w,Holds B H w→Calls Tryz.prog 179 [ptr bl].toArray w (Ret B (fun v H'=>∃ bb,v= .func (.func 207) [].toArray [ptr bb].toArray∧H'=row bb [ptr bl] 168::H) (fun _ _=>False)):=by
 refine an func179 aa ntmps179 aa (ac (ab (kPb (dL aa aa) aa fun b1=>(kPa aa aa (ad (ac (ab (kPv (dz aa aa) aa (kPa aa aa (ad (az ?_)))))))))))
 exact aq results179 aa (fun w hw=>⟨_,⟨_,rfl,rfl⟩,hw⟩)
theorem zz(B:World)(Fr:List HP)(bl bb l f:Nat)(L:bM)(s:Dev)(hL:dK L)(r:Loop)(hrf:r.fn=f)(hrp:r.params.size=2)(st:Int→Int→Dev→Out Unit)(hround:∀ (i v:Int) (s:Dev),∀ w,Holds B (blk l (.loop r)::row bb [ptr bl] 168::c6 bl L::aB L.d s::Fr) w→RoundIn (Wd (cxF f)) 0 Tryz.prog l f ((r.params.zip [i64 i,w64 v].toArray).foldl (fun tmps (t,a)=>tmps.setIfInBounds t a) r.tmps) r.assign r.body w (Ret B (fun rv H'=>∃ s',st i v s= .ok () s'∧rv= .bool true∧H'=blk l (.loop r)::row bb [ptr bl] 168::c6 bl L::aB L.d s'::Fr) (fun c H'=>∃ s',st i v s= .off s'∧c=dV∧H'=row bb [ptr bl] 168::c6 bl L::aB L.d s'::Fr))):
 ∀ w,Holds B (blk l (.loop r)::row bb [ptr bl] 168::c6 bl L::aB L.d s::Fr) w→Calls Tryz.prog 207 [.func (.yield l) #[] #[],ptr bb].toArray w (Ret B (fun rv H'=>∃ s',kX st L.c L.n.toNat s= .ok () s'∧H'=blk l (.loop r)::row bb [ptr bl] 168::c6 bl L::aB L.d s'::Fr) (fun c H'=>∃ s',kX st L.c L.n.toNat s= .off s'∧c=dV∧H'=row bb [ptr bl] 168::c6 bl L::aB L.d s'::Fr)):=by
 refine an func207 aa ntmps207 aa ?_
 have hc:=hL.c
 have hc1:=hc.r1
 have hc2:=hc.r2
 have hc3:=hc.l1
 have hc4:=hc.l2
 have hl1:=hL.e1
 have hl2:=hL.e2
 have hl3:=hL.n1
 have hl4:=hL.n2
 have hrc:16≤L.c.record L.n∧L.c.record L.n≤10000:=by simp only[Cfg.record];omega
 refine k9 L.d fun hn1 hn2 hn3=>(ac (ab (kPv (ah isAgg168 aa aa) aa (kPv (aI aa) aa (kPl da isAgg3 aa aa aa aa (kPv (fu aa aa) aa (kPa aa aa (ad (aG (du (ι:=Int×Dev) (fun i=>(-1≤i.1∧i.1<L.n)∧kX st L.c (i.1+1).toNat i.2=kX st L.c L.n.toNat s) (fun i=>[(0,.func (.yield l) #[] #[]),(1,ptr bb),(3,i64 i.1)]) (fun i=>blk l (.loop r)::row bb [ptr bl] 168::c6 bl L::aB L.d i.2::Fr) (fun i=>(i.1+1).toNat) (L.n - 1,s) ⟨⟨by simp only;omega,by simp only;omega⟩,by simp only;rw[Int.sub_add_cancel]⟩ (fun a w st=>st.to ⟨rfl,rfl,rfl,trivial⟩ id) ?_))))))))))
 rintro⟨k,s1⟩ ⟨⟨hk1,hk2⟩,hk3⟩
 simp only at hk1 hk2 hk3 ⊢
 have hrk:k<0∨16≤L.c.record k∧L.c.record k≤10000:=by simp only[Cfg.record];omega
 refine ac (ac (ab (kPm aa aa (kPv (ao aa aa aa) aa (ad ?_)))))
 refine a8 aa (fun h11=> ?_) (fun h11=> ?_)
 ·try simp only[decide_eq_true_eq,decide_eq_false_iff_not,Bool.not_eq_true',Bool.not_eq_false',Bool.or_eq_true,Bool.and_eq_true,Bool.and_eq_false_iff,Bool.or_eq_false_iff,beq_iff_eq,bne_iff_ne,beq_eq_false_iff_ne,bne_eq_false_iff_eq,ge_iff_le,gt_iff_lt,ne_eq] at h11
  refine ar (ac (aG (ac (ab (kPv (ah isAgg168 aa aa) aa (kPv (aI aa) aa (kPv (aD (m:=_) kl aa aa) aa (kPv (ag isAgg134 sizeOf134 aa aa) aa ?_))))))))
  refine kPm aa aa (aw aa (au call176 aa) (gt _ _ L.c _ (by omega) (by omega)) .free aa aa ?_)
  refine kPa aa aa (ad (am [4,3,0,1] rfl (ac (cQ 16 Tryz.mixed (by kernel_rfl) (by kernel_rfl) ?_))))
  refine kQm aa aa (kQv (ah isAgg168 aa aa) aa (kQv (aI aa) aa (kQv (aD (m:=_) cL aa aa) aa (kQv (ah isAgg90 aa aa) aa (kQm aa aa (kQv (aN aa aa) aa (bG aa (au call173 aa) (bI (q:=aB) (fun Fr=>cq _ Fr _ _ _)) .free aa ?_)))))))
  refine kQv (bR runUnderlying25 runUnderlying3 aa) aa (kQv (ah isAgg168 aa aa) aa (kQv (aI aa) aa (kQv (aD (m:=_) cL aa aa) aa (kQv (ah isAgg90 aa aa) aa (kQm aa aa (kQv (aN aa aa) aa (bG aa (au call173 aa) (bI (q:=aB) (fun Fr=>cq _ Fr _ _ _)) .free aa ?_)))))))
  refine bY ?_
  refine fU (f:=f) aa aa (fun w hw=>hw) (by rw[hrp];rfl) hrf (hround _ _ _) .free aa ?_ ?_
  rotate_left
  ·rintro _ _ ⟨s9,hm9,rfl,rfl⟩
   exact bi fun w hh=>⟨_,⟨s9,by rw[←hk3,show(k+1).toNat=k.toNat+1 by omega];simp only[kX];rw[show((k.toNat:Nat):Int)=k by omega,hm9];rfl,rfl,rfl⟩,hh⟩
  rintro _ _ ⟨s2,hm2,rfl,rfl⟩
  refine kPv (bz aa) aa (ad (am [37,3,0,1] rfl (bH aa (rfl) (ar (ab (kPm aa aa (kPv (fu aa aa) aa (kPa aa aa (ad ?_)))))))))
  exact fun a w st=>⟨(k - 1,s2),⟨⟨by simp only;omega,by simp only;omega⟩,by
   simp only
   rw[←hk3,show(k+1).toNat=k.toNat+1 by omega,show(k - 1+1).toNat=k.toNat by omega]
   simp only[kX]
   rw[show((k.toNat:Nat):Int)=k by omega,hm2];rfl⟩,by simp only;omega,st.to ⟨rfl,rfl,rfl,trivial⟩ id⟩
 ·try simp only[decide_eq_true_eq,decide_eq_false_iff_not,Bool.not_eq_true',Bool.not_eq_false',Bool.or_eq_true,Bool.and_eq_true,Bool.and_eq_false_iff,Bool.or_eq_false_iff,beq_iff_eq,bne_iff_ne,beq_eq_false_iff_ne,bne_eq_false_iff_eq,ge_iff_le,gt_iff_lt,ne_eq] at h11
  refine bF ?_
  exact cI results207 (fun w hh=>⟨_,⟨s1,by rw[←hk3,show(k+1).toNat=0 by omega];rfl,rfl⟩,hh⟩)
theorem oR(B:World)(Fr:List HP)(bl:Nat)(L:bM)(s:Dev)(hL:dK L):
 ∀ w,Holds B (c6 bl L::aB L.d s::Fr) w→Calls Tryz.prog 129 [ptr bl].toArray w (Ret B (fun rv H'=>∃ L' s',L.undo s= .ok L' s'∧rv= .tuple #[]∧H'=c6 bl L'::aB L.d s'::Fr) (fun c H'=>∃ s',L.undo s= .off s'∧c=dV∧H'=c6 bl L::aB L.d s'::Fr)):=by
 refine eI func129 aa ntmps129 aa ?_
 have hc:=hL.c
 have hc1:=hc.r1
 have hc2:=hc.r2
 have hc3:=hc.l1
 have hc4:=hc.l2
 have hl1:=hL.e1
 have hl2:=hL.e2
 have hl3:=hL.n1
 have hl4:=hL.n2
 have hrc:16≤L.c.record L.n∧L.c.record L.n≤10000:=by simp only[Cfg.record];omega
 refine k9 L.d fun hn1 hn2 hn3=>(ac (ab (kPb (dL aa aa) aa fun b1=>(ad (ac (ac (ab (kPv (ah isAgg168 aa aa) aa (aH aa (au call179 aa) (m5 _ _ _) .free aa aa ?_)))))))))
 rintro _ _ ⟨bb,rfl,rfl⟩
 refine ad (aG ?_)
 refine o6 (ι:=Dev) (fun s'=>row bb [ptr bl] 168::c6 bl L::aB L.d s'::row b1 [ptr bl] 168::Fr) (fun s'=>kX jP L.c L.n.toNat s= .ok () s') (fun s'=>kX jP L.c L.n.toNat s= .off s') dV aa call207 ?_ ?_ ?_
 ·intro l m tmps hts hkn w hh
  have hk1:=hkn 1 _ rfl
  refine(zz B (blk m (.deferred (some []))::row b1 [ptr bl] 168::Fr) bl bb l 129 L s hL _ aa aa jP ?_ w ((((hh.front 5 aa).front 5 aa).front 4 aa).front 3 aa)).mono (Ret.mono ?_ ?_)
  rotate_left
  ·rintro v H' ⟨s',hs',rfl⟩
   exact⟨s',hs',fun w hh=>((hh.front 4 aa).front 1 aa)⟩
  ·rintro c H' ⟨s',hs',rfl,rfl⟩
   exact⟨rfl,s',hs',fun w hh=>(hh.front 3 aa)⟩
  intro i v s
  refine gG (n:=33) (σ:=[(6,i64 i),(7,w64 v),(1,ptr b1)]) func129 (by simp[fO,hts]) (KnA.knows (by simp[KnA,fO,hts];exact(Array.getElem?_eq_some_iff.1 hk1).2)) aa ?_;refine ac ?_;refine ab ?_;refine kPa aa aa ?_;refine ad ?_;refine ab ?_;refine kPa aa aa ?_;refine ad ?_;refine kh ?_;refine aG ?_;refine ac ?_;refine ab ?_;refine kPv (ah isAgg168 aa aa) aa ?_;refine kPv (aI aa) aa ?_
  refine kPl cL isAgg90 aa aa aa aa (kPm aa aa (kPm aa aa ?_))
  refine aU aa (au call145 aa) (cF (fun Fr=>cA _ Fr _ _ _ _)) .free aa aa ?_ ?_
  rotate_left
  ·rintro _ _ ⟨s9,⟨hm9,rfl⟩,rfl⟩
   exact bi fun w hh=>⟨_,⟨s9,by simp[jP, *],rfl,rfl⟩,hh.tail⟩
  rintro _ _ ⟨s1,⟨e1,hm1,rfl⟩,rfl⟩
  refine ad (am [2,1] rfl (ab (kPv (ah isAgg168 aa aa) aa (kPv (aI aa) aa (kPl cL isAgg90 aa aa aa aa (kPm aa aa ?_))))))
  refine aU aa (au call151 aa) (cF (fun Fr=>dB _ Fr _ _ _)) .free aa aa ?_ ?_
  rotate_left
  ·rintro _ _ ⟨s9,⟨hm9,rfl⟩,rfl⟩
   exact bi fun w hh=>⟨_,⟨s9,by simp[jP, *],rfl,rfl⟩,hh.tail⟩
  rintro _ _ ⟨s2,⟨e2,hm2,rfl⟩,rfl⟩
  refine ad (am [] rfl ?_)
  exact kg fun w hh=>⟨_,⟨_,by simp[jP, *],rfl,rfl⟩,hh⟩
 rotate_left
 ·intro m s1 hm1
  exact lP (.cons (i:=0) aa .nil) fun w hh=>⟨_,⟨s1,by simp[bM.undo, *],rfl,rfl⟩,(((hh.front 4 aa).front 2 aa).front 2 aa).tail.tail.tail⟩
 intro m s1 hm1
 refine ac (ac (ab (kPv (ah isAgg168 aa aa) aa (kPv (aI aa) aa (kPl da isAgg3 aa aa aa aa (kPv (ao aa aa aa) aa (ad (am [25,1] rfl ?_))))))))
 refine a8 aa (fun h25=> ?_) (fun h25=> ?_)
 ·try simp only[decide_eq_true_eq,decide_eq_false_iff_not,Bool.not_eq_true',Bool.not_eq_false',Bool.or_eq_true,Bool.and_eq_true,Bool.and_eq_false_iff,Bool.or_eq_false_iff,beq_iff_eq,bne_iff_ne,beq_eq_false_iff_ne,bne_eq_false_iff_eq,ge_iff_le,gt_iff_lt,ne_eq] at h25
  refine ab (kPv (ah isAgg168 aa aa) aa (kPv (aI aa) aa (kPl cL isAgg90 aa aa aa aa ?_)))
  refine aU aa (au call152 aa) (cF (fun Fr=>eR _ Fr _ _)) .free aa aa ?_ ?_
  rotate_left
  ·rintro _ _ ⟨s9,⟨hm9,rfl⟩,rfl⟩
   exact lP (.cons (i:=0) aa .nil) fun w hh=>⟨_,⟨s9,by simp[bM.undo, *],rfl,rfl⟩,(((hh.front 4 aa).front 2 aa).front 2 aa).tail.tail.tail⟩
  rintro _ _ ⟨s2,⟨e2,hm2,rfl⟩,rfl⟩
  refine ad (ab (aM (H':=c6 bl L::aB L.d _::blk m (.deferred (some []))::row bb [ptr bl] 168::row b1 [ptr bl] 168::Fr) (fun w hh=>(((((hh.front 4 aa).front 2 aa).front 2 aa).front 4 aa).front 4 aa)) (kPv (ah isAgg168 aa aa) aa ?_)))
  refine aU aa (au call153 aa) (kK _ _ bl L _ hL) .free aa aa ?_ ?_
  rotate_left
  ·rintro _ _ ⟨s9,hm9,rfl,rfl⟩
   exact lP (.cons (i:=2) aa .nil) fun w hh=>⟨_,⟨s9,by simp[bM.undo, *],rfl,rfl⟩,(((hh.front 4 aa).front 4 aa).front 4 aa).tail.tail.tail⟩
  rintro _ _ ⟨L3,s3,hm3,rfl,rfl⟩
  refine ad (am [] rfl ?_)
  exact ls results129 (.cons (i:=2) aa .nil) (fun w hh=>⟨_,⟨L3,s3,by simp[bM.undo, *],rfl,rfl⟩,(((hh.front 4 aa).front 4 aa).front 4 aa).tail.tail.tail⟩)
 ·try simp only[decide_eq_true_eq,decide_eq_false_iff_not,Bool.not_eq_true',Bool.not_eq_false',Bool.or_eq_true,Bool.and_eq_true,Bool.and_eq_false_iff,Bool.or_eq_false_iff,beq_iff_eq,bne_iff_ne,beq_eq_false_iff_ne,bne_eq_false_iff_eq,ge_iff_le,gt_iff_lt,ne_eq] at h25
  refine ar (ab (aM (H':=c6 bl L::aB L.d _::blk m (.deferred (some []))::row bb [ptr bl] 168::row b1 [ptr bl] 168::Fr) (fun w hh=>(((((hh.front 4 aa).front 2 aa).front 2 aa).front 4 aa).front 4 aa)) (kPv (ah isAgg168 aa aa) aa ?_)))
  refine aU aa (au call153 aa) (kK _ _ bl L _ hL) .free aa aa ?_ ?_
  rotate_left
  ·rintro _ _ ⟨s9,hm9,rfl,rfl⟩
   exact lP (.cons (i:=2) aa .nil) fun w hh=>⟨_,⟨s9,by simp[bM.undo, *],rfl,rfl⟩,(((hh.front 4 aa).front 4 aa).front 4 aa).tail.tail.tail⟩
  rintro _ _ ⟨L3,s3,hm3,rfl,rfl⟩
  refine ad ?_
  exact ls results129 (.cons (i:=2) aa .nil) (fun w hh=>⟨_,⟨L3,s3,by simp[bM.undo, *],rfl,rfl⟩,(((hh.front 4 aa).front 4 aa).front 4 aa).tail.tail.tail⟩)
abbrev bX(_:Unit):Value:= .agg #[]
def jV(b:Nat)(xs:List Int):HP:=hex fun (x:Option (Nat×List Value))=>match x with
 | none=>grp [row b [.slice none 0 0] 166,pr (xs=[])]
 | some (bd,rest)=>grp [row b [.slice (some ⟨bd,0,none⟩) xs.length (xs.length+rest.length)] 166,row bd (xs.map i64++rest) 3]
theorem qH{B:World}{b:Nat}{xs:List Int}{Fr:List HP}{w:World}(h:Holds B (jV b xs::Fr) w):(xs=[]∧Holds B (row b [.slice none 0 0] 166::Fr) w)∨∃ bd rest,Holds B (row b [.slice (some ⟨bd,0,none⟩) xs.length (xs.length+rest.length)] 166::row bd (xs.map i64++rest) 3::Fr) w:=by
 obtain⟨x,hx⟩:=h.hex
 cases x with
 | none=>have h2:=hx.grp;have h3:=(h2.front 1 rfl).pr;exact .inl ⟨h3.1,h3.2⟩
 | some p=>exact .inr ⟨_,_,hx.grp⟩
theorem xj{B:World}{b:Nat}{Fr:List HP}{w:World}(h:Holds B (row b [.slice none 0 0] 166::Fr) w):Holds B (jV b []::Fr) w:=
 Holds.unhex none (Holds.ungrp (l:=[row b [.slice none 0 0] 166,pr (([]:List Int)=[])]) ((h.unpr rfl).back 1 (by simp)))
theorem nP{B:World}{b bd n c:Nat}{xs:List Int}{rest:List Value}{Fr:List HP}{w:World}(hn:n=xs.length)(hc:c=n+rest.length)(h:Holds B (row b [.slice (some ⟨bd,0,none⟩) n c] 166::row bd (xs.map i64++rest) 3::Fr) w):Holds B (jV b xs::Fr) w:=by
 subst hn;subst hc
 exact Holds.unhex (some (bd,rest)) (Holds.ungrp (l:=[row b [.slice (some ⟨bd,0,none⟩) xs.length (xs.length+rest.length)] 166,row bd (xs.map i64++rest) 3]) h)
theorem zR{B:World}{n:Nat}{D:List Deferred}{σ:Env}{b:Nat}{xs:List Int}{Fr:List HP}{K:Act→World→Prop}(h1:xs=[]→GO B n D σ (row b [.slice none 0 0] 166::Fr) K)(h2:∀ bd rest,GO B n D σ (row b [.slice (some ⟨bd,0,none⟩) xs.length (xs.length+rest.length)] 166::row bd (xs.map i64++rest) 3::Fr) K):GO B n D σ (jV b xs::Fr) K:=fun a w st=>by
 rcases qH st.holds with ⟨e,h⟩ | ⟨bd,rest,h⟩
 ·exact h1 e a w ⟨st.toStA,h⟩
 ·exact h2 bd rest a w ⟨st.toStA,h⟩
theorem zv(B:World)(H:List HP)(r:Nat):
 ∀ w,Holds B H w→Calls Tryz.prog 150 [.map (some r)].toArray w (Ret B (fun v H'=>∃ bb,v= .func (.func 193) [].toArray [ptr bb].toArray∧H'=row bb [.map (some r)] 169::H) (fun _ _=>False)):=by
 refine an func150 aa ntmps150 aa (ac (ab (kPb (dL aa aa) aa fun b1=>(kPa aa aa (ad (ac (ab (kPv (dz aa aa) aa (kPa aa aa (ad (az ?_)))))))))))
 exact aq results150 aa (fun w hw=>⟨_,⟨_,rfl,rfl⟩,hw⟩)
theorem xO(B:World)(Fr:List HP)(l f mr bb b2:Nat)(ml:List (Int×Unit))(r:Loop)(hrf:r.fn=f)(hrp:r.params.size=1)(hround:∀ (A1 A2:HP) (v:Int) (xs:List Int),xs.length<ml.length→∀ w,Holds B (blk l (.loop r)::A1::A2::jV b2 xs::Fr) w→RoundIn (Wd (cxF f)) 0 Tryz.prog l f ((r.params.zip [i64 v].toArray).foldl (fun tmps (t,a)=>tmps.setIfInBounds t a) r.tmps) r.assign r.body w (Ret B (fun rv H'=>rv= .bool true∧H'=blk l (.loop r)::A1::A2::jV b2 (xs++[v])::Fr) (fun _ _=>False))):
 ∀ w,Holds B (blk l (.loop r)::row bb [.map (some mr)] 169::bx .i64 bX mr ml::jV b2 []::Fr) w→Calls Tryz.prog 193 [.func (.yield l) #[] #[],ptr bb].toArray w (Ret B (fun rv H'=>∃ ks:List Int,ks.Perm (ml.map Prod.fst)∧H'=blk l (.loop r)::row bb [.map (some mr)] 169::bx .i64 bX mr ml::jV b2 ks::Fr) (fun _ _=>False)):=by
 refine an func193 aa ntmps193 aa (ac (ab (kPv (ah isAgg169 aa aa) aa (kPb (mi runUnderlying169 aa) aa fun it=>(ad (aG (du (ι:=List (Int×Unit)) (fun d=>d.length≤ml.length) (fun d=>[(0,.func (.yield l) #[] #[]),(1,ptr bb),(5,.pointer (some ⟨it,0,none⟩))]) (fun done=>blk l (.loop r)::row bb [.map (some mr)] 169::fH .i64 bX mr it ml done::jV b2 (done.map Prod.fst)::Fr) (fun d=>ml.length - d.length) [] (Nat.zero_le _) (fun a w st=>st.to ⟨rfl,rfl,rfl,trivial⟩ id) ?_)))))))
 intro done hdone
 refine ac (ab (cJ aa (nL aa) .free aa aa ?_))
 rintro _ _ ⟨bb0,vs,done',rfl,hvs,rfl,hno,hyes⟩
 refine kPv (aA aa hvs) aa (ad (ac ?_))
 refine a8 aa (fun h7=> ?_) (fun h7=> ?_)
 ·obtain⟨pp,hpl,hpn,rfl⟩:=hyes h7
  refine iD it fun hl hd hsub=>(ar (aG (ac (ab (kPv (mf (p0:=pp) (dn:=done) aa) aa (kPv (aA aa aa) aa (kPa aa aa (ad (ac (ab (kPm aa aa ?_)))))))))))
  refine kPm aa aa ?_
  refine fU (f:=f) aa aa (fun w hw=>hw) (by rw[hrp];rfl) hrf (hround _ _ _ _ (by have:=iC hd hsub;simp;omega)) .free aa ?_ ?_
  rotate_left
  ·rintro _ _ ⟨⟩
  rintro _ _ ⟨rfl,rfl⟩
  refine kPv (bz aa) aa (ad (am [13,5,0,1] rfl (bH aa (rfl) (ar ?_))))
  have hle:=iC hd hsub
  exact fun a w st=>⟨done++[pp],by simp;omega,by simp;omega,st.to ⟨rfl,rfl,rfl,trivial⟩ (fun hh=>by rw[List.map_append];exact hh)⟩
 ·obtain⟨rfl,hall⟩:=hno h7
  refine iD it fun hl hd hsub=>(aM (fun w hh=>hh.iter_end it) (bF ?_))
  exact cI results193 (fun w hh=>⟨_,⟨_,(List.perm_ext_iff_of_nodup hd hl).2 fun x=>⟨fun hx=>by obtain⟨p,hp,rfl⟩:=List.mem_map.1 hx;exact List.mem_map_of_mem (hsub p hp),fun hx=>by obtain⟨p,hp,rfl⟩:=List.mem_map.1 hx;exact List.mem_map_of_mem (hall p hp)⟩,rfl⟩,hh⟩)
theorem xi{xs:List Int}{v:Int}{rest:List Value}(h:0<rest.length):cU (xs.map i64++rest) (0+xs.length) [i64 v]=(xs++[v]).map i64++rest.drop 1:=by
 cases rest with
 | nil=>simp at h
 | cons a t=>simp[cU,List.set_append_right]
def iz(_:Nat)(x:Value×List Int):HP:=hex fun (o:Option (Nat×List Value))=>match o with
 | none=>pr (x.2=[]∧x.1= .slice none 0 0)
 | some (bd,rest)=>grp [row bd (x.2.map i64++rest) 3,pr (x.1= .slice (some ⟨bd,0,none⟩) x.2.length (x.2.length+rest.length))]
theorem uP{B:World}{Fr:List HP}{w:World}(h:Holds B Fr w):Holds B (iz 0 (.slice none 0 0,[])::Fr) w:=Holds.unhex none (h.unpr ⟨rfl,rfl⟩)
theorem pJ{B:World}{bd n c:Nat}{xs:List Int}{rest:List Value}{Fr:List HP}{w:World}(hn:n=xs.length)(hc:c=n+rest.length)(h:Holds B (row bd (xs.map i64++rest) 3::Fr) w):Holds B (iz 0 (.slice (some ⟨bd,0,none⟩) n c,xs)::Fr) w:=by
 subst hn;subst hc
 refine Holds.unhex (some (bd,rest)) (Holds.ungrp (l:=[row bd (xs.map i64++rest) 3,pr _]) ?_)
 exact(h.unpr aa).back 1 (by simp)
theorem jE{B:World}{sv:Value}{xs:List Int}{Fr:List HP}{w:World}(h:Holds B (iz 0 (sv,xs)::Fr) w):(xs=[]∧sv= .slice none 0 0∧Holds B Fr w)∨∃ bd rest,sv= .slice (some ⟨bd,0,none⟩) xs.length (xs.length+rest.length)∧Holds B (row bd (xs.map i64++rest) 3::Fr) w:=by
 obtain⟨x,hx⟩:=h.hex
 cases x with
 | none=>have h2:=hx.pr;exact .inl ⟨h2.1.1,h2.1.2,h2.2⟩
 | some p=>have h2:=(hx.grp.front 1 rfl).pr;exact .inr ⟨_,_,h2.1,h2.2⟩
theorem A0{B:World}{b:Nat}{xs:List Int}{Fr:List HP}{w:World}(h:Holds B (jV b xs::Fr) w):∃ sv,Holds B (row b [sv] 166::iz 0 (sv,xs)::Fr) w:=by
 rcases qH h with ⟨rfl,h2⟩ | ⟨bd,rest,h2⟩
 ·exact⟨_,(uP h2).front 1 aa⟩
 ·exact⟨_,(pJ (n:=xs.length) aa aa (h2.front 1 aa)).front 1 aa⟩
theorem wS{B:World}{n:Nat}{D:List Deferred}{σ:Env}{b:Nat}{xs:List Int}{Fr:List HP}{K:Act→World→Prop}(h:∀ sv,GO B n D σ (row b [sv] 166::iz 0 (sv,xs)::Fr) K):GO B n D σ (jV b xs::Fr) K:=fun a w st=>by
 obtain⟨sv,h1⟩:=A0 st.holds
 exact h sv a w ⟨st.toStA,h1⟩
theorem yw(B:World)(Fr:List HP)(mr bb:Nat)(ml:List (Int×Unit))(hml:ml.length≤1000000):
 ∀ w,Holds B (row bb [.map (some mr)] 169::bx .i64 bX mr ml::Fr) w→Calls Tryz.prog 211 [.slice none 0 0,.func (.func 193) [].toArray [ptr bb].toArray].toArray w (Ret B (fun rv H'=>∃ ks:List Int,ks.Perm (ml.map Prod.fst)∧H'=iz 0 (rv,ks)::bx .i64 bX mr ml::Fr) (fun _ _=>False)):=by
 refine eI func211 aa ntmps211 aa (ac (ab (kPb (dL aa aa) aa fun b2=>(kPa aa aa (ad (ac (ac (ab (kPm aa aa (ad (aG ?_)))))))))))
 refine o6 (ι:=List Int) (fun ks=>row bb [.map (some mr)] 169::bx .i64 bX mr ml::jV b2 ks::Fr) (fun ks=>ks.Perm (ml.map Prod.fst)) (fun _=>False) [] rfl call193 ?_ ?_ ?_
 ·intro l m tmps hts hkn w hh
  have hk2:=hkn 2 _ rfl
  refine(xO B (blk m (.deferred (some []))::Fr) l 211 mr bb b2 ml _ aa aa ?_ w (((((xj ((((hh.front 4 aa).front 4 aa).front 2 aa).front 4 aa)).front 0 aa).front 3 aa).front 3 aa).front 3 aa)).mono (Ret.mono ?_ ?_)
  rotate_left
  ·rintro v H' ⟨ks,hks,rfl⟩
   exact⟨ks,hks,fun w hh=>((hh.front 4 aa).front 1 aa)⟩
  ·rintro c H' ⟨⟩
  intro A1 A2 v xs hxs
  have hxs:xs.length≤1000000:=by omega
  refine gG (n:=13) (σ:=[(7,i64 v),(2,ptr b2)]) func211 (by simp[fO,hts]) (KnA.knows (by simp[KnA,fO,hts];exact(Array.getElem?_eq_some_iff.1 hk2).2)) aa ?_;refine ab ?_;refine kPa aa aa ?_;refine ad ?_;refine kh ?_;refine dt 3 aa ?_
  refine zR (fun hxe=> ?_) (fun bd rest=> ?_)
  ·subst hxe
   refine aG (ab (kPv (ah isAgg166 aa aa) aa (kPm aa aa (kPb (f9 runUnderlying166 sizeOf3 zeroValue3 aa aa aa) aa fun b1=>(cJ aa (gD aa aa runUnderlying166 runUnderlying166 ⟨_,rfl⟩ sizeOf3 zeroValue3 aa yM aa aa (SlR.row (xs:=[i64 v]) aa aa) (by simp) (by simp)) .free aa aa ?_)))))
   rintro _ _ ⟨bn,cn,rest',hcn,hrest,rfl,rfl⟩
   refine kPs (aO sizeOf166 aa aa aa aa) aa (ad (am [] rfl (dt 3 aa ?_)))
   exact kg fun w hh=>⟨_,⟨rfl,rfl⟩,((((((nP (xs:=[]++[v]) (by simp) (by first | omega | (simp at*;omega)) ((hh.front 1 aa).front 3 aa)).front 2 aa).tail.front 0 aa).front 3 aa).front 3 aa).front 3 aa)⟩
  ·skip
   refine aG (ab (kPv (ah isAgg166 aa aa) aa (kPm aa aa (kPb (f9 runUnderlying166 sizeOf3 zeroValue3 aa aa aa) aa fun b1=>(cJ aa (jg aa aa runUnderlying166 runUnderlying166 ⟨_,rfl⟩ sizeOf3 zeroValue3 aa yM aa aa (SlR.row (xs:=[i64 v]) aa aa) (by simp) (by omega) (by simp;omega) aa) .free aa aa (fun v2 H2 hY=> ?_))))))
   revert hY
   generalize hob:Obj.loop _=ob
   intro hY
   have hY2:∃ bn c' rest',c'=xs.length+1+rest'.length∧v2= .slice (some ⟨bn,0,none⟩) (xs.length+1) c'∧∀ w,Holds B H2 w→Holds B (row b2 [.slice (some ⟨bd,0,none⟩) xs.length (xs.length+rest.length)] 166::row bn ((xs++[v]).map i64++rest') 3::blk l ob::A1::A2::blk m (.deferred (some []))::Fr) w:=by
    rcases hY with ⟨h1,rfl,rfl⟩ | ⟨h1,bn,cn,rest',h2,_,rfl,rfl⟩
    ·refine⟨bd,_,rest.drop 1,by simp at h1 ⊢;omega,rfl,fun w hh=> ?_⟩
     have h3:=hh.tail
     rw[xi (by simp at h1;omega)] at h3
     exact h3
    ·refine⟨bn,_,rest',by simpa using h2.symm,rfl,fun w hh=> ?_⟩
     have h3:=((((hh.front 1 rfl).tail).front 2 rfl).tail).front 1 rfl
     have e:(xs++[v]).map i64++rest'=((xs.map i64++rest).drop 0).take xs.length++[i64 v]++rest':=by simp
     rw[e]
     exact h3
   obtain⟨bn,c',rest',hc',rfl,hY3⟩:=hY2
   refine aM hY3 (kPs (aO sizeOf166 aa aa aa aa) aa (ad (am [] rfl ?_)))
   subst hob
   refine dt 2 aa ?_
   exact kg fun w hh=>⟨_,⟨rfl,rfl⟩,(((((nP (xs:=xs++[v]) (by simp) (by first | omega | (simp at*;omega)) ((hh.front 2 aa).front 2 aa)).front 0 aa).front 3 aa).front 3 aa).front 3 aa)⟩
 rotate_left
 ·rintro m x ⟨⟩
 intro m ks hks
 refine dt 3 aa (wS fun sv=>(ac (ab (kPv (ah isAgg166 aa aa) aa (kPa aa aa (ad (az ?_)))))))
 exact fE results211 aa (.cons (i:=2) aa .nil) (fun w hh=>⟨_,⟨ks,hks,rfl⟩,(((hh.front 3 aa).front 3 aa).front 2 aa).tail.tail.tail⟩)
open Go Go.Proofs
open Go.Shelf
def Tryz.sortA_ren:Go.Shelf.Ren:=⟨fun | 5=>192 | 8=>213 | 7=>212 | 19=>227 | 20=>103 | 10=>218 | 11=>219 | 12=>220 | 13=>221 | 14=>222 | 15=>223 | 16=>224 | 17=>225 | 18=>226 | 30=>230 | 31=>231 | 32=>232 | 33=>233 | 34=>234 | 35=>235 | 40=>238 | n=>n,fun | 23=>166 | 25=>3 | 3=>3 | 32=>79 | 22=>166 | 0=>0 | 44=>116 | 46=>25 | 4=>4 | 36=>306 | 35=>305 | 41=>199 | 5=>5 | 9=>9 | 53=>312 | 57=>315 | 63=>319 | 64=>320 | n=>n,fun | n=>n⟩
theorem Tryz.sortA:Go.Proofs.SlLaysM.n5 Tryz.prog Tryz.sortA_ren:={
 mixed:=by kernel_rfl
 f5:=⟨Tryz.f192.name,by decide,Tryz.func192.trans (congrArg some (by kernel_rfl))⟩
 f7:=⟨Tryz.f212.name,by decide,Tryz.func212.trans (congrArg some (by kernel_rfl))⟩
 f8:=Tryz.func213.trans (congrArg some (by kernel_rfl))
 f10:=⟨Tryz.f218.name,by decide,Tryz.func218.trans (congrArg some (by kernel_rfl))⟩
 f11:=⟨Tryz.f219.name,by decide,Tryz.func219.trans (congrArg some (by kernel_rfl))⟩
 f12:=⟨Tryz.f220.name,by decide,Tryz.func220.trans (congrArg some (by kernel_rfl))⟩
 f13:=⟨Tryz.f221.name,by decide,Tryz.func221.trans (congrArg some (by kernel_rfl))⟩
 f14:=⟨Tryz.f222.name,by decide,Tryz.func222.trans (congrArg some (by kernel_rfl))⟩
 f15:=⟨Tryz.f223.name,by decide,Tryz.func223.trans (congrArg some (by kernel_rfl))⟩
 f16:=⟨Tryz.f224.name,by decide,Tryz.func224.trans (congrArg some (by kernel_rfl))⟩
 f17:=⟨Tryz.f225.name,by decide,Tryz.func225.trans (congrArg some (by kernel_rfl))⟩
 f18:=⟨Tryz.f226.name,by decide,Tryz.func226.trans (congrArg some (by kernel_rfl))⟩
 f19:=Tryz.func227.trans (congrArg some (by kernel_rfl))
 f20:=Tryz.func103.trans (congrArg some (by kernel_rfl))
 f30:=⟨Tryz.f230.name,by decide,Tryz.func230.trans (congrArg some (by kernel_rfl))⟩
 f31:=Tryz.func231.trans (congrArg some (by kernel_rfl))
 f32:=Tryz.func232.trans (congrArg some (by kernel_rfl))
 f33:=⟨Tryz.f233.name,by decide,Tryz.func233.trans (congrArg some (by kernel_rfl))⟩
 f34:=⟨Tryz.f234.name,by decide,Tryz.func234.trans (congrArg some (by kernel_rfl))⟩
 f35:=⟨Tryz.f235.name,by decide,Tryz.func235.trans (congrArg some (by kernel_rfl))⟩
 f40:=⟨Tryz.f238.name,by decide,Tryz.func238.trans (congrArg some (by kernel_rfl))⟩
 t0:=underlying0
 a0:=isAgg0
 z0:=sizeOf0
 v0:=zeroValue0
 t3:=underlying3
 a3:=isAgg3
 z3:=sizeOf3
 v3:=zeroValue3
 t4:=underlying4
 a4:=isAgg4
 z4:=sizeOf4
 v4:=zeroValue4
 t5:=underlying5
 a5:=isAgg5
 z5:=sizeOf5
 v5:=zeroValue5
 t9:=underlying9
 a9:=isAgg9
 z9:=sizeOf9
 v9:=zeroValue9
 t22:=underlying166
 a22:=isAgg166
 z22:=sizeOf166
 v22:=zeroValue166
 t23:=underlying166
 a23:=isAgg166
 z23:=sizeOf166
 v23:=zeroValue166
 t25:=underlying3
 a25:=isAgg3
 z25:=sizeOf3
 v25:=zeroValue3
 t32:=underlying79
 a32:=isAgg79
 z32:=sizeOf79
 v32:=zeroValue79
 t35:=underlying305
 a35:=isAgg305
 z35:=sizeOf305
 v35:=zeroValue305
 t36:=underlying306
 a36:=isAgg306
 z36:=sizeOf306
 v36:=zeroValue306
 t41:=underlying199
 a41:=isAgg199
 z41:=sizeOf199
 v41:=zeroValue199
 t44:=underlying116
 a44:=isAgg116
 z44:=sizeOf116
 v44:=zeroValue116
 t46:=underlying25
 a46:=isAgg25
 z46:=sizeOf25
 v46:=zeroValue25
 t53:=underlying312
 a53:=isAgg312
 z53:=sizeOf312
 v53:=zeroValue312
 t57:=underlying315
 a57:=isAgg315
 z57:=sizeOf315
 v57:=zeroValue315
 t63:=underlying319
 a63:=isAgg319
 z63:=sizeOf319
 v63:=zeroValue319
 t64:=underlying320
 a64:=isAgg320
 z64:=sizeOf320
 v64:=zeroValue320}
theorem Holds.grown{B:World}{H:List HP}{w:World}(h:Holds B H w)(os:Array Obj):Holds B H (Go.Sort.grow w os):=by
 refine⟨h.os,h.tape,h.output,by simp[Go.Sort.grow];have:=h.size;omega,of (fun b o e=> ?_) h.sat⟩
 have hb:=(Array.getElem?_eq_some_iff.1 e).1
 show(w.heap++os)[b]? =_
 rw[Array.getElem?_append_left hb];exact e
theorem xz{xs ys:List Int}{rest:List Value}(h:ys.length=xs.length):Go.Sort.putCells (Value.int .i64) 0 ys.toArray (xs.map i64++rest).toArray=(ys.map i64++rest).toArray:=by
 apply Array.ext_getElem?
 intro j
 simp only[Go.Sort.putCells,Array.getElem?_mapIdx,List.getElem?_toArray]
 by_cases hj:j<xs.length
 ·rw[List.getElem?_append_left (by simpa using hj),List.getElem?_append_left (by simp;omega)]
  have hj':j<ys.length:=by omega
  simp[hj,hj']
 ·rw[List.getElem?_append_right (by simp;omega),List.getElem?_append_right (by simp;omega)]
  simp[h]
  cases e:rest[j - xs.length]? with
  | none=>rfl
  | some v=>simp;omega
theorem va{B:World}{bd T:Nat}{xs ys:List Int}{rest:List Value}{Fr:List HP}{w:World}(h:Holds B (row bd (xs.map i64++rest) T::Fr) w)(hl:ys.length=xs.length)(n:Nat)(os:Array Obj):
 Holds B (row bd (ys.map i64++rest) T::Fr) (Go.Sort.grow (Go.Sort.putRow (Value.int .i64) (Go.Sort.ahead w n) bd 0 ys.toArray) os):=by
 have hr:=h.read 0 rfl
 have h1:=(h.drew (w.drawn+n)).put 0 rfl (.cells (ys.map i64++rest).toArray T (0,0))
 have e:Go.Sort.putRow (Value.int .i64) (Go.Sort.ahead w n) bd 0 ys.toArray={w with drawn:=w.drawn+n,heap:=w.heap.setIfInBounds bd (.cells (ys.map i64++rest).toArray T (0,0))}:=by
  obtain⟨hlt,hg⟩:=Array.getElem?_eq_some_iff.1 hr
  simp only[Go.Sort.putRow,Go.Sort.mapBlock,Go.Sort.ahead]
  congr 1
  apply Array.ext_getElem?
  intro k
  rw[Array.getElem?_modify]
  by_cases hk:bd=k
  ·subst hk
   rw[hr]
   simp[hlt,Go.Sort.onCells,xz hl]
  ·simp[hk]
 rw[e]
 exact Holds.grown h1 os
def bZ(l:List Int):List Int:=l.mergeSort fun x y=>decide (x≤y)
theorem n8{l l':List Int}(h:l.Perm l'):bZ l=bZ l':=by
 have tr:∀ a b c:Int,decide (a≤b)=true→decide (b≤c)=true→decide (a≤c)=true:=fun a b c h1 h2=>by simp only[decide_eq_true_eq] at*;omega
 have to:∀ a b:Int,(decide (a≤b)||decide (b≤a))=true:=fun a b=>by simp only[Bool.or_eq_true,decide_eq_true_eq];omega
 refine List.Perm.eq_of_pairwise (le:=fun a b=>decide (a≤b)=true) (fun a b _ _ h1 h2=> ?_) (List.pairwise_mergeSort tr to l) (List.pairwise_mergeSort tr to l') (((List.mergeSort_perm l _).trans h).trans (List.mergeSort_perm l' _).symm)
 simp only[decide_eq_true_eq] at h1 h2;omega
theorem sW(B:World)(Fr:List HP)(sv:Value)(xs:List Int)(hx:xs.length≤1000000):∀ w,Holds B (iz 0 (sv,xs)::Fr) w→Calls Tryz.prog 192 [sv].toArray w (Ret B (fun _ H'=>H'=iz 0 (sv,bZ xs)::Fr) (fun _ _=>False)):=by
 intro w hw
 have hl:(bZ xs).length=xs.length:=List.length_mergeSort ..
 rcases jE hw with ⟨rfl,rfl,h⟩ | ⟨bd,rest,rfl,h⟩
 ·have:=AnyM.slices_Sort_int_none Tryz.sortA none 0 w
  refine this.mono ?_
  rintro e w' ⟨rfl,rfl⟩
  exact⟨_,rfl,by simpa [bZ] using uP h⟩
 ·have hh:Go.Sort.Holds (Value.int .i64) w bd 0 xs.toArray:=by
   intro j hj
   have hj':j<xs.length:=by simpa using hj
   have h1:=h.cell 0 rfl (0+j)
   have h2:=h.free 0 rfl (0+j)
   refine⟨h1.trans ?_,h2⟩
   rw[Nat.zero_add,List.getElem?_append_left (by simpa using hj')]
   simp[hj']
  have:=AnyM.slices_Sort_int Tryz.sortA bd 0 (xs.length+rest.length) xs w hh (h.row_lt 0 rfl) (by omega)
  refine this.mono ?_
  rintro e w' ⟨rfl,n,os,rfl⟩
  exact⟨_,rfl,pJ (by rw[hl]) (by omega) (va h hl n os)⟩
theorem vF(B:World)(Fr:List HP)(mr bb:Nat)(ml:List (Int×Unit))(hml:ml.length≤1000000):
 ∀ w,Holds B (row bb [.map (some mr)] 169::bx .i64 bX mr ml::Fr) w→Calls Tryz.prog 191 [.func (.func 193) [].toArray [ptr bb].toArray].toArray w (Ret B (fun rv H'=>∃ ks:List Int,ks.Perm (ml.map Prod.fst)∧H'=iz 0 (rv,ks)::bx .i64 bX mr ml::Fr) (fun _ _=>False)):=by
 refine an func191 aa ntmps191 aa (ac (ab (kPa aa aa (ad (ac (ab (kPm aa aa (aH aa (au call211 aa) (yw _ _ mr bb ml hml) .free aa aa ?_))))))))
 rintro _ _ ⟨ks,hks,rfl⟩
 refine kPa aa aa (ad (az ?_))
 exact aq results191 aa (fun w hw=>⟨_,⟨ks,hks,rfl⟩,hw⟩)
theorem xr(B:World)(Fr:List HP)(mr bb:Nat)(ml:List (Int×Unit))(hml:ml.length≤1000000):
 ∀ w,Holds B (row bb [.map (some mr)] 169::bx .i64 bX mr ml::Fr) w→Calls Tryz.prog 149 [.func (.func 193) [].toArray [ptr bb].toArray].toArray w (Ret B (fun rv H'=>H'=iz 0 (rv,bZ (ml.map Prod.fst))::bx .i64 bX mr ml::Fr) (fun _ _=>False)):=by
 refine an func149 aa ntmps149 aa (ac (ab (kPa aa aa (ad (ac (ab (kPm aa aa (aH aa (au call191 aa) (vF _ _ mr bb ml hml) .free aa aa ?_))))))))
 rintro v5 _ ⟨ks,hks,rfl⟩
 have hkl:ks.length≤1000000:=by rw[hks.length_eq,List.length_map];exact hml
 refine kPa aa aa (ad (ac (ab (kPm aa aa (aH aa (au call192 aa) (sW _ _ _ ks hkl) .free aa aa ?_)))))
 rintro _ _ rfl
 refine ad (ac (ab (kPm aa aa (kPa aa aa (ad (am [2] rfl (az ?_)))))))
 exact aq results149 aa (fun w hw=>⟨_,rfl,by rw[←n8 hks];exact hw⟩)
end Go.Proofs.YtoakdoeajpjgkaaGreatDoor
