/- Part of a law's texts. Conditions: none. -/
import Derived.Test.YtlcibdhmgclfjaaGreatQL17Re
import Derived.Sort.Grow
import Derived.Shelf.SortM.Plain
import Derived.Shelf.SortM.SortNone
open Go.Proofs.Tryz
set_option linter.all false
namespace Go.Proofs.YtlcibdhmgclfjaaGreat
open Go
theorem Cb(x:Int):sC .and .u64 x 4294967295=x%4294967296:=by
 have h1:(BitVec.ofInt 64 x&&& BitVec.ofInt 64 4294967295).toNat=(x%18446744073709551616).toNat%4294967296:=by
  rw[BitVec.toNat_and,BitVec.toNat_ofInt,BitVec.toNat_ofInt]
  have:((4294967295:Int)%((2 ^ 64:Nat):Int)).toNat=2 ^ 32 - 1:=by decide
  rw[this,Nat.and_two_pow_sub_one_eq_mod]
  rfl
 show IntKind.u64.wrap ((BitVec.ofInt 64 x&&& BitVec.ofInt 64 4294967295).toNat:Int)=_
 rw[h1,fW (by omega)];omega
theorem Fm{e i:Int}(h:0≤e∧e<4294967296)(h2:0≤i∧i<4294967296):sC .or .u64 (e*4294967296) i=e*4294967296+i:=by
 have h1:(BitVec.ofInt 64 (e*4294967296)||| BitVec.ofInt 64 i).toNat=e.toNat*4294967296+i.toNat:=by
  rw[BitVec.toNat_or,BitVec.toNat_ofInt,BitVec.toNat_ofInt]
  have e1:((e*4294967296)%((2 ^ 64:Nat):Int)).toNat=e.toNat<<<32:=by rw[Nat.shiftLeft_eq];omega
  have e2:(i%((2 ^ 64:Nat):Int)).toNat=i.toNat:=by omega
  rw[e1,e2, ←Nat.shiftLeft_add_eq_or_of_lt (by omega),Nat.shiftLeft_eq]
 show IntKind.u64.wrap ((BitVec.ofInt 64 (e*4294967296)||| BitVec.ofInt 64 i).toNat:Int)=_
 rw[h1,fW (by omega)];omega
theorem EX{e:Int}(h:0≤e∧e<4294967296):IntKind.u64.wrap (e*2 ^ min (32:Int).toNat IntKind.u64.bits)=e*4294967296:=by
 have:min (32:Int).toNat IntKind.u64.bits=32:=by decide
 rw[this,show(2:Int) ^ 32=4294967296 by decide,fW (by omega)]
def gY(e i:Int):Int:=e*4294967296+(i+1)
structure ce where
 d:Nat
 c:Cfg
 epoch:Int
 n:Int
structure dZ(L:ce):Prop where
 c:bC L.c
 e1:0≤L.epoch
 e2:L.epoch<4294967296
 n1:0≤L.n
 n2:L.n≤L.c.log
abbrev dz(b:Nat)(L:ce):HP:=row b [ptr L.d,i64 L.c.log,i64 L.c.roots,i64 L.c.space,w64 L.epoch,i64 L.n] 171
def Out.then{α β:Type}(m:Out α)(f:α→Dev→Out β):Out β:=match m with
 | .ok a s=>f a s
 | .off s=> .off s
@[simp] theorem aX {α β:Type} (a:α) (s:Dev) (f:α→Dev→Out β):(Out.ok a s).then f=f a s:=rfl
@[simp] theorem EU {α β:Type} (s:Dev) (f:α→Dev→Out β):(Out.off s:Out α).then f= .off s:=rfl
def ce.append(L:ce)(s:Dev)(i:Int):Out (Int×ce):=
 if i<0∨s.n≤i then .ok (1,L) s
 else if L.n=L.c.log then .ok (3,L) s
 else
  (s.store (L.c.record L.n+1) i).then fun _ s=>(s.store (L.c.record L.n+2) (s.load i)).then fun _ s=>
  (s.flush (L.c.record L.n)).then fun _ s=>s.fence.then fun _ s=>
  (s.store (L.c.record L.n) (gY L.epoch L.n)).then fun _ s=>(s.flush (L.c.record L.n)).then fun _ s=>s.fence.then fun _ s=> .ok (0,{L with n:=L.n+1}) s
def ce.truncate(L:ce)(s:Dev):Out ce:=
 if L.n=0 then .ok L s else
  (s.store 8 ((L.epoch+1)%4294967296)).then fun _ s=>(s.flush 8).then fun _ s=>s.fence.then fun _ s=> .ok {L with epoch:=(L.epoch+1)%4294967296,n:=0} s
theorem uY(B:World)(H:List HP)(e i:Int)(he:0≤e∧e<4294967296)(hi:0≤i∧i<1000000):
 ∀ w,Holds B H w→Calls Tryz.prog 131 [w64 e,i64 i].toArray w (bB B H (w64 (gY e i))):=by
 refine au func131 aa ntmps131 aa (ac (ab (kPa aa aa (ad (ac (ab (kPm aa aa (kPv (xy aa aa (by decide) (EX he)) aa (kPm aa aa (kPv (aS aa aa) aa (kPv (bP runUnderlying3 runUnderlying26 aa) aa ?_)))))))))))
 refine kPv (BL aa aa (Fm he (by omega))) aa (kPa aa aa (ad (ao [4] rfl (az ?_))))
 exact ax results131 aa (fun w hw=>⟨rfl,hw⟩)
theorem yt(B:World)(Fr:List HP)(bl:Nat)(L:ce):
 ∀ w,Holds B (dz bl L::Fr) w→Calls Tryz.prog 76 [ptr bl].toArray w (bB B (dz bl L::Fr) (i64 L.n)):=by
 refine au func76 aa ntmps76 aa (ac (ab (kPa aa aa (ad (ac (ab (kPm aa aa (kPv (ak aa) aa (kPv (aj (m:=_) dH aa aa) aa (kPv (ae isAgg3 aa aa) aa (kPa aa aa ?_)))))))))))
 refine ad (az ?_)
 exact ax results76 aa (fun w hw=>⟨rfl,hw⟩)
theorem zF(B:World)(Fr:List HP)(bl:Nat)(L:ce):
 ∀ w,Holds B (dz bl L::Fr) w→Calls Tryz.prog 216 [ptr bl].toArray w (bB B (dz bl L::Fr) (w64 L.epoch)):=by
 refine au func216 aa ntmps216 aa (ac (ab (kPa aa aa (ad (ac (ab (kPm aa aa (kPv (ak aa) aa (kPv (aj (m:=_) kr aa aa) aa (kPv (ae isAgg26 aa aa) aa (kPa aa aa ?_)))))))))))
 refine ad (az ?_)
 exact ax results216 aa (fun w hw=>⟨rfl,hw⟩)
theorem mc(B:World)(Fr:List HP)(bl:Nat)(L:ce)(s:Dev)(hL:dZ L):
 ∀ w,Holds B (dz bl L::aG L.d s::Fr) w→Calls Tryz.prog 128 [ptr bl].toArray w (Ret B (fun rv H'=>∃ L' s',L.truncate s= .ok L' s'∧rv= .tuple #[]∧H'=dz bl L'::aG L.d s'::Fr) (fun c H'=>∃ s',L.truncate s= .off s'∧c=dN∧H'=dz bl L::aG L.d s'::Fr)):=by
 refine au func128 aa ntmps128 aa ?_
 have hc:=hL.c
 have hc1:=hc.r1
 have hc2:=hc.r2
 have hc3:=hc.l1
 have hc4:=hc.l2
 have hl1:=hL.e1
 have hl2:=hL.e2
 have hl3:=hL.n1
 have hl4:=hL.n2
 have hrc:16≤L.c.record L.n∧L.c.record L.n≤10000:=by simp only[Cfg.record];omega
 refine mA L.d fun hn1 hn2 hn3=>(ac (ac (ab (kPm aa aa (kPv (ak aa) aa (kPv (aj (m:=_) dH aa aa) aa (kPv (ae isAgg3 aa aa) aa (kPv (an aa aa aa) aa (ad ?_)))))))))
 refine aW aa (fun h6=> ?_) (fun h6=> ?_)
 ·try simp only[decide_eq_true_eq,decide_eq_false_iff_not,Bool.not_eq_true',Bool.not_eq_false',Bool.or_eq_true,Bool.and_eq_true,Bool.and_eq_false_iff,Bool.or_eq_false_iff,beq_iff_eq,bne_iff_ne,beq_eq_false_iff_ne,bne_eq_false_iff_eq,ge_iff_le,gt_iff_lt,ne_eq] at h6
  refine az ?_
  exact lK results128 (fun w hh=>⟨_,⟨L,s,by simp[ce.truncate, *],rfl,rfl⟩,hh⟩)
 ·try simp only[decide_eq_true_eq,decide_eq_false_iff_not,Bool.not_eq_true',Bool.not_eq_false',Bool.or_eq_true,Bool.and_eq_true,Bool.and_eq_false_iff,Bool.or_eq_false_iff,beq_iff_eq,bne_iff_ne,beq_eq_false_iff_ne,bne_eq_false_iff_eq,ge_iff_le,gt_iff_lt,ne_eq] at h6
  refine ay (ac (cD 10 Tryz.mixed (by kernel_rfl) (by kernel_rfl) ?_))
  refine kQm aa aa (kQv (ak aa) aa (kQv (aj (m:=_) df aa aa) aa (kQv (ae isAgg28 aa aa) aa (kQm aa aa (kQv (ak aa) aa (kQv (aj (m:=_) kr aa aa) aa (kQv (ae isAgg26 aa aa) aa (kQv (aS aa aa) aa (kQv (ux aa aa (Cb _)) aa (bR ?_))))))))))
  refine aY aa (aA call120 aa) (da (fun Fr=>cZ _ Fr _ _ _ _)) .free aa aa ?_ ?_
  rotate_left
  ·rintro _ _ ⟨s9,⟨hm9,rfl⟩,rfl⟩
   exact bz fun w hh=>⟨_,⟨_,by simp[ce.truncate, *],rfl,rfl⟩,hh⟩
  rintro _ _ ⟨s1,⟨e1,hm1,rfl⟩,rfl⟩
  refine ad (ao [0] rfl (ac (ab (kPm aa aa (kPv (ak aa) aa (kPv (aj (m:=_) df aa aa) aa (kPv (ae isAgg28 aa aa) aa ?_)))))))
  refine aY aa (aA call126 aa) (da (fun Fr=>ed _ Fr _ _ _)) .free aa aa ?_ ?_
  rotate_left
  ·rintro _ _ ⟨s9,⟨hm9,rfl⟩,rfl⟩
   exact bz fun w hh=>⟨_,⟨_,by simp[ce.truncate, *],rfl,rfl⟩,hh⟩
  rintro _ _ ⟨s2,⟨e2,hm2,rfl⟩,rfl⟩
  refine ad (ac (ab (kPm aa aa (kPv (ak aa) aa (kPv (aj (m:=_) df aa aa) aa (kPv (ae isAgg28 aa aa) aa ?_))))))
  refine aY aa (aA call127 aa) (da (fun Fr=>fK _ Fr _ _)) .free aa aa ?_ ?_
  rotate_left
  ·rintro _ _ ⟨s9,⟨hm9,rfl⟩,rfl⟩
   exact bz fun w hh=>⟨_,⟨_,by simp[ce.truncate, *],rfl,rfl⟩,hh⟩
  rintro _ _ ⟨s3,⟨e3,hm3,rfl⟩,rfl⟩
  refine ad (ao [0] rfl (ac (ab (kPm aa aa (kPm aa aa (kPv (ak aa) aa (kPv (aj (m:=_) kr aa aa) aa (kPv (ae isAgg26 aa aa) aa (kPv (aS aa aa) aa (kPv (ux aa aa (Cb _)) aa (kPv (ak aa) aa ?_)))))))))))
  refine kPv (aj (m:=_) kr aa aa) aa (aD aa (aR sizeOf26 aa aa aa aa) .free aa ?_)
  rintro _ _ rfl
  refine ad (ao [0] rfl (ab (kPm aa aa (kPv (ak aa) aa (kPv (aj (m:=_) dH aa aa) aa (aD aa (aR sizeOf3 aa aa aa aa) .free aa ?_))))))
  rintro _ _ rfl
  refine ad ?_
  exact cS results128 (fun w hh=>⟨_,⟨{L with epoch:=(L.epoch+1)%4294967296,n:=0},_,by simp[ce.truncate, *],rfl,rfl⟩,hh⟩)
theorem q9(B:World)(Fr:List HP)(bl:Nat)(L:ce)(s:Dev)(hL:dZ L)(i:Int):
 ∀ w,Holds B (dz bl L::aG L.d s::Fr) w→Calls Tryz.prog 119 [ptr bl,i64 i].toArray w (Ret B (fun rv H'=>∃ a L' s',L.append s i= .ok (a,L') s'∧rv=i64 a∧H'=dz bl L'::aG L.d s'::Fr) (fun c H'=>∃ s',L.append s i= .off s'∧c=dN∧H'=dz bl L::aG L.d s'::Fr)):=by
 refine au func119 aa ntmps119 aa ?_
 have hc:=hL.c
 have hc1:=hc.r1
 have hc2:=hc.r2
 have hc3:=hc.l1
 have hc4:=hc.l2
 have hl1:=hL.e1
 have hl2:=hL.e2
 have hl3:=hL.n1
 have hl4:=hL.n2
 have hrc:16≤L.c.record L.n∧L.c.record L.n≤10000:=by simp only[Cfg.record];omega
 refine mA L.d fun hn1 hn2 hn3=>(ac (ab (kPa aa aa (ad (ac (aO (ac (ab (kPm aa aa (kPv (an aa aa aa) aa (kPm aa aa ?_)))))))))))
 apply gl (tp:=17) (t:=9) (σ1:=[(9,_),(4,_),(0,_),(1,_)]) 8 rfl (aF rfl)
 ·intro hg1
  refine aq aa (ap aa) (.on aa aa (ah hg1)) aa aa (aq aa (ap aa) (.on aa aa (ah hg1)) aa aa (aq aa (ak aa) (.on aa aa (ah hg1)) aa aa (aq aa (aj (m:=_) df aa aa) (.on aa aa (ah hg1)) aa aa (aq aa (ae isAgg28 aa aa) (.on aa aa (ah hg1)) aa aa (aE aa (aA call118 aa) (bU (q:=aG) (fun Fr=>ma _ Fr _ _)) (.on aa aa (ah hg1)) aa aa ?_)))))
  refine aq aa (an aa aa aa) (.on aa aa (ah hg1)) aa aa (kPv (aL aa hg1 aa) aa ?_)
  exact ba aa (aF aa) (eZ hg1)
 ·intro hg1
  refine ar aa (.on aa aa (ai hg1)) aa (ar aa (.on aa aa (ai hg1)) aa (ar aa (.on aa aa (ai hg1)) aa (ar aa (.on aa aa (ai hg1)) aa (ar aa (.on aa aa (ai hg1)) aa (ar aa (.on aa aa (ai hg1)) aa (ar aa (.on aa aa (ai hg1)) aa (kPv (aH aa hg1 aa) aa ?_)))))))
  exact ba aa (aF aa) (eY hg1)
 refine kPa aa aa (ad ?_)
 refine aW aa (fun h6=> ?_) (fun h6=> ?_)
 ·try simp only[decide_eq_true_eq,decide_eq_false_iff_not,Bool.not_eq_true',Bool.not_eq_false',Bool.or_eq_true,Bool.and_eq_true,Bool.and_eq_false_iff,Bool.or_eq_false_iff,beq_iff_eq,bne_iff_ne,beq_eq_false_iff_ne,bne_eq_false_iff_eq,ge_iff_le,gt_iff_lt,ne_eq] at h6
  refine ac (ab (kPa aa aa (ad (az ?_))))
  exact ax results119 aa (fun w hh=>⟨_,⟨1,L,s,by simp[ce.append, *],rfl,rfl⟩,hh⟩)
 ·try simp only[decide_eq_true_eq,decide_eq_false_iff_not,Bool.not_eq_true',Bool.not_eq_false',Bool.or_eq_true,Bool.and_eq_true,Bool.and_eq_false_iff,Bool.or_eq_false_iff,beq_iff_eq,bne_iff_ne,beq_eq_false_iff_ne,bne_eq_false_iff_eq,ge_iff_le,gt_iff_lt,ne_eq] at h6
  refine ac (cK Tryz.mixed (by kernel_rfl) (by kernel_rfl) ?_)
  refine kQm aa aa (kQv (ak aa) aa (kQv (aj (m:=_) dH aa aa) aa (kQv (ae isAgg3 aa aa) aa (kQm aa aa (kQv (ak aa) aa (kQv (aj (m:=_) lS aa aa) aa (kQv (aj (m:=_) jM aa aa) aa (kQv (ae isAgg3 aa aa) aa (kQv (an aa aa aa) aa (kQa aa aa (bR ?_)))))))))))
  refine ao [18,4,0,1] rfl ?_
  refine aW aa (fun h18=> ?_) (fun h18=> ?_)
  ·try simp only[decide_eq_true_eq,decide_eq_false_iff_not,Bool.not_eq_true',Bool.not_eq_false',Bool.or_eq_true,Bool.and_eq_true,Bool.and_eq_false_iff,Bool.or_eq_false_iff,beq_iff_eq,bne_iff_ne,beq_eq_false_iff_ne,bne_eq_false_iff_eq,ge_iff_le,gt_iff_lt,ne_eq] at h18
   refine ac (ab (kPa aa aa (ad (az ?_))))
   exact ax results119 aa (fun w hh=>⟨_,⟨3,L,s,by simp[ce.append, *],rfl,rfl⟩,hh⟩)
  ·try simp only[decide_eq_true_eq,decide_eq_false_iff_not,Bool.not_eq_true',Bool.not_eq_false',Bool.or_eq_true,Bool.and_eq_true,Bool.and_eq_false_iff,Bool.or_eq_false_iff,beq_iff_eq,bne_iff_ne,beq_eq_false_iff_ne,bne_eq_false_iff_eq,ge_iff_le,gt_iff_lt,ne_eq] at h18
   refine ay (ac (cK Tryz.mixed (by kernel_rfl) (by kernel_rfl) ?_))
   refine kQm aa aa (kQv (ak aa) aa (kQv (aj (m:=_) lS aa aa) aa (kQv (am isAgg40 sizeOf40 aa aa) aa ?_)))
   refine kQm aa aa (kQv (ak aa) aa (kQv (aj (m:=_) dH aa aa) aa (kQv (ae isAgg3 aa aa) aa (bH aa (aA call130 aa) (ia _ _ L.c _ (by omega) (by omega)) .free aa ?_))))
   refine kQa aa aa (bR (ao [5,4,0,1] rfl (ac (ab (kPm aa aa (kPv (ak aa) aa (kPv (aj (m:=_) df aa aa) aa (kPv (ae isAgg28 aa aa) aa (kPm aa aa (kPv (aS aa aa) aa (kPm aa aa ?_)))))))))))
   refine kPv (bP runUnderlying3 runUnderlying26 aa) aa ?_
   refine aY aa (aA call120 aa) (da (fun Fr=>cZ _ Fr _ _ _ _)) .free aa aa ?_ ?_
   rotate_left
   ·rintro _ _ ⟨s9,⟨hm9,rfl⟩,rfl⟩
    exact bz fun w hh=>⟨_,⟨_,by simp[ce.append, *],rfl,rfl⟩,hh⟩
   rintro _ _ ⟨s1,⟨e1,hm1,rfl⟩,rfl⟩
   refine ad (ao [5,4,0,1] rfl (ac (cD 12 Tryz.mixed (by kernel_rfl) (by kernel_rfl) ?_)))
   refine kQm aa aa (kQv (ak aa) aa (kQv (aj (m:=_) df aa aa) aa (kQv (ae isAgg28 aa aa) aa (kQm aa aa (kQv (aS aa aa) aa (kQm aa aa (kQv (ak aa) aa (kQv (aj (m:=_) df aa aa) aa (kQv (ae isAgg28 aa aa) aa (kQm aa aa (bH aa (aA call71 aa) (bU (q:=aG) (fun Fr=>cH _ Fr _ _ _)) .free aa ?_)))))))))))
   refine bR ?_
   refine aY aa (aA call120 aa) (da (fun Fr=>cZ _ Fr _ _ _ _)) .free aa aa ?_ ?_
   rotate_left
   ·rintro _ _ ⟨s9,⟨hm9,rfl⟩,rfl⟩
    exact bz fun w hh=>⟨_,⟨_,by simp[ce.append, *],rfl,rfl⟩,hh⟩
   rintro _ _ ⟨s2,⟨e2,hm2,rfl⟩,rfl⟩
   refine ad (ao [5,4,0] rfl (ac (ab (kPm aa aa (kPv (ak aa) aa (kPv (aj (m:=_) df aa aa) aa (kPv (ae isAgg28 aa aa) aa (kPm aa aa ?_))))))))
   refine aY aa (aA call126 aa) (da (fun Fr=>ed _ Fr _ _ _)) .free aa aa ?_ ?_
   rotate_left
   ·rintro _ _ ⟨s9,⟨hm9,rfl⟩,rfl⟩
    exact bz fun w hh=>⟨_,⟨_,by simp[ce.append, *],rfl,rfl⟩,hh⟩
   rintro _ _ ⟨s3,⟨e3,hm3,rfl⟩,rfl⟩
   refine ad (ac (ab (kPm aa aa (kPv (ak aa) aa (kPv (aj (m:=_) df aa aa) aa (kPv (ae isAgg28 aa aa) aa ?_))))))
   refine aY aa (aA call127 aa) (da (fun Fr=>fK _ Fr _ _)) .free aa aa ?_ ?_
   rotate_left
   ·rintro _ _ ⟨s9,⟨hm9,rfl⟩,rfl⟩
    exact bz fun w hh=>⟨_,⟨_,by simp[ce.append, *],rfl,rfl⟩,hh⟩
   rintro _ _ ⟨s4,⟨e4,hm4,rfl⟩,rfl⟩
   refine ad (ao [5,4,0] rfl (ac (cD 14 Tryz.mixed (by kernel_rfl) (by kernel_rfl) ?_)))
   refine kQm aa aa (kQv (ak aa) aa (kQv (aj (m:=_) df aa aa) aa (kQv (ae isAgg28 aa aa) aa (kQm aa aa (kQm aa aa (kQv (ak aa) aa (kQv (aj (m:=_) kr aa aa) aa (kQv (ae isAgg26 aa aa) aa (kQm aa aa (kQv (ak aa) aa (kQv (aj (m:=_) dH aa aa) aa ?_)))))))))))
   refine kQv (ae isAgg3 aa aa) aa (bH aa (aA call131 aa) (uY _ _ _ _ ⟨by omega,by omega⟩ ⟨by omega,by omega⟩) .free aa ?_)
   refine bR ?_
   refine aY aa (aA call120 aa) (da (fun Fr=>cZ _ Fr _ _ _ _)) .free aa aa ?_ ?_
   rotate_left
   ·rintro _ _ ⟨s9,⟨hm9,rfl⟩,rfl⟩
    exact bz fun w hh=>⟨_,⟨_,by simp[ce.append, *],rfl,rfl⟩,hh⟩
   rintro _ _ ⟨s5,⟨e5,hm5,rfl⟩,rfl⟩
   refine ad (ao [5,4,0] rfl (ac (ab (kPm aa aa (kPv (ak aa) aa (kPv (aj (m:=_) df aa aa) aa (kPv (ae isAgg28 aa aa) aa (kPm aa aa ?_))))))))
   refine aY aa (aA call126 aa) (da (fun Fr=>ed _ Fr _ _ _)) .free aa aa ?_ ?_
   rotate_left
   ·rintro _ _ ⟨s9,⟨hm9,rfl⟩,rfl⟩
    exact bz fun w hh=>⟨_,⟨_,by simp[ce.append, *],rfl,rfl⟩,hh⟩
   rintro _ _ ⟨s6,⟨e6,hm6,rfl⟩,rfl⟩
   refine ad (ao [4,0] rfl (ac (ab (kPm aa aa (kPv (ak aa) aa (kPv (aj (m:=_) df aa aa) aa (kPv (ae isAgg28 aa aa) aa ?_)))))))
   refine aY aa (aA call127 aa) (da (fun Fr=>fK _ Fr _ _)) .free aa aa ?_ ?_
   rotate_left
   ·rintro _ _ ⟨s9,⟨hm9,rfl⟩,rfl⟩
    exact bz fun w hh=>⟨_,⟨_,by simp[ce.append, *],rfl,rfl⟩,hh⟩
   rintro _ _ ⟨s7,⟨e7,hm7,rfl⟩,rfl⟩
   refine ad (ac (ab (kPm aa aa (kPv (ak aa) aa (kPv (aj (m:=_) dH aa aa) aa (kPv (ae isAgg3 aa aa) aa (kPv (aS aa aa) aa (kPv (ak aa) aa (kPv (aj (m:=_) dH aa aa) aa (aD aa (aR sizeOf3 aa aa aa aa) .free aa ?_))))))))))
   rintro _ _ rfl
   refine ad (ao [4] rfl (ac (ab (kPa aa aa (ad (az ?_))))))
   exact ax results119 aa (fun w hh=>⟨_,⟨0,{L with n:=L.n+1},_,by simp[ce.append, *],rfl,rfl⟩,hh⟩)
def iE(s:Dev)(c:Cfg)(e:Int):Nat→Int→Int
 | 0,n=>n
 | f+1,n=>if s.load (c.record n)=gY e n then iE s c e f (n+1) else n
def cC(d:Nat)(c:Cfg)(s:Dev):ce:=⟨d,c,s.load 8%4294967296,iE s c (s.load 8%4294967296) c.log.toNat 0⟩
theorem vk(s:Dev)(c:Cfg)(e:Int):∀ f n,n≤iE s c e f n∧iE s c e f n≤n+f
 | 0,n=>by simp[iE]
 | f+1,n=>by
   have:=vk s c e f (n+1)
   simp only[iE];split<;>omega
theorem jH{d:Nat}{c:Cfg}{s:Dev}(h:bC c):dZ (cC d c s):=by
 have:=vk s c (s.load 8%4294967296) c.log.toNat 0
 have:=h.l1;have:=h.r1
 exact⟨h,by simp only[cC];omega,by simp only[cC];omega,by simp only[cC];omega,by simp only[cC];omega⟩
theorem lO(B:World)(Fr:List HP)(bd:Nat)(s:Dev)(c:Cfg)(hc:bC c):
 ∀ w,Holds B (aG bd s::Fr) w→Calls Tryz.prog 64 [ptr bd,eO c].toArray w (Ret B (fun rv H'=>∃ bl,rv=ptr bl∧H'=dz bl (cC bd c s)::aG bd s::Fr) (fun _ _=>False)):=by
 refine au func64 aa ntmps64 aa ?_
 have hc1:=hc.r1
 have hc2:=hc.r2
 have hc3:=hc.l1
 have hc4:=hc.l2
 refine ac (ab (aC aa (bx aa) .free aa aa ?_))
 rintro _ _ ⟨b3,rfl,rfl⟩
 refine kPa aa aa (ad (ac (cD 6 Tryz.mixed (by kernel_rfl) (by kernel_rfl) ?_)))
 refine kQm aa aa (kQv (am isAgg40 sizeOf40 aa aa) aa ?_)
 refine kQm aa aa (bH aa (aA call71 aa) (bU (q:=aG) (fun Fr=>cH _ Fr _ _ _)) .free aa ?_)
 refine kQv (ux aa aa (Cb _)) aa ?_
 refine bA aa (aZ aa (sB _ _ _ _ _ (by first | rfl | assumption) rfl)) .free rfl ?_
 refine bR (aC aa (bx aa) .free aa aa ?_)
 rintro _ _ ⟨b12,rfl,rfl⟩
 refine kPa aa aa (ad (ao [5,4,3,0] rfl (ac (aO (dY (ι:=Int) (fun n=>(0≤n∧n≤c.log)∧iE s c (s.load 8%4294967296) (c.log - n).toNat n=iE s c (s.load 8%4294967296) c.log.toNat 0) (fun _=>[(0,ptr bd),(3,ptr b3),(4,.pointer none),(5,ptr b12)]) (fun n=>row b12 [ptr bd,i64 c.log,i64 c.roots,i64 c.space,w64 (s.load 8%4294967296),i64 n] 171::row b3 [i64 c.log,i64 c.roots,i64 c.space] 40::aG bd s::Fr) (fun n=>(c.log - n).toNat) 0 ⟨⟨by omega,by omega⟩,by rw[Int.sub_zero]⟩ (fun a w st=>st.to ⟨rfl,rfl,rfl,rfl,trivial⟩ id) ?_)))))
 rintro n ⟨⟨hn1,hn2⟩,hn3⟩
 refine ac (ac (cK Tryz.mixed (by kernel_rfl) (by kernel_rfl) ?_))
 refine kQm aa aa (kQv (ak aa) aa (kQv (aj (m:=_) dH aa aa) aa (kQv (ae isAgg3 aa aa) aa (kQv (aj (m:=_) jM aa aa) aa (kQv (ae isAgg3 aa aa) aa (kQv (an aa aa aa) aa (kQm aa aa ?_)))))))
 apply np (tp:=39) (t:=20) (σ1:=[(20,_),(5,_),(4,_),(3,_),(0,_)]) 19 rfl (aF rfl)
 ·intro hg1
  refine bA aa (ap aa) (.on aa aa (ah hg1)) aa (bA aa (am isAgg40 sizeOf40 aa aa) (.on aa aa (ah hg1)) aa ?_)
  refine bA aa (ap aa) (.on aa aa (ah hg1)) aa (bA aa (ak aa) (.on aa aa (ah hg1)) aa (bA aa (aj (m:=_) dH aa aa) (.on aa aa (ah hg1)) aa (bA aa (ae isAgg3 aa aa) (.on aa aa (ah hg1)) aa (bH aa (aA call130 aa) (ia _ _ c _ (by omega) (by omega)) (.on aa aa (ah hg1)) aa ?_))))
  refine bH aa (aA call71 aa) (bU (q:=aG) (fun Fr=>cH _ Fr _ _ _)) (.on aa aa (ah hg1)) aa ?_
  refine bA aa (ap aa) (.on aa aa (ah hg1)) aa (bA aa (ak aa) (.on aa aa (ah hg1)) aa (bA aa (aj (m:=_) kr aa aa) (.on aa aa (ah hg1)) aa (bA aa (ae isAgg26 aa aa) (.on aa aa (ah hg1)) aa (bA aa (ap aa) (.on aa aa (ah hg1)) aa (bA aa (ak aa) (.on aa aa (ah hg1)) aa (bA aa (aj (m:=_) dH aa aa) (.on aa aa (ah hg1)) aa (bA aa (ae isAgg3 aa aa) (.on aa aa (ah hg1)) aa (bH aa (aA call131 aa) (uY _ _ _ _ ⟨by omega,by omega⟩ ⟨by omega,by omega⟩) (.on aa aa (ah hg1)) aa ?_))))))))
  refine bA aa (an aa aa aa) (.on aa aa (ah hg1)) aa (kQv (aH aa hg1 aa) aa ?_)
  exact eu aa (aF aa) (cV hg1)
 ·intro hg1
  refine bf aa (.on aa aa (ai hg1)) aa (bf aa (.on aa aa (ai hg1)) aa (bf aa (.on aa aa (ai hg1)) aa (bf aa (.on aa aa (ai hg1)) aa (bf aa (.on aa aa (ai hg1)) aa (bf aa (.on aa aa (ai hg1)) aa (bf aa (.on aa aa (ai hg1)) aa (bf aa (.on aa aa (ai hg1)) aa (bf aa (.on aa aa (ai hg1)) aa (bf aa (.on aa aa (ai hg1)) aa (bf aa (.on aa aa (ai hg1)) aa (bf aa (.on aa aa (ai hg1)) aa ?_)))))))))))
  refine bf aa (.on aa aa (ai hg1)) aa (bf aa (.on aa aa (ai hg1)) aa (bf aa (.on aa aa (ai hg1)) aa (bf aa (.on aa aa (ai hg1)) aa (bf aa (.on aa aa (ai hg1)) aa (bf aa (.on aa aa (ai hg1)) aa (kQv (aL aa hg1 aa) aa ?_))))))
  exact eu aa (aF aa) (cW hg1)
 refine bR ?_
 refine aW aa (fun h39=> ?_) (fun h39=> ?_)
 ·try simp only[decide_eq_true_eq,decide_eq_false_iff_not,Bool.not_eq_true',Bool.not_eq_false',Bool.or_eq_true,Bool.and_eq_true,Bool.and_eq_false_iff,Bool.or_eq_false_iff,beq_iff_eq,bne_iff_ne,beq_eq_false_iff_ne,bne_eq_false_iff_eq,ge_iff_le,gt_iff_lt,ne_eq] at h39
  refine ay (aO (ab (kPm aa aa (kPv (ak aa) aa (kPv (aj (m:=_) dH aa aa) aa (kPv (ae isAgg3 aa aa) aa (kPv (aS aa aa) aa (kPv (ak aa) aa (kPv (aj (m:=_) dH aa aa) aa (aD aa (aR sizeOf3 aa aa aa aa) .free aa ?_))))))))))
  rintro _ _ rfl
  refine ad (ao [5,4,3,0] rfl ?_)
  have e1:(c.log - n).toNat=(c.log - (n+1)).toNat+1:=by omega
  exact fun a w st=>⟨n+1,⟨⟨by omega,by omega⟩,by rw[e1] at hn3;simp only[iE] at hn3;rwa [if_pos h39.2] at hn3⟩,by omega,st.to ⟨rfl,rfl,rfl,rfl,trivial⟩ id⟩
 ·try simp only[decide_eq_true_eq,decide_eq_false_iff_not,Bool.not_eq_true',Bool.not_eq_false',Bool.or_eq_true,Bool.and_eq_true,Bool.and_eq_false_iff,Bool.or_eq_false_iff,beq_iff_eq,bne_iff_ne,beq_eq_false_iff_ne,bne_eq_false_iff_eq,ge_iff_le,gt_iff_lt,ne_eq] at h39
  refine bT (ac (ab (kPm aa aa (kPa aa aa (ad (az ?_))))))
  exact ax results64 aa (fun w hh=>⟨_,⟨b12,rfl,rfl⟩,by
   have e2:iE s c (s.load 8%4294967296) c.log.toNat 0=n:=by
    rw[←hn3]
    cases e1:(c.log - n).toNat with
    | zero=>rfl
    | succ k=>simp only[iE];rw[if_neg (by rcases h39 with h | h;omega;exact h)]
   simp only[cC]
   rw[e2]
   exact(hh.front 1 aa).tail⟩)
def ly(s:Dev)(c:Cfg):Nat→Int→Int
 | 0,_=> -1
 | f+1,k=>if s.load (c.record k+1)<c.active∨(s.n:Int)≤s.load (c.record k+1) then k else ly s c f (k+1)
theorem Bc(B:World)(Fr:List HP)(bl:Nat)(L:ce)(s:Dev)(hL:dZ L):
 ∀ w,Holds B (dz bl L::aG L.d s::Fr) w→Calls Tryz.prog 65 [ptr bl].toArray w (bB B (dz bl L::aG L.d s::Fr) (i64 (ly s L.c L.n.toNat 0))):=by
 refine au func65 aa ntmps65 aa ?_
 have hc:=hL.c
 have hc1:=hc.r1
 have hc2:=hc.r2
 have hc3:=hc.l1
 have hc4:=hc.l2
 have hl1:=hL.e1
 have hl2:=hL.e2
 have hl3:=hL.n1
 have hl4:=hL.n2
 have hrc:16≤L.c.record L.n∧L.c.record L.n≤10000:=by simp only[Cfg.record];omega
 refine mA L.d fun hn1 hn2 hn3=> ?_
 have ha:=hc.act
 refine ac (ab (kPa aa aa (ad (ac (ac (ab (kPm aa aa (kPv (ak aa) aa (kPv (aj (m:=_) dH aa aa) aa (kPv (ae isAgg3 aa aa) aa (kPm aa aa ?_)))))))))))
 refine ad (aO (dY (ι:=Int) (fun k=>(0≤k∧k≤L.n)∧ly s L.c (L.n - k).toNat k=ly s L.c L.n.toNat 0) (fun k=>[(0,ptr bl),(2,i64 0),(8,i64 L.n),(9,i64 k)]) (fun _=>dz bl L::aG L.d s::Fr) (fun k=>(L.n - k).toNat) 0 ⟨⟨by omega,by omega⟩,by rw[Int.sub_zero]⟩ (fun a w st=>st.to ⟨rfl,rfl,rfl,rfl,trivial⟩ id) ?_))
 rintro k ⟨⟨hk1,hk2⟩,hk3⟩
 have hrk:16≤L.c.record k∧L.c.record k≤10000:=by simp only[Cfg.record];omega
 refine ac (ab (kPv (an aa aa aa) aa (ad (ac ?_))))
 refine aW aa (fun h10=> ?_) (fun h10=> ?_)
 ·try simp only[decide_eq_true_eq,decide_eq_false_iff_not,Bool.not_eq_true',Bool.not_eq_false',Bool.or_eq_true,Bool.and_eq_true,Bool.and_eq_false_iff,Bool.or_eq_false_iff,beq_iff_eq,bne_iff_ne,beq_eq_false_iff_ne,bne_eq_false_iff_eq,ge_iff_le,gt_iff_lt,ne_eq] at h10
  refine ay (ac (aO (ac (ab (kPm aa aa (kPa aa aa (ad (ac (cK Tryz.mixed (by kernel_rfl) (by kernel_rfl) ?_)))))))))
  refine kQm aa aa (kQv (ak aa) aa (kQv (aj (m:=_) df aa aa) aa (kQv (ae isAgg28 aa aa) aa (kQm aa aa (kQv (ak aa) aa (kQv (aj (m:=_) lS aa aa) aa (kQv (am isAgg40 sizeOf40 aa aa) aa ?_)))))))
  refine kQm aa aa (bH aa (aA call130 aa) (ia _ _ L.c _ (by omega) (by omega)) .free aa ?_)
  refine kQv (aS aa aa) aa (bH aa (aA call71 aa) (bU (q:=aG) (fun Fr=>cH _ Fr _ _ _)) .free aa ?_)
  refine kQa aa aa (bR (ao [4,3,9,8,2,0] rfl (ac (ab (kPm aa aa (kPm aa aa (kPv (ak aa) aa (kPv (aj (m:=_) lS aa aa) aa (kPv (am isAgg40 sizeOf40 aa aa) aa ?_)))))))))
  refine aE aa (aA call117 aa) (gI _ _ L.c hc) .free aa aa ?_
  refine kPv (bP runUnderlying3 runUnderlying26 aa) aa (kPv (an aa aa aa) aa (kPm aa aa ?_))
  apply gl (tp:=41) (t:=32) (σ1:=[(32,_),(3,_),(9,_),(8,_),(2,_),(0,_)]) 9 rfl (aF rfl)
  ·intro hg1
   refine aq aa (ap aa) (.on aa aa (ah hg1)) aa aa (aq aa (ap aa) (.on aa aa (ah hg1)) aa aa (aq aa (ak aa) (.on aa aa (ah hg1)) aa aa (aq aa (aj (m:=_) df aa aa) (.on aa aa (ah hg1)) aa aa (aq aa (ae isAgg28 aa aa) (.on aa aa (ah hg1)) aa aa (aE aa (aA call118 aa) (bU (q:=aG) (fun Fr=>ma _ Fr _ _)) (.on aa aa (ah hg1)) aa aa ?_)))))
   refine aq aa (bP runUnderlying3 runUnderlying26 aa) (.on aa aa (ah hg1)) aa aa (aq aa (an aa aa aa) (.on aa aa (ah hg1)) aa aa (kPv (aL aa hg1 aa) aa ?_))
   exact ba aa (aF aa) (eZ hg1)
  ·intro hg1
   refine ar aa (.on aa aa (ai hg1)) aa (ar aa (.on aa aa (ai hg1)) aa (ar aa (.on aa aa (ai hg1)) aa (ar aa (.on aa aa (ai hg1)) aa (ar aa (.on aa aa (ai hg1)) aa (ar aa (.on aa aa (ai hg1)) aa (ar aa (.on aa aa (ai hg1)) aa (ar aa (.on aa aa (ai hg1)) aa (kPv (aH aa hg1 aa) aa ?_))))))))
   exact ba aa (aF aa) (eY hg1)
  refine ad ?_
  refine aW aa (fun h41=> ?_) (fun h41=> ?_)
  ·try simp only[decide_eq_true_eq,decide_eq_false_iff_not,Bool.not_eq_true',Bool.not_eq_false',Bool.or_eq_true,Bool.and_eq_true,Bool.and_eq_false_iff,Bool.or_eq_false_iff,beq_iff_eq,bne_iff_ne,beq_eq_false_iff_ne,bne_eq_false_iff_eq,ge_iff_le,gt_iff_lt,ne_eq] at h41
   refine ac (ab (kPm aa aa (kPa aa aa (ad (az ?_)))))
   exact ax results65 aa (fun w hh=>⟨by
   have e1:(L.n - k).toNat=(L.n - (k+1)).toNat+1:=by omega
   rw[←hk3,e1];simp only[ly];rw[if_pos (by omega)],hh⟩)
  ·try simp only[decide_eq_true_eq,decide_eq_false_iff_not,Bool.not_eq_true',Bool.not_eq_false',Bool.or_eq_true,Bool.and_eq_true,Bool.and_eq_false_iff,Bool.or_eq_false_iff,beq_iff_eq,bne_iff_ne,beq_eq_false_iff_ne,bne_eq_false_iff_eq,ge_iff_le,gt_iff_lt,ne_eq] at h41
   refine ay (ab (kPv (aS aa aa) aa (kPm aa aa (ad ?_))))
   have e1:(L.n - k).toNat=(L.n - (k+1)).toNat+1:=by omega
   exact fun a w st=>⟨k+1,⟨⟨by omega,by omega⟩,by rw[e1] at hk3;simp only[ly] at hk3;rwa [if_neg (by omega)] at hk3⟩,by omega,st.to ⟨rfl,rfl,rfl,rfl,trivial⟩ id⟩
 ·try simp only[decide_eq_true_eq,decide_eq_false_iff_not,Bool.not_eq_true',Bool.not_eq_false',Bool.or_eq_true,Bool.and_eq_true,Bool.and_eq_false_iff,Bool.or_eq_false_iff,beq_iff_eq,bne_iff_ne,beq_eq_false_iff_ne,bne_eq_false_iff_eq,ge_iff_le,gt_iff_lt,ne_eq] at h10
  refine bT (ac (ab (kPa aa aa (ad (ao [2] rfl (az ?_))))))
  exact ax results65 aa (fun w hh=>⟨by rw[←hk3,show(L.n - k).toNat=0 by omega];rfl,hh⟩)
def jV(st:Int→Int→Dev→Out Unit)(c:Cfg):Nat→Dev→Out Unit
 | 0,s=> .ok () s
 | k+1,s=>(st (IntKind.i64.wrap (s.load (c.record k+1))) (s.load (c.record k+2)) s).then fun _ s=>jV st c k s
def undoS(i v:Int)(s:Dev):Out Unit:=(s.store i v).then fun _ s=>(s.flush i).then fun _ s=> .ok () s
def ce.undo(L:ce)(s:Dev):Out ce:=
 (jV undoS L.c L.n.toNat s).then fun _ s=>(if 0<L.n then s.fence else .ok () s).then fun _ s=>L.truncate s
theorem pj(B:World)(H:List HP)(bl:Nat):
 ∀ w,Holds B H w→Calls Tryz.prog 132 [ptr bl].toArray w (Ret B (fun v H'=>∃ bb,v= .func (.func 169) [].toArray [ptr bb].toArray∧H'=row bb [ptr bl] 116::H) (fun _ _=>False)):=by
 refine au func132 aa ntmps132 aa (ac (ab (aC aa (dA aa aa) .free aa aa ?_)))
 rintro _ _ ⟨b1,rfl,rfl⟩
 refine kPa aa aa (ad (ac (ab (kPv (dm aa aa) aa (kPa aa aa (ad (az ?_)))))))
 exact ax results132 aa (fun w hw=>⟨_,⟨_,rfl,rfl⟩,hw⟩)
theorem A9(B:World)(Fr:List HP)(bl bb l f:Nat)(L:ce)(s:Dev)(hL:dZ L)(r:Loop)(hrf:r.fn=f)(hrp:r.params.size=2)(st:Int→Int→Dev→Out Unit)(hround:∀ (i v:Int) (s:Dev),∀ w,Holds B (blk l (.loop r)::row bb [ptr bl] 116::dz bl L::aG L.d s::Fr) w→RoundIn (Wd (cxF f)) 0 Tryz.prog l f ((r.params.zip [i64 i,w64 v].toArray).foldl (fun tmps (t,a)=>tmps.setIfInBounds t a) r.tmps) r.assign r.body w (Ret B (fun rv H'=>∃ s',st i v s= .ok () s'∧rv= .bool true∧H'=blk l (.loop r)::row bb [ptr bl] 116::dz bl L::aG L.d s'::Fr) (fun c H'=>∃ s',st i v s= .off s'∧c=dN∧H'=row bb [ptr bl] 116::dz bl L::aG L.d s'::Fr))):
 ∀ w,Holds B (blk l (.loop r)::row bb [ptr bl] 116::dz bl L::aG L.d s::Fr) w→Calls Tryz.prog 169 [.func (.yield l) #[] #[],ptr bb].toArray w (Ret B (fun rv H'=>∃ s',jV st L.c L.n.toNat s= .ok () s'∧H'=blk l (.loop r)::row bb [ptr bl] 116::dz bl L::aG L.d s'::Fr) (fun c H'=>∃ s',jV st L.c L.n.toNat s= .off s'∧c=dN∧H'=row bb [ptr bl] 116::dz bl L::aG L.d s'::Fr)):=by
 refine au func169 aa ntmps169 aa ?_
 have hc:=hL.c
 have hc1:=hc.r1
 have hc2:=hc.r2
 have hc3:=hc.l1
 have hc4:=hc.l2
 have hl1:=hL.e1
 have hl2:=hL.e2
 have hl3:=hL.n1
 have hl4:=hL.n2
 have hrc:16≤L.c.record L.n∧L.c.record L.n≤10000:=by simp only[Cfg.record];omega
 refine mA L.d fun hn1 hn2 hn3=>(ac (ab (kPv (ae isAgg116 aa aa) aa (kPv (ak aa) aa (kPv (aj (m:=_) dH aa aa) aa (kPv (ae isAgg3 aa aa) aa (kPv (cU aa aa) aa (kPa aa aa (ad (aO (dY (ι:=Int×Dev) (fun i=>(-1≤i.1∧i.1<L.n)∧jV st L.c (i.1+1).toNat i.2=jV st L.c L.n.toNat s) (fun i=>[(0,.func (.yield l) #[] #[]),(1,ptr bb),(3,i64 i.1)]) (fun i=>blk l (.loop r)::row bb [ptr bl] 116::dz bl L::aG L.d i.2::Fr) (fun i=>(i.1+1).toNat) (L.n - 1,s) ⟨⟨by simp only;omega,by simp only;omega⟩,by simp only;rw[Int.sub_add_cancel]⟩ (fun a w st=>st.to ⟨rfl,rfl,rfl,trivial⟩ id) ?_)))))))))))
 rintro⟨k,s1⟩ ⟨⟨hk1,hk2⟩,hk3⟩
 simp only at hk1 hk2 hk3 ⊢
 have hrk:k<0∨16≤L.c.record k∧L.c.record k≤10000:=by simp only[Cfg.record];omega
 refine ac (ac (ab (kPm aa aa (kPv (an aa aa aa) aa (ad ?_)))))
 refine aW aa (fun h11=> ?_) (fun h11=> ?_)
 ·try simp only[decide_eq_true_eq,decide_eq_false_iff_not,Bool.not_eq_true',Bool.not_eq_false',Bool.or_eq_true,Bool.and_eq_true,Bool.and_eq_false_iff,Bool.or_eq_false_iff,beq_iff_eq,bne_iff_ne,beq_eq_false_iff_ne,bne_eq_false_iff_eq,ge_iff_le,gt_iff_lt,ne_eq] at h11
  refine ay (ac (aO (ac (ab (kPv (ae isAgg116 aa aa) aa (kPv (ak aa) aa (kPv (aj (m:=_) lS aa aa) aa (kPv (am isAgg40 sizeOf40 aa aa) aa ?_))))))))
  refine kPm aa aa (aE aa (aA call130 aa) (ia _ _ L.c _ (by omega) (by omega)) .free aa aa ?_)
  refine kPa aa aa (ad (ao [4,3,0,1] rfl (ac (cD 16 Tryz.mixed (by kernel_rfl) (by kernel_rfl) ?_))))
  refine kQm aa aa (kQv (ae isAgg116 aa aa) aa (kQv (ak aa) aa (kQv (aj (m:=_) df aa aa) aa (kQv (ae isAgg28 aa aa) aa (kQm aa aa (kQv (aS aa aa) aa (bH aa (aA call71 aa) (bU (q:=aG) (fun Fr=>cH _ Fr _ _ _)) .free aa ?_)))))))
  refine kQv (bP runUnderlying26 runUnderlying3 aa) aa (kQv (ae isAgg116 aa aa) aa (kQv (ak aa) aa (kQv (aj (m:=_) df aa aa) aa (kQv (ae isAgg28 aa aa) aa (kQm aa aa (kQv (aS aa aa) aa (bH aa (aA call71 aa) (bU (q:=aG) (fun Fr=>cH _ Fr _ _ _)) .free aa ?_)))))))
  refine bR ?_
  refine iW (f:=f) aa aa (fun w hw=>hw) (by rw[hrp];rfl) hrf (hround _ _ _) .free aa ?_ ?_
  rotate_left
  ·rintro _ _ ⟨s9,hm9,rfl,rfl⟩
   exact bz fun w hh=>⟨_,⟨s9,by rw[←hk3,show(k+1).toNat=k.toNat+1 by omega];simp only[jV];rw[show((k.toNat:Nat):Int)=k by omega,hm9];rfl,rfl,rfl⟩,hh⟩
  rintro _ _ ⟨s2,hm2,rfl,rfl⟩
  refine kPv (bF aa) aa (ad (ao [37,3,0,1] rfl (cf aa (rfl) (ay (ab (kPm aa aa (kPv (cU aa aa) aa (kPa aa aa (ad ?_)))))))))
  exact fun a w st=>⟨(k - 1,s2),⟨⟨by simp only;omega,by simp only;omega⟩,by
   simp only
   rw[←hk3,show(k+1).toNat=k.toNat+1 by omega,show(k - 1+1).toNat=k.toNat by omega]
   simp only[jV]
   rw[show((k.toNat:Nat):Int)=k by omega,hm2];rfl⟩,by simp only;omega,st.to ⟨rfl,rfl,rfl,trivial⟩ id⟩
 ·try simp only[decide_eq_true_eq,decide_eq_false_iff_not,Bool.not_eq_true',Bool.not_eq_false',Bool.or_eq_true,Bool.and_eq_true,Bool.and_eq_false_iff,Bool.or_eq_false_iff,beq_iff_eq,bne_iff_ne,beq_eq_false_iff_ne,bne_eq_false_iff_eq,ge_iff_le,gt_iff_lt,ne_eq] at h11
  refine bT ?_
  exact cS results169 (fun w hh=>⟨_,⟨s1,by rw[←hk3,show(k+1).toNat=0 by omega];rfl,rfl⟩,hh⟩)
theorem q6(B:World)(Fr:List HP)(bl:Nat)(L:ce)(s:Dev)(hL:dZ L):
 ∀ w,Holds B (dz bl L::aG L.d s::Fr) w→Calls Tryz.prog 67 [ptr bl].toArray w (Ret B (fun rv H'=>∃ L' s',L.undo s= .ok L' s'∧rv= .tuple #[]∧H'=dz bl L'::aG L.d s'::Fr) (fun c H'=>∃ s',L.undo s= .off s'∧c=dN∧H'=dz bl L::aG L.d s'::Fr)):=by
 refine go func67 aa ntmps67 aa ?_
 have hc:=hL.c
 have hc1:=hc.r1
 have hc2:=hc.r2
 have hc3:=hc.l1
 have hc4:=hc.l2
 have hl1:=hL.e1
 have hl2:=hL.e2
 have hl3:=hL.n1
 have hl4:=hL.n2
 have hrc:16≤L.c.record L.n∧L.c.record L.n≤10000:=by simp only[Cfg.record];omega
 refine mA L.d fun hn1 hn2 hn3=>(ac (ab (aC aa (dA aa aa) .free aa aa ?_)))
 rintro _ _ ⟨b1,rfl,rfl⟩
 refine ad (ac (ac (ab (kPv (ae isAgg116 aa aa) aa (aQ aa (aA call132 aa) (pj _ _ _) .free aa aa ?_)))))
 rintro _ _ ⟨bb,rfl,rfl⟩
 refine ad (aO ?_)
 refine rx (ι:=Dev) (fun s'=>row bb [ptr bl] 116::dz bl L::aG L.d s'::row b1 [ptr bl] 116::Fr) (fun s'=>jV undoS L.c L.n.toNat s= .ok () s') (fun s'=>jV undoS L.c L.n.toNat s= .off s') dN aa call169 ?_ ?_ ?_
 ·intro l m tmps hts hkn w hh
  have hk1:=hkn 1 _ rfl
  refine(A9 B (blk m (.deferred (some []))::row b1 [ptr bl] 116::Fr) bl bb l 67 L s hL _ aa aa undoS ?_ w ((((hh.front 5 aa).front 5 aa).front 4 aa).front 3 aa)).mono (Ret.mono ?_ ?_)
  rotate_left
  ·rintro v H' ⟨s',hs',rfl⟩
   exact⟨s',hs',fun w hh=>((hh.front 4 aa).front 1 aa)⟩
  ·rintro c H' ⟨s',hs',rfl,rfl⟩
   exact⟨rfl,s',hs',fun w hh=>(hh.front 3 aa)⟩
  intro i v s
  refine jd (n:=33) (σ:=[(6,i64 i),(7,w64 v),(1,ptr b1)]) func67 (by simp[ii,hts]) (KnA.knows (by simp[KnA,ii,hts];exact(Array.getElem?_eq_some_iff.1 hk1).2)) aa ?_;refine ac ?_;refine ab ?_;refine kPa aa aa ?_;refine ad ?_;refine ab ?_;refine kPa aa aa ?_;refine ad ?_;refine mS ?_;refine aO ?_;refine ac ?_;refine ab ?_;refine kPv (ae isAgg116 aa aa) aa ?_;refine kPv (ak aa) aa ?_
  refine kPv (aj (m:=_) df aa aa) aa (kPv (ae isAgg28 aa aa) aa (kPm aa aa (kPm aa aa ?_)))
  refine aY aa (aA call120 aa) (da (fun Fr=>cZ _ Fr _ _ _ _)) .free aa aa ?_ ?_
  rotate_left
  ·rintro _ _ ⟨s9,⟨hm9,rfl⟩,rfl⟩
   exact bz fun w hh=>⟨_,⟨s9,by simp[undoS, *],rfl,rfl⟩,hh.tail⟩
  rintro _ _ ⟨s1,⟨e1,hm1,rfl⟩,rfl⟩
  refine ad (ao [2,1] rfl (ab (kPv (ae isAgg116 aa aa) aa (kPv (ak aa) aa (kPv (aj (m:=_) df aa aa) aa (kPv (ae isAgg28 aa aa) aa (kPm aa aa ?_)))))))
  refine aY aa (aA call126 aa) (da (fun Fr=>ed _ Fr _ _ _)) .free aa aa ?_ ?_
  rotate_left
  ·rintro _ _ ⟨s9,⟨hm9,rfl⟩,rfl⟩
   exact bz fun w hh=>⟨_,⟨s9,by simp[undoS, *],rfl,rfl⟩,hh.tail⟩
  rintro _ _ ⟨s2,⟨e2,hm2,rfl⟩,rfl⟩
  refine ad (ao [] rfl ?_)
  exact nH fun w hh=>⟨_,⟨_,by simp[undoS, *],rfl,rfl⟩,hh⟩
 rotate_left
 ·intro m s1 hm1
  exact nq (.cons (i:=0) aa .nil) fun w hh=>⟨_,⟨s1,by simp[ce.undo, *],rfl,rfl⟩,(((hh.front 4 aa).front 2 aa).front 2 aa).tail.tail.tail⟩
 intro m s1 hm1
 refine ac (ac (ab (kPv (ae isAgg116 aa aa) aa (kPv (ak aa) aa (kPv (aj (m:=_) dH aa aa) aa (kPv (ae isAgg3 aa aa) aa (kPv (an aa aa aa) aa (ad (ao [25,1] rfl ?_)))))))))
 refine aW aa (fun h25=> ?_) (fun h25=> ?_)
 ·try simp only[decide_eq_true_eq,decide_eq_false_iff_not,Bool.not_eq_true',Bool.not_eq_false',Bool.or_eq_true,Bool.and_eq_true,Bool.and_eq_false_iff,Bool.or_eq_false_iff,beq_iff_eq,bne_iff_ne,beq_eq_false_iff_ne,bne_eq_false_iff_eq,ge_iff_le,gt_iff_lt,ne_eq] at h25
  refine ab (kPv (ae isAgg116 aa aa) aa (kPv (ak aa) aa (kPv (aj (m:=_) df aa aa) aa (kPv (ae isAgg28 aa aa) aa ?_))))
  refine aY aa (aA call127 aa) (da (fun Fr=>fK _ Fr _ _)) .free aa aa ?_ ?_
  rotate_left
  ·rintro _ _ ⟨s9,⟨hm9,rfl⟩,rfl⟩
   exact nq (.cons (i:=0) aa .nil) fun w hh=>⟨_,⟨s9,by simp[ce.undo, *],rfl,rfl⟩,(((hh.front 4 aa).front 2 aa).front 2 aa).tail.tail.tail⟩
  rintro _ _ ⟨s2,⟨e2,hm2,rfl⟩,rfl⟩
  refine ad (ab (aK (H':=dz bl L::aG L.d _::blk m (.deferred (some []))::row bb [ptr bl] 116::row b1 [ptr bl] 116::Fr) (fun w hh=>(((((hh.front 4 aa).front 2 aa).front 2 aa).front 4 aa).front 4 aa)) (kPv (ae isAgg116 aa aa) aa ?_)))
  refine aY aa (aA call128 aa) (mc _ _ bl L _ hL) .free aa aa ?_ ?_
  rotate_left
  ·rintro _ _ ⟨s9,hm9,rfl,rfl⟩
   exact nq (.cons (i:=2) aa .nil) fun w hh=>⟨_,⟨s9,by simp[ce.undo, *],rfl,rfl⟩,(((hh.front 4 aa).front 4 aa).front 4 aa).tail.tail.tail⟩
  rintro _ _ ⟨L3,s3,hm3,rfl,rfl⟩
  refine ad (ao [] rfl ?_)
  exact mU results67 (.cons (i:=2) aa .nil) (fun w hh=>⟨_,⟨L3,s3,by simp[ce.undo, *],rfl,rfl⟩,(((hh.front 4 aa).front 4 aa).front 4 aa).tail.tail.tail⟩)
 ·try simp only[decide_eq_true_eq,decide_eq_false_iff_not,Bool.not_eq_true',Bool.not_eq_false',Bool.or_eq_true,Bool.and_eq_true,Bool.and_eq_false_iff,Bool.or_eq_false_iff,beq_iff_eq,bne_iff_ne,beq_eq_false_iff_ne,bne_eq_false_iff_eq,ge_iff_le,gt_iff_lt,ne_eq] at h25
  refine ay (ab (aK (H':=dz bl L::aG L.d _::blk m (.deferred (some []))::row bb [ptr bl] 116::row b1 [ptr bl] 116::Fr) (fun w hh=>(((((hh.front 4 aa).front 2 aa).front 2 aa).front 4 aa).front 4 aa)) (kPv (ae isAgg116 aa aa) aa ?_)))
  refine aY aa (aA call128 aa) (mc _ _ bl L _ hL) .free aa aa ?_ ?_
  rotate_left
  ·rintro _ _ ⟨s9,hm9,rfl,rfl⟩
   exact nq (.cons (i:=2) aa .nil) fun w hh=>⟨_,⟨s9,by simp[ce.undo, *],rfl,rfl⟩,(((hh.front 4 aa).front 4 aa).front 4 aa).tail.tail.tail⟩
  rintro _ _ ⟨L3,s3,hm3,rfl,rfl⟩
  refine ad ?_
  exact mU results67 (.cons (i:=2) aa .nil) (fun w hh=>⟨_,⟨L3,s3,by simp[ce.undo, *],rfl,rfl⟩,(((hh.front 4 aa).front 4 aa).front 4 aa).tail.tail.tail⟩)
abbrev cF(_:Unit):Value:= .agg #[]
def lC(b:Nat)(xs:List Int):HP:=hex fun (x:Option (Nat×List Value))=>match x with
 | none=>grp [row b [.slice none 0 0] 125,pr (xs=[])]
 | some (bd,rest)=>grp [row b [.slice (some ⟨bd,0,none⟩) xs.length (xs.length+rest.length)] 125,row bd (xs.map i64++rest) 3]
theorem tk{B:World}{b:Nat}{xs:List Int}{Fr:List HP}{w:World}(h:Holds B (lC b xs::Fr) w):(xs=[]∧Holds B (row b [.slice none 0 0] 125::Fr) w)∨∃ bd rest,Holds B (row b [.slice (some ⟨bd,0,none⟩) xs.length (xs.length+rest.length)] 125::row bd (xs.map i64++rest) 3::Fr) w:=by
 obtain⟨x,hx⟩:=h.hex
 cases x with
 | none=>have h2:=hx.grp;have h3:=(h2.front 1 rfl).pr;exact .inl ⟨h3.1,h3.2⟩
 | some p=>exact .inr ⟨_,_,hx.grp⟩
theorem za{B:World}{b:Nat}{Fr:List HP}{w:World}(h:Holds B (row b [.slice none 0 0] 125::Fr) w):Holds B (lC b []::Fr) w:=
 Holds.unhex none (Holds.ungrp (l:=[row b [.slice none 0 0] 125,pr (([]:List Int)=[])]) ((h.unpr rfl).back 1 (by simp)))
theorem pX{B:World}{b bd n c:Nat}{xs:List Int}{rest:List Value}{Fr:List HP}{w:World}(hn:n=xs.length)(hc:c=n+rest.length)(h:Holds B (row b [.slice (some ⟨bd,0,none⟩) n c] 125::row bd (xs.map i64++rest) 3::Fr) w):Holds B (lC b xs::Fr) w:=by
 subst hn;subst hc
 exact Holds.unhex (some (bd,rest)) (Holds.ungrp (l:=[row b [.slice (some ⟨bd,0,none⟩) xs.length (xs.length+rest.length)] 125,row bd (xs.map i64++rest) 3]) h)
theorem By{B:World}{n:Nat}{D:List Deferred}{σ:Env}{b:Nat}{xs:List Int}{Fr:List HP}{K:Act→World→Prop}(h1:xs=[]→GO B n D σ (row b [.slice none 0 0] 125::Fr) K)(h2:∀ bd rest,GO B n D σ (row b [.slice (some ⟨bd,0,none⟩) xs.length (xs.length+rest.length)] 125::row bd (xs.map i64++rest) 3::Fr) K):GO B n D σ (lC b xs::Fr) K:=fun a w st=>by
 rcases tk st.holds with ⟨e,h⟩ | ⟨bd,rest,h⟩
 ·exact h1 e a w ⟨st.toStA,h⟩
 ·exact h2 bd rest a w ⟨st.toStA,h⟩
theorem AY(B:World)(H:List HP)(r:Nat):
 ∀ w,Holds B H w→Calls Tryz.prog 125 [.map (some r)].toArray w (Ret B (fun v H'=>∃ bb,v= .func (.func 168) [].toArray [ptr bb].toArray∧H'=row bb [.map (some r)] 127::H) (fun _ _=>False)):=by
 refine au func125 aa ntmps125 aa (ac (ab (aC aa (dA aa aa) .free aa aa ?_)))
 rintro _ _ ⟨b1,rfl,rfl⟩
 refine kPa aa aa (ad (ac (ab (kPv (dm aa aa) aa (kPa aa aa (ad (az ?_)))))))
 exact ax results125 aa (fun w hw=>⟨_,⟨_,rfl,rfl⟩,hw⟩)
theorem zy(B:World)(Fr:List HP)(l f mr bb b2:Nat)(ml:List (Int×Unit))(r:Loop)(hrf:r.fn=f)(hrp:r.params.size=1)(hround:∀ (A1 A2:HP) (v:Int) (xs:List Int),xs.length<ml.length→∀ w,Holds B (blk l (.loop r)::A1::A2::lC b2 xs::Fr) w→RoundIn (Wd (cxF f)) 0 Tryz.prog l f ((r.params.zip [i64 v].toArray).foldl (fun tmps (t,a)=>tmps.setIfInBounds t a) r.tmps) r.assign r.body w (Ret B (fun rv H'=>rv= .bool true∧H'=blk l (.loop r)::A1::A2::lC b2 (xs++[v])::Fr) (fun _ _=>False))):
 ∀ w,Holds B (blk l (.loop r)::row bb [.map (some mr)] 127::bJ .i64 cF mr ml::lC b2 []::Fr) w→Calls Tryz.prog 168 [.func (.yield l) #[] #[],ptr bb].toArray w (Ret B (fun rv H'=>∃ ks:List Int,ks.Perm (ml.map Prod.fst)∧H'=blk l (.loop r)::row bb [.map (some mr)] 127::bJ .i64 cF mr ml::lC b2 ks::Fr) (fun _ _=>False)):=by
 refine au func168 aa ntmps168 aa (ac (ab (kPv (ae isAgg127 aa aa) aa (aC aa (n7 runUnderlying127 aa) .free aa aa ?_))))
 rintro _ _ ⟨it,rfl,rfl⟩
 refine ad (aO (dY (ι:=List (Int×Unit)) (fun d=>d.length≤ml.length) (fun d=>[(0,.func (.yield l) #[] #[]),(1,ptr bb),(5,.pointer (some ⟨it,0,none⟩))]) (fun done=>blk l (.loop r)::row bb [.map (some mr)] 127::gD .i64 cF mr it ml done::lC b2 (done.map Prod.fst)::Fr) (fun d=>ml.length - d.length) [] (Nat.zero_le _) (fun a w st=>st.to ⟨rfl,rfl,rfl,trivial⟩ id) ?_))
 intro done hdone
 refine ac (ab (aC aa (pU aa) .free aa aa ?_))
 rintro _ _ ⟨bb0,vs,done',rfl,hvs,rfl,hno,hyes⟩
 refine kPv (aB aa hvs) aa (ad (ac ?_))
 refine aW aa (fun h7=> ?_) (fun h7=> ?_)
 ·obtain⟨pp,hpl,hpn,rfl⟩:=hyes h7
  refine jL it fun hl hd hsub=>(ay (aO (ac (ab (kPv (n3 (p0:=pp) (dn:=done) aa) aa (kPv (aB aa aa) aa (kPa aa aa (ad (ac (ab (kPm aa aa ?_)))))))))))
  refine kPm aa aa ?_
  refine iW (f:=f) aa aa (fun w hw=>hw) (by rw[hrp];rfl) hrf (hround _ _ _ _ (by have:=jK hd hsub;simp;omega)) .free aa ?_ ?_
  rotate_left
  ·rintro _ _ ⟨⟩
  rintro _ _ ⟨rfl,rfl⟩
  refine kPv (bF aa) aa (ad (ao [13,5,0,1] rfl (cf aa (rfl) (ay ?_))))
  have hle:=jK hd hsub
  exact fun a w st=>⟨done++[pp],by simp;omega,by simp;omega,st.to ⟨rfl,rfl,rfl,trivial⟩ (fun hh=>by rw[List.map_append];exact hh)⟩
 ·obtain⟨rfl,hall⟩:=hno h7
  refine jL it fun hl hd hsub=>(aK (fun w hh=>hh.iter_end it) (bT ?_))
  exact cS results168 (fun w hh=>⟨_,⟨_,(List.perm_ext_iff_of_nodup hd hl).2 fun x=>⟨fun hx=>by obtain⟨p,hp,rfl⟩:=List.mem_map.1 hx;exact List.mem_map_of_mem (hsub p hp),fun hx=>by obtain⟨p,hp,rfl⟩:=List.mem_map.1 hx;exact List.mem_map_of_mem (hall p hp)⟩,rfl⟩,hh⟩)
theorem y9{xs:List Int}{v:Int}{rest:List Value}(h:0<rest.length):dJ (xs.map i64++rest) (0+xs.length) [i64 v]=(xs++[v]).map i64++rest.drop 1:=by
 cases rest with
 | nil=>simp at h
 | cons a t=>simp[dJ,List.set_append_right]
def jA(_:Nat)(x:Value×List Int):HP:=hex fun (o:Option (Nat×List Value))=>match o with
 | none=>pr (x.2=[]∧x.1= .slice none 0 0)
 | some (bd,rest)=>grp [row bd (x.2.map i64++rest) 3,pr (x.1= .slice (some ⟨bd,0,none⟩) x.2.length (x.2.length+rest.length))]
theorem wx{B:World}{Fr:List HP}{w:World}(h:Holds B Fr w):Holds B (jA 0 (.slice none 0 0,[])::Fr) w:=Holds.unhex none (h.unpr ⟨rfl,rfl⟩)
theorem rZ{B:World}{bd n c:Nat}{xs:List Int}{rest:List Value}{Fr:List HP}{w:World}(hn:n=xs.length)(hc:c=n+rest.length)(h:Holds B (row bd (xs.map i64++rest) 3::Fr) w):Holds B (jA 0 (.slice (some ⟨bd,0,none⟩) n c,xs)::Fr) w:=by
 subst hn;subst hc
 refine Holds.unhex (some (bd,rest)) (Holds.ungrp (l:=[row bd (xs.map i64++rest) 3,pr _]) ?_)
 exact(h.unpr aa).back 1 (by simp)
theorem kW{B:World}{sv:Value}{xs:List Int}{Fr:List HP}{w:World}(h:Holds B (jA 0 (sv,xs)::Fr) w):(xs=[]∧sv= .slice none 0 0∧Holds B Fr w)∨∃ bd rest,sv= .slice (some ⟨bd,0,none⟩) xs.length (xs.length+rest.length)∧Holds B (row bd (xs.map i64++rest) 3::Fr) w:=by
 obtain⟨x,hx⟩:=h.hex
 cases x with
 | none=>have h2:=hx.pr;exact .inl ⟨h2.1.1,h2.1.2,h2.2⟩
 | some p=>have h2:=(hx.grp.front 1 rfl).pr;exact .inr ⟨_,_,h2.1,h2.2⟩
theorem Cf{B:World}{b:Nat}{xs:List Int}{Fr:List HP}{w:World}(h:Holds B (lC b xs::Fr) w):∃ sv,Holds B (row b [sv] 125::jA 0 (sv,xs)::Fr) w:=by
 rcases tk h with ⟨rfl,h2⟩ | ⟨bd,rest,h2⟩
 ·exact⟨_,(wx h2).front 1 aa⟩
 ·exact⟨_,(rZ (n:=xs.length) aa aa (h2.front 1 aa)).front 1 aa⟩
theorem yH{B:World}{n:Nat}{D:List Deferred}{σ:Env}{b:Nat}{xs:List Int}{Fr:List HP}{K:Act→World→Prop}(h:∀ sv,GO B n D σ (row b [sv] 125::jA 0 (sv,xs)::Fr) K):GO B n D σ (lC b xs::Fr) K:=fun a w st=>by
 obtain⟨sv,h1⟩:=Cf st.holds
 exact h sv a w ⟨st.toStA,h1⟩
theorem Aj(B:World)(Fr:List HP)(mr bb:Nat)(ml:List (Int×Unit))(hml:ml.length≤1000000):
 ∀ w,Holds B (row bb [.map (some mr)] 127::bJ .i64 cF mr ml::Fr) w→Calls Tryz.prog 183 [.slice none 0 0,.func (.func 168) [].toArray [ptr bb].toArray].toArray w (Ret B (fun rv H'=>∃ ks:List Int,ks.Perm (ml.map Prod.fst)∧H'=jA 0 (rv,ks)::bJ .i64 cF mr ml::Fr) (fun _ _=>False)):=by
 refine go func183 aa ntmps183 aa (ac (ab (aC aa (dA aa aa) .free aa aa ?_)))
 rintro _ _ ⟨b2,rfl,rfl⟩
 refine kPa aa aa (ad (ac (ac (ab (kPm aa aa (ad (aO ?_)))))))
 refine rx (ι:=List Int) (fun ks=>row bb [.map (some mr)] 127::bJ .i64 cF mr ml::lC b2 ks::Fr) (fun ks=>ks.Perm (ml.map Prod.fst)) (fun _=>False) [] rfl call168 ?_ ?_ ?_
 ·intro l m tmps hts hkn w hh
  have hk2:=hkn 2 _ rfl
  refine(zy B (blk m (.deferred (some []))::Fr) l 183 mr bb b2 ml _ aa aa ?_ w (((((za ((((hh.front 4 aa).front 4 aa).front 2 aa).front 4 aa)).front 0 aa).front 3 aa).front 3 aa).front 3 aa)).mono (Ret.mono ?_ ?_)
  rotate_left
  ·rintro v H' ⟨ks,hks,rfl⟩
   exact⟨ks,hks,fun w hh=>((hh.front 4 aa).front 1 aa)⟩
  ·rintro c H' ⟨⟩
  intro A1 A2 v xs hxs
  have hxs:xs.length≤1000000:=by omega
  refine jd (n:=13) (σ:=[(7,i64 v),(2,ptr b2)]) func183 (by simp[ii,hts]) (KnA.knows (by simp[KnA,ii,hts];exact(Array.getElem?_eq_some_iff.1 hk2).2)) aa ?_;refine ab ?_;refine kPa aa aa ?_;refine ad ?_;refine mS ?_;refine dT 3 aa ?_
  refine By (fun hxe=> ?_) (fun bd rest=> ?_)
  ·subst hxe
   refine aO (ab (kPv (ae isAgg125 aa aa) aa (kPm aa aa (aC aa (iQ runUnderlying125 sizeOf3 zeroValue3 aa aa aa) .free aa aa ?_))))
   rintro _ _ ⟨b1,rfl,rfl⟩
   refine aC aa (ix aa aa runUnderlying125 runUnderlying125 ⟨_,rfl⟩ sizeOf3 zeroValue3 aa Au aa aa (SlR.row (xs:=[i64 v]) aa aa) (by simp) (by simp)) .free aa aa ?_
   rintro _ _ ⟨bn,cn,rest',hcn,hrest,rfl,rfl⟩
   refine aD aa (aR sizeOf125 aa aa aa aa) .free aa ?_
   rintro _ _ rfl
   refine ad (ao [] rfl (dT 3 aa ?_))
   exact nH fun w hh=>⟨_,⟨rfl,rfl⟩,((((((pX (xs:=[]++[v]) (by simp) (by first | omega | (simp at*;omega)) ((hh.front 1 aa).front 3 aa)).front 2 aa).tail.front 0 aa).front 3 aa).front 3 aa).front 3 aa)⟩
  ·skip
   refine aO (ab (kPv (ae isAgg125 aa aa) aa (kPm aa aa (aC aa (iQ runUnderlying125 sizeOf3 zeroValue3 aa aa aa) .free aa aa ?_))))
   rintro _ _ ⟨b1,rfl,rfl⟩
   refine aC aa (ky aa aa runUnderlying125 runUnderlying125 ⟨_,rfl⟩ sizeOf3 zeroValue3 aa Au aa aa (SlR.row (xs:=[i64 v]) aa aa) (by simp) (by omega) (by simp;omega) aa) .free aa aa (fun v2 H2 hY=> ?_)
   revert hY
   generalize hob:Obj.loop _=ob
   intro hY
   have hY2:∃ bn c' rest',c'=xs.length+1+rest'.length∧v2= .slice (some ⟨bn,0,none⟩) (xs.length+1) c'∧∀ w,Holds B H2 w→Holds B (row b2 [.slice (some ⟨bd,0,none⟩) xs.length (xs.length+rest.length)] 125::row bn ((xs++[v]).map i64++rest') 3::blk l ob::A1::A2::blk m (.deferred (some []))::Fr) w:=by
    rcases hY with ⟨h1,rfl,rfl⟩ | ⟨h1,bn,cn,rest',h2,_,rfl,rfl⟩
    ·refine⟨bd,_,rest.drop 1,by simp at h1 ⊢;omega,rfl,fun w hh=> ?_⟩
     have h3:=hh.tail
     rw[y9 (by simp at h1;omega)] at h3
     exact h3
    ·refine⟨bn,_,rest',by simpa using h2.symm,rfl,fun w hh=> ?_⟩
     have h3:=((((hh.front 1 rfl).tail).front 2 rfl).tail).front 1 rfl
     have e:(xs++[v]).map i64++rest'=((xs.map i64++rest).drop 0).take xs.length++[i64 v]++rest':=by simp
     rw[e]
     exact h3
   obtain⟨bn,c',rest',hc',rfl,hY3⟩:=hY2
   refine aK hY3 (aD aa (aR sizeOf125 aa aa aa aa) .free aa ?_)
   rintro _ _ rfl
   refine ad (ao [] rfl ?_)
   subst hob
   refine dT 2 aa ?_
   exact nH fun w hh=>⟨_,⟨rfl,rfl⟩,(((((pX (xs:=xs++[v]) (by simp) (by first | omega | (simp at*;omega)) ((hh.front 2 aa).front 2 aa)).front 0 aa).front 3 aa).front 3 aa).front 3 aa)⟩
 rotate_left
 ·rintro m x ⟨⟩
 intro m ks hks
 refine dT 3 aa (yH fun sv=>(ac (ab (kPv (ae isAgg125 aa aa) aa (kPa aa aa (ad (az ?_)))))))
 exact gx results183 aa (.cons (i:=2) aa .nil) (fun w hh=>⟨_,⟨ks,hks,rfl⟩,(((hh.front 3 aa).front 3 aa).front 2 aa).tail.tail.tail⟩)
open Go Go.Proofs
open Go.Shelf
def Tryz.sortA_ren:Go.Shelf.Ren:=⟨fun | 5=>167 | 8=>185 | 7=>184 | 19=>200 | 20=>201 | 10=>191 | 11=>192 | 12=>193 | 13=>194 | 14=>195 | 15=>196 | 16=>197 | 17=>198 | 18=>199 | 30=>203 | 31=>204 | 32=>205 | 33=>206 | 34=>207 | 35=>208 | 40=>210 | n=>n,fun | 23=>125 | 25=>3 | 3=>3 | 32=>213 | 22=>125 | 0=>0 | 44=>228 | 46=>26 | 4=>4 | 36=>240 | 35=>239 | 41=>140 | 5=>5 | 9=>9 | 53=>246 | 57=>249 | 63=>251 | 64=>252 | n=>n,fun | n=>n⟩
theorem Tryz.sortA:Go.Proofs.SlLaysM.n5 Tryz.prog Tryz.sortA_ren:={
 mixed:=by kernel_rfl
 f5:=⟨Tryz.f167.name,by decide,Tryz.func167.trans (congrArg some (by kernel_rfl))⟩
 f7:=⟨Tryz.f184.name,by decide,Tryz.func184.trans (congrArg some (by kernel_rfl))⟩
 f8:=Tryz.func185.trans (congrArg some (by kernel_rfl))
 f10:=⟨Tryz.f191.name,by decide,Tryz.func191.trans (congrArg some (by kernel_rfl))⟩
 f11:=⟨Tryz.f192.name,by decide,Tryz.func192.trans (congrArg some (by kernel_rfl))⟩
 f12:=⟨Tryz.f193.name,by decide,Tryz.func193.trans (congrArg some (by kernel_rfl))⟩
 f13:=⟨Tryz.f194.name,by decide,Tryz.func194.trans (congrArg some (by kernel_rfl))⟩
 f14:=⟨Tryz.f195.name,by decide,Tryz.func195.trans (congrArg some (by kernel_rfl))⟩
 f15:=⟨Tryz.f196.name,by decide,Tryz.func196.trans (congrArg some (by kernel_rfl))⟩
 f16:=⟨Tryz.f197.name,by decide,Tryz.func197.trans (congrArg some (by kernel_rfl))⟩
 f17:=⟨Tryz.f198.name,by decide,Tryz.func198.trans (congrArg some (by kernel_rfl))⟩
 f18:=⟨Tryz.f199.name,by decide,Tryz.func199.trans (congrArg some (by kernel_rfl))⟩
 f19:=Tryz.func200.trans (congrArg some (by kernel_rfl))
 f20:=Tryz.func201.trans (congrArg some (by kernel_rfl))
 f30:=⟨Tryz.f203.name,by decide,Tryz.func203.trans (congrArg some (by kernel_rfl))⟩
 f31:=Tryz.func204.trans (congrArg some (by kernel_rfl))
 f32:=Tryz.func205.trans (congrArg some (by kernel_rfl))
 f33:=⟨Tryz.f206.name,by decide,Tryz.func206.trans (congrArg some (by kernel_rfl))⟩
 f34:=⟨Tryz.f207.name,by decide,Tryz.func207.trans (congrArg some (by kernel_rfl))⟩
 f35:=⟨Tryz.f208.name,by decide,Tryz.func208.trans (congrArg some (by kernel_rfl))⟩
 f40:=⟨Tryz.f210.name,by decide,Tryz.func210.trans (congrArg some (by kernel_rfl))⟩
 t0:=underlying0
 a0:=isAgg0
 z0:=sizeOf0
 v0:=zeroValue0
 t3:=underlying3
 a3:=isAgg3
 z3:=sizeOf3
 v3:=zeroValue3
 t4:=underlying4
 a4:=isAgg4
 z4:=sizeOf4
 v4:=zeroValue4
 t5:=underlying5
 a5:=isAgg5
 z5:=sizeOf5
 v5:=zeroValue5
 t9:=underlying9
 a9:=isAgg9
 z9:=sizeOf9
 v9:=zeroValue9
 t22:=underlying125
 a22:=isAgg125
 z22:=sizeOf125
 v22:=zeroValue125
 t23:=underlying125
 a23:=isAgg125
 z23:=sizeOf125
 v23:=zeroValue125
 t25:=underlying3
 a25:=isAgg3
 z25:=sizeOf3
 v25:=zeroValue3
 t32:=underlying213
 a32:=isAgg213
 z32:=sizeOf213
 v32:=zeroValue213
 t35:=underlying239
 a35:=isAgg239
 z35:=sizeOf239
 v35:=zeroValue239
 t36:=underlying240
 a36:=isAgg240
 z36:=sizeOf240
 v36:=zeroValue240
 t41:=underlying140
 a41:=isAgg140
 z41:=sizeOf140
 v41:=zeroValue140
 t44:=underlying228
 a44:=isAgg228
 z44:=sizeOf228
 v44:=zeroValue228
 t46:=underlying26
 a46:=isAgg26
 z46:=sizeOf26
 v46:=zeroValue26
 t53:=underlying246
 a53:=isAgg246
 z53:=sizeOf246
 v53:=zeroValue246
 t57:=underlying249
 a57:=isAgg249
 z57:=sizeOf249
 v57:=zeroValue249
 t63:=underlying251
 a63:=isAgg251
 z63:=sizeOf251
 v63:=zeroValue251
 t64:=underlying252
 a64:=isAgg252
 z64:=sizeOf252
 v64:=zeroValue252}
theorem Holds.grown{B:World}{H:List HP}{w:World}(h:Holds B H w)(os:Array Obj):Holds B H (Go.Sort.grow w os):=by
 refine⟨h.os,h.tape,h.output,by simp[Go.Sort.grow];have:=h.size;omega,u9 (fun b o e=> ?_) h.sat⟩
 have hb:=(Array.getElem?_eq_some_iff.1 e).1
 show(w.heap++os)[b]? =_
 rw[Array.getElem?_append_left hb];exact e
theorem zo{xs ys:List Int}{rest:List Value}(h:ys.length=xs.length):Go.Sort.putCells (Value.int .i64) 0 ys.toArray (xs.map i64++rest).toArray=(ys.map i64++rest).toArray:=by
 apply Array.ext_getElem?
 intro j
 simp only[Go.Sort.putCells,Array.getElem?_mapIdx,List.getElem?_toArray]
 by_cases hj:j<xs.length
 ·rw[List.getElem?_append_left (by simpa using hj),List.getElem?_append_left (by simp;omega)]
  have hj':j<ys.length:=by omega
  simp[hj,hj']
 ·rw[List.getElem?_append_right (by simp;omega),List.getElem?_append_right (by simp;omega)]
  simp[h]
  cases e:rest[j - xs.length]? with
  | none=>rfl
  | some v=>simp;omega
theorem wS{B:World}{bd T:Nat}{xs ys:List Int}{rest:List Value}{Fr:List HP}{w:World}(h:Holds B (row bd (xs.map i64++rest) T::Fr) w)(hl:ys.length=xs.length)(n:Nat)(os:Array Obj):
 Holds B (row bd (ys.map i64++rest) T::Fr) (Go.Sort.grow (Go.Sort.putRow (Value.int .i64) (Go.Sort.ahead w n) bd 0 ys.toArray) os):=by
 have hr:=h.read 0 rfl
 have h1:=(h.drew (w.drawn+n)).put 0 rfl (.cells (ys.map i64++rest).toArray T (0,0))
 have e:Go.Sort.putRow (Value.int .i64) (Go.Sort.ahead w n) bd 0 ys.toArray={w with drawn:=w.drawn+n,heap:=w.heap.setIfInBounds bd (.cells (ys.map i64++rest).toArray T (0,0))}:=by
  obtain⟨hlt,hg⟩:=Array.getElem?_eq_some_iff.1 hr
  simp only[Go.Sort.putRow,Go.Sort.mapBlock,Go.Sort.ahead]
  congr 1
  apply Array.ext_getElem?
  intro k
  rw[Array.getElem?_modify]
  by_cases hk:bd=k
  ·subst hk
   rw[hr]
   simp[hlt,Go.Sort.onCells,zo hl]
  ·simp[hk]
 rw[e]
 exact Holds.grown h1 os
def cG(l:List Int):List Int:=l.mergeSort fun x y=>decide (x≤y)
theorem qx{l l':List Int}(h:l.Perm l'):cG l=cG l':=by
 have tr:∀ a b c:Int,decide (a≤b)=true→decide (b≤c)=true→decide (a≤c)=true:=fun a b c h1 h2=>by simp only[decide_eq_true_eq] at*;omega
 have to:∀ a b:Int,(decide (a≤b)||decide (b≤a))=true:=fun a b=>by simp only[Bool.or_eq_true,decide_eq_true_eq];omega
 refine List.Perm.eq_of_pairwise (le:=fun a b=>decide (a≤b)=true) (fun a b _ _ h1 h2=> ?_) (List.pairwise_mergeSort tr to l) (List.pairwise_mergeSort tr to l') (((List.mergeSort_perm l _).trans h).trans (List.mergeSort_perm l' _).symm)
 simp only[decide_eq_true_eq] at h1 h2;omega
theorem uZ(B:World)(Fr:List HP)(sv:Value)(xs:List Int)(hx:xs.length≤1000000):∀ w,Holds B (jA 0 (sv,xs)::Fr) w→Calls Tryz.prog 167 [sv].toArray w (Ret B (fun _ H'=>H'=jA 0 (sv,cG xs)::Fr) (fun _ _=>False)):=by
 intro w hw
 have hl:(cG xs).length=xs.length:=List.length_mergeSort ..
 rcases kW hw with ⟨rfl,rfl,h⟩ | ⟨bd,rest,rfl,h⟩
 ·have:=AnyM.slices_Sort_int_none Tryz.sortA none 0 w
  refine this.mono ?_
  rintro e w' ⟨rfl,rfl⟩
  exact⟨_,rfl,by simpa [cG] using wx h⟩
 ·have hh:Go.Sort.Holds (Value.int .i64) w bd 0 xs.toArray:=by
   intro j hj
   have hj':j<xs.length:=by simpa using hj
   have h1:=h.cell 0 rfl (0+j)
   have h2:=h.free 0 rfl (0+j)
   refine⟨h1.trans ?_,h2⟩
   rw[Nat.zero_add,List.getElem?_append_left (by simpa using hj')]
   simp[hj']
  have:=AnyM.slices_Sort_int Tryz.sortA bd 0 (xs.length+rest.length) xs w hh (h.row_lt 0 rfl) (by omega)
  refine this.mono ?_
  rintro e w' ⟨rfl,n,os,rfl⟩
  exact⟨_,rfl,rZ (by rw[hl]) (by omega) (wS h hl n os)⟩
theorem xA(B:World)(Fr:List HP)(mr bb:Nat)(ml:List (Int×Unit))(hml:ml.length≤1000000):
 ∀ w,Holds B (row bb [.map (some mr)] 127::bJ .i64 cF mr ml::Fr) w→Calls Tryz.prog 166 [.func (.func 168) [].toArray [ptr bb].toArray].toArray w (Ret B (fun rv H'=>∃ ks:List Int,ks.Perm (ml.map Prod.fst)∧H'=jA 0 (rv,ks)::bJ .i64 cF mr ml::Fr) (fun _ _=>False)):=by
 refine au func166 aa ntmps166 aa (ac (ab (kPa aa aa (ad (ac (ab (kPm aa aa (aQ aa (aA call183 aa) (Aj _ _ mr bb ml hml) .free aa aa ?_))))))))
 rintro _ _ ⟨ks,hks,rfl⟩
 refine kPa aa aa (ad (az ?_))
 exact ax results166 aa (fun w hw=>⟨_,⟨ks,hks,rfl⟩,hw⟩)
theorem zh(B:World)(Fr:List HP)(mr bb:Nat)(ml:List (Int×Unit))(hml:ml.length≤1000000):
 ∀ w,Holds B (row bb [.map (some mr)] 127::bJ .i64 cF mr ml::Fr) w→Calls Tryz.prog 124 [.func (.func 168) [].toArray [ptr bb].toArray].toArray w (Ret B (fun rv H'=>H'=jA 0 (rv,cG (ml.map Prod.fst))::bJ .i64 cF mr ml::Fr) (fun _ _=>False)):=by
 refine au func124 aa ntmps124 aa (ac (ab (kPa aa aa (ad (ac (ab (kPm aa aa (aQ aa (aA call166 aa) (xA _ _ mr bb ml hml) .free aa aa ?_))))))))
 rintro v5 _ ⟨ks,hks,rfl⟩
 have hkl:ks.length≤1000000:=by rw[hks.length_eq,List.length_map];exact hml
 refine kPa aa aa (ad (ac (ab (kPm aa aa (aQ aa (aA call167 aa) (uZ _ _ _ ks hkl) .free aa aa ?_)))))
 rintro _ _ rfl
 refine ad (ac (ab (kPm aa aa (kPa aa aa (ad (ao [2] rfl (az ?_)))))))
 exact ax results124 aa (fun w hw=>⟨_,rfl,by rw[←qx hks];exact hw⟩)
end Go.Proofs.YtlcibdhmgclfjaaGreat
