/- Part of a law's texts. Conditions: none. -/
import Derived.Test.YtlcibdhmgclfjaaGreatQL17Rn
open Go.Proofs.Tryz
set_option linter.all false
namespace Go.Proofs.YtlcibdhmgclfjaaGreat
open Go
section
variable {B:World} {Fr:List HP} {bh bs bt x:Nat} {h:HpS} {w:World}
theorem lx(ho:h.o=true)(hh:Holds B (cq bh bs bt x h::iK bs h.S::fc bt h.T::xV x h.X::Fr) w):Holds B (cy bh h::Fr) w:=cz (bs:=bs) (bt:=bt) (x:=x) (by rw[ho];exact hh)
theorem po(ho:h.o=false)(hh:Holds B (cq bh bs bt x h::eD bs h.S::fc bt h.T::xV x h.X::Fr) w):Holds B (cy bh h::Fr) w:=cz (bs:=bs) (bt:=bt) (x:=x) (by rw[ho];exact hh)
end
theorem gv(B:World)(Fr:List HP)(bs:Nat)(S:bG)(o:Bool):∀ w,Holds B (mt o bs S::Fr) w→Calls Tryz.prog 51 [ptr bs].toArray w (bB B (mt o bs S::Fr) (.bool o)):=by
 cases o
 ·exact og B Fr bs S
 ·exact zj B Fr bs S
theorem HpS.obj_w{h:HpS}{s:Dev}(hW:dl h s){n:Int}(e:(h.obj s n).2=0):mu (h.obj s n).1:=by
 unfold HpS.obj at e ⊢
 split at e
 ·rename_i hm
  rw[if_pos hm]
  exact iX hW.c (dM hW.c hW.u) e
 ·cases e
theorem HpS.plc_b{h:HpS}{s:Dev}(hW:dl h s)(n:Int):0≤(h.plc n).1∧(h.plc n).1≤1000000:=by
 unfold HpS.plc
 split
 ·exact hW.pb n
 ·exact⟨by decide,by decide⟩
def HpS.commit(h:HpS)(s:Dev):Out (Int×HpS):=if h.o=true then (h.S.commit s).then fun S s=> .ok (0,{h with o:=false,S:=S}) s else .ok (2,h) s
def HpS.read(h:HpS)(s:Dev)(n i:Int):Int×Int:=if (h.obj s n).2≠0 then (0,(h.obj s n).2) else s.objRead (h.obj s n).1 i
def HpS.ref(h:HpS)(s:Dev)(n i:Int):(Int×Int)×HpS:=if (h.obj s n).2≠0 then ((0,(h.obj s n).2),h) else (((h.T.take (s.objRef (h.obj s n).1 i).1).1,(s.objRef (h.obj s n).1 i).2),{h with T:=(h.T.take (s.objRef (h.obj s n).1 i).1).2})
def HpS.root(h:HpS)(s:Dev)(i:Int):(Int×Int)×HpS:=if i<0∨h.c.roots≤i then ((0,1),h) else (((h.T.take (IntKind.i64.wrap (s.load (h.c.root i)))).1,0),{h with T:=(h.T.take (IntKind.i64.wrap (s.load (h.c.root i)))).2})
def HpS.alloc(h:HpS)(s:Dev)(w r:Int):Out ((Int×Int)×HpS):=if h.o=true then (db ey h.c w r s h.S).then fun x s=>if x.1.2≠0 then .ok ((0,x.1.2),{h with S:=x.2}) s else .ok (((h.T.take x.1.1).1,0),{h with S:=x.2,T:=(h.T.take x.1.1).2}) s else .ok ((0,2),h) s
def HpS.write(h:HpS)(s:Dev)(n i v:Int):Out (Int×HpS):=if h.o=true then (if (h.obj s n).2≠0 then .ok ((h.obj s n).2,h) s else (iC ey (h.obj s n).1 i false v s h.S).then fun x s=> .ok (x.1,{h with S:=x.2}) s) else .ok (2,h) s
def HpS.point(h:HpS)(s:Dev)(n i to_:Int):Out (Int×HpS):=if h.o=true then (if (h.obj s n).2≠0 then .ok ((h.obj s n).2,h) s else if (h.plc to_).2≠0 then .ok ((h.plc to_).2,h) s else (iC ey (h.obj s n).1 i true (h.plc to_).1 s h.S).then fun x s=> .ok (x.1,{h with S:=x.2}) s) else .ok (2,h) s
def HpS.setRoot(h:HpS)(s:Dev)(i to_:Int):Out (Int×HpS):=if h.o=true then (if i<0∨h.c.roots≤i then .ok (1,h) s else if (h.plc to_).2≠0 then .ok ((h.plc to_).2,h) s else (h.S.store s (h.c.root i) (h.plc to_).1).then fun x s=> .ok (x.1,{h with S:=x.2}) s) else .ok (2,h) s
theorem CC(B:World)(Fr:List HP)(bd:Nat)(s:Dev)(o:du)(ho:mu o)(i:Int):
 ∀ w,Holds B (aG bd s::Fr) w→Calls Tryz.prog 82 [iF o,ptr bd,i64 i].toArray w (bB B (aG bd s::Fr) (.tuple #[i64 (s.objRef o i).1,i64 (s.objRef o i).2])):=by
 refine au func82 aa ntmps82 aa (ac (ab (aC aa (bx aa) .free aa aa ?_)))
 rintro _ _ ⟨b3,rfl,rfl⟩
 refine kPa aa aa (kPa aa aa (ad (ac (ab (kPv (am isAgg105 sizeOf105 aa aa) aa ?_)))))
 refine kPm aa aa (aE aa (aA call123 aa) (nM _ _ o ho i _) .free aa aa ?_)
 refine kPm aa aa (kPv (aB aa aa) aa (kPv (aB aa aa) aa (kPa aa aa (kPa aa aa (ad (ao [9,8,7,6,1] rfl (ac (ac (ab (kPm aa aa (kPv (an aa aa aa) aa ?_)))))))))))
 refine ad ?_
 refine aW aa (fun h17=> ?_) (fun h17=> ?_)
 ·have hk:(bS o i true).2≠0:=by simpa using h17
  have hres:s.objRef o i=(0,(bS o i true).2):=by unfold Dev.objRef;rw[if_pos hk]
  refine ac (ab (kPm aa aa (kPa aa aa (kPa aa aa (ad (az ?_))))))
  exact bg results82 aa aa (fun w hh=>⟨by rw[hres]<;>rfl,hh.tail⟩)
 ·have hk:¬ (bS o i true).2≠0:=by simpa using h17
  have hres:s.objRef o i=(IntKind.i64.wrap (s.load (bS o i true).1),0):=by unfold Dev.objRef;rw[if_neg hk]
  refine ay (ac (ab (kPm aa aa (kPm aa aa (aE aa (aA call71 aa) (bU (q:=aG) (fun Fr=>cH _ Fr _ _ _)) .free aa aa ?_)))))
  refine kPv (dh runUnderlying26 runUnderlying3 aa aa) aa (kPa aa aa (kPa aa aa (ad (ao [7,6] rfl (az ?_)))))
  exact bg results82 aa aa (fun w hh=>⟨by rw[hres]<;>rfl,hh.tail⟩)
theorem Br(B:World)(Fr:List HP)(bh:Nat)(h:HpS)(s:Dev)(hW:dl h s)(n:Int):
 ∀ w,Holds B (cy bh h::aG h.bd s::Fr) w→Calls Tryz.prog 27 [ptr bh,i64 n].toArray w (bB B (cy bh h::aG h.bd s::Fr) (.tuple #[.agg #[i64 (h.obj s n).1.1,i64 (h.obj s n).1.2.1],i64 (h.obj s n).2])):=by
 refine au func27 aa ntmps27 aa (ek fun bs bt x=>(ac (ab (aC aa (aN zeroValue38 aa) .free aa aa ?_))))
 rintro _ _ ⟨b4,rfl,rfl⟩
 refine kPa aa aa (ad (ac (ab (kPm aa aa (kPm aa aa (aJ [1,2,3] (aE aa (aA call60 aa) (jo B _ bh bs bt x h s hW n) .free aa aa ?_)))))))
 refine kPm aa aa (kPv (aB aa aa) aa (kPv (aB aa aa) aa (aC aa (aN zeroValue105 aa) .free aa aa ?_)))
 rintro _ _ ⟨b6,rfl,rfl⟩
 refine aD aa (aI (vs:=_) sizeOf105 aa aa aa aa aa) .free aa ?_
 rintro _ _ rfl
 refine kPa aa aa (ad (ao [7,6,5,4] rfl (ac (ab (kPv (aj (m:=_) fD aa aa) aa (kPv (am isAgg38 sizeOf38 aa aa) aa ?_))))))
 refine kPm aa aa (aD aa (aI (vs:=_) sizeOf38 aa aa aa aa aa) .free aa ?_)
 rintro _ _ rfl
 refine kPa aa aa (ad (az ?_))
 exact iR results27 (.cellA aa isAgg38 sizeOf38 aa aa) (.tmp aa) (fun w hw=>⟨rfl,cz (bs:=bs) (bt:=bt) (x:=x) ((hw.dp [0,3]).pk [0,2,0,1])⟩)
theorem Bp(B:World)(Fr:List HP)(bh:Nat)(h:HpS)(s:Dev)(hW:dl h s)(n i:Int):
 ∀ w,Holds B (cy bh h::aG h.bd s::Fr) w→Calls Tryz.prog 21 [ptr bh,i64 n,i64 i].toArray w (bB B (cy bh h::aG h.bd s::Fr) (.tuple #[w64 (h.read s n i).1,i64 (h.read s n i).2])):=by
 refine au func21 aa ntmps21 aa (ek fun bs bt x=>(ac (ab (kPa aa aa (kPa aa aa (ad (ac (ab (kPm aa aa (kPm aa aa (aJ [0,1,2] ?_)))))))))))
 refine aE aa (aA call60 aa) (jo B _ bh bs bt x h s hW n) .free aa aa ?_
 refine kPm aa aa (kPv (aB aa aa) aa (kPv (aB aa aa) aa (aC aa (aN zeroValue105 aa) .free aa aa ?_)))
 rintro _ _ ⟨b8,rfl,rfl⟩
 refine aD aa (aI (vs:=_) sizeOf105 aa aa aa aa aa) .free aa ?_
 rintro _ _ rfl
 refine kPa aa aa (ad (ao [9,8,7,6,0,2] rfl (ac (ac (ab (kPm aa aa (kPv (an aa aa aa) aa (ad ?_))))))))
 refine aW aa (fun h17=> ?_) (fun h17=> ?_)
 ·have hk:(h.obj s n).2≠0:=by simpa using h17
  refine ac (ab (kPm aa aa (kPa aa aa (kPa aa aa (ad (az ?_))))))
  exact bg results21 aa aa (fun w hw=>⟨by unfold HpS.read;rw[if_pos hk];rfl,cz (bs:=bs) (bt:=bt) (x:=x) ((hw.dp [0]).pk [0,2,0,1])⟩)
 ·have hk:¬ (h.obj s n).2≠0:=by simpa using h17
  have how:=HpS.obj_w hW (n:=n) (by omega)
  refine ay (ac (cK Tryz.mixed (by kernel_rfl) (by kernel_rfl) ?_))
  refine kQv (am isAgg105 sizeOf105 aa aa) aa ?_
  refine kQm aa aa (kQv (ak aa) aa (kQv (aj (m:=_) gO aa aa) aa (kQv (ae isAgg28 aa aa) aa (kQm aa aa (bH aa (aA call72 aa) (bU (q:=aG) (fun Fr=>qP _ Fr h.bd s _ how i)) .free aa ?_)))))
  refine kQv (aB aa aa) aa (kQv (aB aa aa) aa (kQa aa aa (kQa aa aa (bR (ao [7,6] rfl (az ?_))))))
  exact bg results21 aa aa (fun w hw=>⟨by unfold HpS.read;rw[if_neg hk];rfl,cz (bs:=bs) (bt:=bt) (x:=x) ((hw.dp [0]).pk [0,2,0,1])⟩)
theorem xl(B:World)(Fr:List HP)(bh:Nat)(h:HpS)(s:Dev)(hW:dl h s):
 ∀ w,Holds B (cy bh h::aG h.bd s::Fr) w→Calls Tryz.prog 39 [ptr bh].toArray w (bB B (cy bh h::aG h.bd s::Fr) (i64 (s.check h.c))):=by
 refine au func39 aa ntmps39 aa (ek fun bs bt x=>(ac (ab (kPa aa aa (ad (ac (cK Tryz.mixed (by kernel_rfl) (by kernel_rfl) ?_)))))))
 refine kQm aa aa (kQv (ak aa) aa (kQv (aj (m:=_) gO aa aa) aa (kQv (ae isAgg28 aa aa) aa (kQm aa aa (kQv (ak aa) aa (kQv (aj (m:=_) dW aa aa) aa (kQv (am isAgg40 sizeOf40 aa aa) aa ?_)))))))
 refine bH aa (aA call68 aa) (bU (q:=aG) (fun Fr=>mn _ Fr h.bd s h.c hW.c hW.u)) .free aa ?_
 refine kQa aa aa (bR (ao [2] rfl (az ?_)))
 exact ax results39 aa (fun w hw=>⟨rfl,cz (bs:=bs) (bt:=bt) (x:=x) hw⟩)
theorem zN(B:World)(Fr:List HP)(bh:Nat)(h:HpS)(s:Dev)(hW:dl h s)(n:Int):
 ∀ w,Holds B (cy bh h::aG h.bd s::Fr) w→Calls Tryz.prog 26 [ptr bh,i64 n].toArray w (Ret B (fun rv H'=>rv=i64 (if (bi h.T.at_ n).isSome=true then 0 else 6)∧H'=cy bh {h with T:=h.T.drop n}::aG h.bd s::Fr) (fun _ _=>False)):=by
 refine au func26 aa ntmps26 aa (ek fun bs bt x=>(ac (ab (kPa aa aa (ad (ac (ac (ab (kPm aa aa (kPv (ak aa) aa (kPv (aj (m:=_) gN aa aa) aa ?_)))))))))))
 refine kPv (ae isAgg90 aa aa) aa (kPm aa aa (aJ [2] (cL aa (aA call83 aa) (Bt B _ bt h.T n) .free aa aa ?_)))
 refine kPv (bF aa) aa (ad (ao [11,4] rfl ?_))
 refine aW aa (fun h11=> ?_) (fun h11=> ?_)
 ·have hk:¬ (bi h.T.at_ n).isSome=true:=by simpa using h11
  refine ac (ab (kPa aa aa (ad (az ?_))))
  exact ax results26 aa (fun w hw=>⟨_,⟨by rw[if_neg hk],rfl⟩,cz (h:={h with T:=h.T.drop n}) (bs:=bs) (bt:=bt) (x:=x) (hw.pk [1,1])⟩)
 ·have hk:(bi h.T.at_ n).isSome=true:=by simpa using h11
  refine ay (ac (ab (kPa aa aa (ad (az ?_)))))
  exact ax results26 aa (fun w hw=>⟨_,⟨by rw[if_pos hk],rfl⟩,cz (h:={h with T:=h.T.drop n}) (bs:=bs) (bt:=bt) (x:=x) (hw.pk [1,1])⟩)
theorem CY(B:World)(Fr:List HP)(bh:Nat)(h:HpS)(s:Dev)(hW:dl h s)(n i:Int):
 ∀ w,Holds B (cy bh h::aG h.bd s::Fr) w→Calls Tryz.prog 25 [ptr bh,i64 n,i64 i].toArray w (Ret B (fun rv H'=>rv= .tuple #[i64 (h.ref s n i).1.1,i64 (h.ref s n i).1.2]∧H'=cy bh (h.ref s n i).2::aG h.bd s::Fr) (fun _ _=>False)):=by
 refine au func25 aa ntmps25 aa (ek fun bs bt x=>(ac (ab (kPa aa aa (kPa aa aa (ad (ac (ab (kPm aa aa (kPm aa aa (aJ [0,1,2] ?_)))))))))))
 refine aE aa (aA call60 aa) (jo B _ bh bs bt x h s hW n) .free aa aa ?_
 refine kPm aa aa (kPv (aB aa aa) aa (kPv (aB aa aa) aa (aC aa (aN zeroValue105 aa) .free aa aa ?_)))
 rintro _ _ ⟨b8,rfl,rfl⟩
 refine aD aa (aI (vs:=_) sizeOf105 aa aa aa aa aa) .free aa ?_
 rintro _ _ rfl
 refine kPa aa aa (ad (ao [9,8,7,6,0,2] rfl (ac (ac (ab (kPm aa aa (kPv (an aa aa aa) aa (ad ?_))))))))
 refine aW aa (fun h18=> ?_) (fun h18=> ?_)
 ·have hk:(h.obj s n).2≠0:=by simpa using h18
  refine ac (ab (kPm aa aa (kPa aa aa (kPa aa aa (ad (az ?_))))))
  exact bg results25 aa aa (fun w hw=>⟨_,⟨by unfold HpS.ref;rw[if_pos hk];rfl,rfl⟩,by unfold HpS.ref;rw[if_pos hk];exact cz (bs:=bs) (bt:=bt) (x:=x) ((hw.dp [0]).pk [0,2,0,1])⟩)
 ·have hk:¬ (h.obj s n).2≠0:=by simpa using h18
  have how:=HpS.obj_w hW (n:=n) (by omega)
  refine ay (ac (cK Tryz.mixed (by kernel_rfl) (by kernel_rfl) ?_))
  refine kQv (am isAgg105 sizeOf105 aa aa) aa ?_
  refine kQm aa aa (kQv (ak aa) aa (kQv (aj (m:=_) gO aa aa) aa (kQv (ae isAgg28 aa aa) aa (kQm aa aa (bH aa (aA call82 aa) (bU (q:=aG) (fun Fr=>CC _ Fr h.bd s _ how i)) .free aa ?_)))))
  refine kQm aa aa (kQv (aB aa aa) aa (kQv (aB aa aa) aa (kQa aa aa (kQa aa aa (bR (ao [9,10,7,6,0] rfl (ac (ab (kPm aa aa (kPv (ak aa) aa (kPv (aj (m:=_) gN aa aa) aa ?_)))))))))))
  refine kPv (ae isAgg90 aa aa) aa (kPm aa aa (aJ [2] (cL aa (aA call57 aa) (jj B _ bt h.T (s.objRef (h.obj s n).1 i).1 hW.t1) .free aa aa ?_)))
  refine kPm aa aa (kPa aa aa (kPa aa aa (ad (ao [7,6] rfl (az ?_)))))
  exact bg results25 aa aa (fun w hw=>⟨_,⟨by unfold HpS.ref;rw[if_neg hk];rfl,rfl⟩,by unfold HpS.ref;rw[if_neg hk];exact cz (h:={h with T:=(h.T.take (s.objRef (h.obj s n).1 i).1).2}) (bs:=bs) (bt:=bt) (x:=x) ((hw.dp [1]).pk [1,2,0,1])⟩)
theorem Bo(B:World)(Fr:List HP)(bh:Nat)(h:HpS)(s:Dev)(hW:dl h s)(i:Int):
 ∀ w,Holds B (cy bh h::aG h.bd s::Fr) w→Calls Tryz.prog 20 [ptr bh,i64 i].toArray w (Ret B (fun rv H'=>rv= .tuple #[i64 (h.root s i).1.1,i64 (h.root s i).1.2]∧H'=cy bh (h.root s i).2::aG h.bd s::Fr) (fun _ _=>False)):=by
 refine au func20 aa ntmps20 aa (ek fun bs bt x=>(ac (ab (kPa aa aa (kPa aa aa (ad (ac (ac (ab (kPm aa aa (kPv (an aa aa aa) aa ?_)))))))))))
 refine kPm aa aa ?_
 apply gl (tp:=16) (t:=8) (σ1:=[(8,_),(5,_),(4,_),(0,_),(1,_)]) 8 rfl (aF rfl)
 ·intro hg1
  refine aq aa (ap aa) (.on aa aa (ah hg1)) aa aa (aq aa (ap aa) (.on aa aa (ah hg1)) aa aa (aq aa (ak aa) (.on aa aa (ah hg1)) aa aa (aq aa (aj (m:=_) dW aa aa) (.on aa aa (ah hg1)) aa aa (aq aa (aj (m:=_) fm aa aa) (.on aa aa (ah hg1)) aa aa (aq aa (ae isAgg3 aa aa) (.on aa aa (ah hg1)) aa aa (aq aa (an aa aa aa) (.on aa aa (ah hg1)) aa aa (kPv (aL aa hg1 aa) aa ?_)))))))
  exact ba aa (aF aa) (eZ hg1)
 ·intro hg1
  refine ar aa (.on aa aa (ai hg1)) aa (ar aa (.on aa aa (ai hg1)) aa (ar aa (.on aa aa (ai hg1)) aa (ar aa (.on aa aa (ai hg1)) aa (ar aa (.on aa aa (ai hg1)) aa (ar aa (.on aa aa (ai hg1)) aa (ar aa (.on aa aa (ai hg1)) aa (kPv (aH aa hg1 aa) aa ?_)))))))
  exact ba aa (aF aa) (eY hg1)
 refine ad ?_
 refine aW aa (fun h16=> ?_) (fun h16=> ?_)
 ·have hk:i<0∨h.c.roots≤i:=by have h9:=h16;simp at h9;omega
  refine ac (ab (kPa aa aa (kPa aa aa (ad (az ?_)))))
  exact bg results20 aa aa (fun w hw=>⟨_,⟨by unfold HpS.root;rw[if_pos hk],rfl⟩,by unfold HpS.root;rw[if_pos hk];exact cz (bs:=bs) (bt:=bt) (x:=x) hw⟩)
 ·have hk:¬ (i<0∨h.c.roots≤i):=by have h9:=h16;simp at h9;omega
  have hr2:=hW.c.r2
  refine ay (ac (cD 16 Tryz.mixed (by kernel_rfl) (by kernel_rfl) ?_))
  refine kQm aa aa (kQv (ak aa) aa (kQv (aj (m:=_) gN aa aa) aa (kQv (ae isAgg90 aa aa) aa (kQm aa aa (kQv (ak aa) aa (kQv (aj (m:=_) gO aa aa) aa (kQv (ae isAgg28 aa aa) aa (kQm aa aa (kQv (ak aa) aa (kQv (aj (m:=_) dW aa aa) aa (kQv (am isAgg40 sizeOf40 aa aa) aa ?_)))))))))))
  refine kQm aa aa (bH aa (aA call59 aa) (kN _ _ h.c hW.c i (by omega) (by omega)) .free aa ?_)
  refine bH aa (aA call71 aa) (bU (q:=aG) (fun Fr=>cH _ Fr _ _ _)) .free aa ?_
  refine kQv (dh runUnderlying26 runUnderlying3 aa aa) aa (bR (aJ [2] (cL aa (aA call57 aa) (jj B _ bt h.T (IntKind.i64.wrap (s.load (h.c.root i))) hW.t1) .free aa aa ?_)))
  refine kPa aa aa (kPa aa aa (ad (ao [5,4] rfl (az ?_))))
  exact bg results20 aa aa (fun w hw=>⟨_,⟨by unfold HpS.root;rw[if_neg hk],rfl⟩,by unfold HpS.root;rw[if_neg hk];exact cz (h:={h with T:=(h.T.take (IntKind.i64.wrap (s.load (h.c.root i)))).2}) (bs:=bs) (bt:=bt) (x:=x) (hw.pk [1,1])⟩)
theorem dl.ok{h:HpS}{s:Dev}(hW:dl h s)(ho:h.o=true):U64 s∧s.n≤1000000∧mZ h.S∧h.S.L.d=h.bd∧h.S.L.c=h.c:=⟨hW.u,hW.k.n,(hW.sw ho).1,hW.k.d,hW.k.c⟩
theorem tg(B:World)(Fr:List HP)(bh:Nat)(h:HpS)(s:Dev)(hW:dl h s)(n i v:Int)(hv:0≤v∧v<18446744073709551616):
 ∀ w,Holds B (cy bh h::aG h.bd s::Fr) w→Calls Tryz.prog 14 [ptr bh,i64 n,i64 i,w64 v].toArray w (Ret B (fun rv H'=>∃ a h' s',h.write s n i v= .ok (a,h') s'∧rv=i64 a∧H'=cy bh h'::aG h.bd s'::Fr) (fun ch H'=>∃ s',h.write s n i v= .off s'∧ch=dN∧H'=aG h.bd s'::Fr)):=by
 refine au func14 aa ntmps14 aa (ek fun bs bt x=>(ac (ab (kPa aa aa (ad (ac (ac (ab (kPm aa aa (kPv (ak aa) aa (kPv (aj (m:=_) dt aa aa) aa ?_)))))))))))
 refine kPv (ae isAgg89 aa aa) aa (aE aa (aA call51 aa) (bU (q:=mt h.o) (fun Fr=>gv B Fr bs h.S h.o)) .free aa aa ?_)
 refine kPv (bF aa) aa (ad ?_)
 refine aW aa (fun h16=> ?_) (fun h16=> ?_)
 ·have ho:h.o=false:=by simpa using h16
  have hof:¬ h.o=true:=by rw[ho];decide
  refine ac (ab (kPa aa aa (ad (az ?_))))
  exact ax results14 aa (fun w hw=>⟨_,⟨2,h,s,by unfold HpS.write;rw[if_neg hof],rfl,rfl⟩,cz (bs:=bs) (bt:=bt) (x:=x) hw⟩)
 ·have ho:h.o=true:=by simpa using h16
  refine aJ [1] (aK (H':=iK bs h.S::_) (fun w hh=>by rw[ho] at hh;exact hh) (ay (ac (ab (kPm aa aa (kPm aa aa (aJ [1,1,2] (aE aa (aA call60 aa) (jo B _ bh bs bt x h s hW n) .free aa aa ?_))))))))
  refine kPm aa aa (kPv (aB aa aa) aa (kPv (aB aa aa) aa (aC aa (aN zeroValue105 aa) .free aa aa ?_)))
  rintro _ _ ⟨b9,rfl,rfl⟩
  refine aD aa (aI (vs:=_) sizeOf105 aa aa aa aa aa) .free aa ?_
  rintro _ _ rfl
  refine kPa aa aa (ad (ao [10,9,8,0,2,3] rfl (ac (ac (ab (kPm aa aa (kPv (an aa aa aa) aa (ad ?_))))))))
  refine aW aa (fun h24=> ?_) (fun h24=> ?_)
  ·have hk:(h.obj s n).2≠0:=by simpa using h24
   refine ac (ab (kPm aa aa (kPa aa aa (ad (az ?_)))))
   exact ax results14 aa (fun w hw=>⟨_,⟨(h.obj s n).2,h,s,by unfold HpS.write;rw[if_pos ho,if_pos hk],rfl,rfl⟩,lx (bs:=bs) (bt:=bt) (x:=x) ho ((hw.dp [0]).pk [0,2,0,1])⟩)
  ·have hk:¬ (h.obj s n).2≠0:=by simpa using h24
   have how:=HpS.obj_w hW (n:=n) (by omega)
   refine ay (ac (aK (H':=row b9 [i64 (h.obj s n).1.1,i64 (h.obj s n).1.2.1,i64 (h.obj s n).1.2.2] 105::_) (fun w hh=>hh) (cD 8 Tryz.mixed (by kernel_rfl) (by kernel_rfl) ?_)))
   refine kQv (am isAgg105 sizeOf105 aa aa) aa ?_
   refine kQm aa aa (kQm aa aa (kQm aa aa (kQv (ak aa) aa (kQv (aj (m:=_) dt aa aa) aa (kQv (ae isAgg89 aa aa) aa (kQv (dm aa aa) aa (bR (aJ [3,3] ?_))))))))
   refine aY aa (aA call61 aa) (sS B _ _ _ h.bd bs bG (fun b S=>iK b S) _ _ (qm B h.bd bs h.c) (h.obj s n).1 how i v hv s h.S (hW.ok ho)) .free aa aa ?_ ?_
   rotate_left
   ·rintro _ _ ⟨s9,hm9,rfl,rfl⟩
    exact bz fun w hh=>⟨_,⟨s9,by unfold HpS.write;rw[if_pos ho,if_neg hk,show iC ey (h.obj s n).1 i false v s h.S= .off s9 from hm9];rfl,rfl,rfl⟩,hh.dp [1,1,1,1]⟩
   rintro _ _ ⟨a2,S2,s2,hm2,rfl,hok2,rfl⟩
   refine kPa aa aa (ad (ao [8] rfl (az ?_)))
   exact ax results14 aa (fun w hw=>⟨_,⟨a2,{h with S:=S2},s2,by unfold HpS.write;rw[if_pos ho,if_neg hk,show iC ey (h.obj s n).1 i false v s h.S= .ok (a2,S2) s2 from hm2];rfl,rfl,rfl⟩,lx (h:={h with S:=S2,T:=h.T}) (bs:=bs) (bt:=bt) (x:=x) ho ((hw.dp [2]).pk [2,1,1,1])⟩)
theorem zM(B:World)(Fr:List HP)(bh:Nat)(h:HpS)(s:Dev)(hW:dl h s)(n i to_:Int):
 ∀ w,Holds B (cy bh h::aG h.bd s::Fr) w→Calls Tryz.prog 23 [ptr bh,i64 n,i64 i,i64 to_].toArray w (Ret B (fun rv H'=>∃ a h' s',h.point s n i to_= .ok (a,h') s'∧rv=i64 a∧H'=cy bh h'::aG h.bd s'::Fr) (fun ch H'=>∃ s',h.point s n i to_= .off s'∧ch=dN∧H'=aG h.bd s'::Fr)):=by
 refine au func23 aa ntmps23 aa (ek fun bs bt x=>(ac (ab (kPa aa aa (ad (ac (ac (ab (kPm aa aa (kPv (ak aa) aa (kPv (aj (m:=_) dt aa aa) aa ?_)))))))))))
 refine kPv (ae isAgg89 aa aa) aa (aE aa (aA call51 aa) (bU (q:=mt h.o) (fun Fr=>gv B Fr bs h.S h.o)) .free aa aa ?_)
 refine kPv (bF aa) aa (ad ?_)
 refine aW aa (fun h17=> ?_) (fun h17=> ?_)
 ·have ho:h.o=false:=by simpa using h17
  have hof:¬ h.o=true:=by rw[ho];decide
  refine ac (ab (kPa aa aa (ad (az ?_))))
  exact ax results23 aa (fun w hw=>⟨_,⟨2,h,s,by unfold HpS.point;rw[if_neg hof],rfl,rfl⟩,cz (bs:=bs) (bt:=bt) (x:=x) hw⟩)
 ·have ho:h.o=true:=by simpa using h17
  refine aJ [1] (aK (H':=iK bs h.S::_) (fun w hh=>by rw[ho] at hh;exact hh) (ay (ac (ab (kPm aa aa (kPm aa aa (aJ [1,1,2] (aE aa (aA call60 aa) (jo B _ bh bs bt x h s hW n) .free aa aa ?_))))))))
  refine kPm aa aa (kPv (aB aa aa) aa (kPv (aB aa aa) aa (aC aa (aN zeroValue105 aa) .free aa aa ?_)))
  rintro _ _ ⟨b9,rfl,rfl⟩
  refine aD aa (aI (vs:=_) sizeOf105 aa aa aa aa aa) .free aa ?_
  rintro _ _ rfl
  refine kPa aa aa (ad (ao [10,9,8,0,2,3] rfl (ac (ac (ab (kPm aa aa (kPv (an aa aa aa) aa (ad ?_))))))))
  refine aW aa (fun h25=> ?_) (fun h25=> ?_)
  ·have hk:(h.obj s n).2≠0:=by simpa using h25
   refine ac (ab (kPm aa aa (kPa aa aa (ad (az ?_)))))
   exact ax results23 aa (fun w hw=>⟨_,⟨(h.obj s n).2,h,s,by unfold HpS.point;rw[if_pos ho,if_pos hk],rfl,rfl⟩,lx (bs:=bs) (bt:=bt) (x:=x) ho ((hw.dp [0]).pk [0,2,0,1])⟩)
  ·have hk:¬ (h.obj s n).2≠0:=by simpa using h25
   have how:=HpS.obj_w hW (n:=n) (by omega)
   refine ay (ac (ab (kPm aa aa (kPm aa aa (aJ [1,1] (aE aa (aA call58 aa) (yD B _ bh bs bt x h s to_) .free aa aa ?_))))))
   refine kPm aa aa (kPv (aB aa aa) aa (kPv (aB aa aa) aa (kPa aa aa (kPa aa aa (ad (ao [10,11,9,8,0,2] rfl (ac (ac (ab (kPm aa aa (kPv (an aa aa aa) aa ?_)))))))))))
   refine ad ?_
   refine aW aa (fun h34=> ?_) (fun h34=> ?_)
   ·have hp:(h.plc to_).2≠0:=by simpa using h34
    refine ac (ab (kPm aa aa (kPa aa aa (ad (az ?_)))))
    exact ax results23 aa (fun w hw=>⟨_,⟨(h.plc to_).2,h,s,by unfold HpS.point;rw[if_pos ho,if_neg hk,if_pos hp],rfl,rfl⟩,lx (bs:=bs) (bt:=bt) (x:=x) ho ((hw.dp [2]).pk [0,2,0,1])⟩)
   ·have hp:¬ (h.plc to_).2≠0:=by simpa using h34
    have hpb:=HpS.plc_b hW to_
    refine ay (ac (aJ [2] (aK (H':=row b9 [i64 (h.obj s n).1.1,i64 (h.obj s n).1.2.1,i64 (h.obj s n).1.2.2] 105::_) (fun w hh=>hh) (cD 8 Tryz.mixed (by kernel_rfl) (by kernel_rfl) ?_))))
    refine kQv (am isAgg105 sizeOf105 aa aa) aa ?_
    refine kQm aa aa (kQm aa aa (kQm aa aa (kQv (ak aa) aa (kQv (aj (m:=_) dt aa aa) aa (kQv (ae isAgg89 aa aa) aa (kQv (dm aa aa) aa (bR (aJ [3,3] ?_))))))))
    refine aY aa (aA call77 aa) (sT B _ _ _ h.bd bs bG (fun b S=>iK b S) _ _ (qm B h.bd bs h.c) (h.obj s n).1 how i (h.plc to_).1 (by omega) s h.S (hW.ok ho)) .free aa aa ?_ ?_
    rotate_left
    ·rintro _ _ ⟨s9,hm9,rfl,rfl⟩
     exact bz fun w hh=>⟨_,⟨s9,by unfold HpS.point;rw[if_pos ho,if_neg hk,if_neg hp,show iC ey (h.obj s n).1 i true (h.plc to_).1 s h.S= .off s9 from hm9];rfl,rfl,rfl⟩,hh.dp [1,1,1,1]⟩
    rintro _ _ ⟨a2,S2,s2,hm2,rfl,hok2,rfl⟩
    refine kPa aa aa (ad (ao [8] rfl (az ?_)))
    exact ax results23 aa (fun w hw=>⟨_,⟨a2,{h with S:=S2},s2,by unfold HpS.point;rw[if_pos ho,if_neg hk,if_neg hp,show iC ey (h.obj s n).1 i true (h.plc to_).1 s h.S= .ok (a2,S2) s2 from hm2];rfl,rfl,rfl⟩,lx (h:={h with S:=S2,T:=h.T}) (bs:=bs) (bt:=bt) (x:=x) ho ((hw.dp [2]).pk [2,1,1,1])⟩)
theorem CX(B:World)(Fr:List HP)(bh:Nat)(h:HpS)(s:Dev)(hW:dl h s)(i to_:Int):
 ∀ w,Holds B (cy bh h::aG h.bd s::Fr) w→Calls Tryz.prog 13 [ptr bh,i64 i,i64 to_].toArray w (Ret B (fun rv H'=>∃ a h' s',h.setRoot s i to_= .ok (a,h') s'∧rv=i64 a∧H'=cy bh h'::aG h.bd s'::Fr) (fun ch H'=>∃ s',h.setRoot s i to_= .off s'∧ch=dN∧H'=aG h.bd s'::Fr)):=by
 refine au func13 aa ntmps13 aa (ek fun bs bt x=>(ac (ab (kPa aa aa (ad (ac (aO (ac (ab (kPm aa aa (kPv (ak aa) aa ?_)))))))))))
 refine kPv (aj (m:=_) dt aa aa) aa (kPv (ae isAgg89 aa aa) aa (aE aa (aA call51 aa) (bU (q:=mt h.o) (fun Fr=>gv B Fr bs h.S h.o)) .free aa aa ?_))
 refine kPv (bF aa) aa (kPa aa aa (ad ?_))
 refine aW aa (fun h9=> ?_) (fun h9=> ?_)
 ·have ho:h.o=false:=by simpa using h9
  have hof:¬ h.o=true:=by rw[ho];decide
  refine ac (ab (kPa aa aa (ad (ao [6,0,1,2] rfl (az ?_)))))
  exact ax results13 aa (fun w hw=>⟨_,⟨2,h,s,by unfold HpS.setRoot;rw[if_neg hof],rfl,rfl⟩,cz (bs:=bs) (bt:=bt) (x:=x) hw⟩)
 ·have ho:h.o=true:=by simpa using h9
  refine aJ [1] (aK (H':=iK bs h.S::_) (fun w hh=>by rw[ho] at hh;exact hh) (ac (ab (kPm aa aa (kPv (an aa aa aa) aa (kPm aa aa ?_))))))
  apply gl (tp:=27) (t:=19) (σ1:=[(19,_),(6,_),(0,_),(1,_),(2,_)]) 8 rfl (aF rfl)
  ·intro hg1
   refine aq aa (ap aa) (.on aa aa (ah hg1)) aa aa (aq aa (ap aa) (.on aa aa (ah hg1)) aa aa (aq aa (ak aa) (.on aa aa (ah hg1)) aa aa (aq aa (aj (m:=_) dW aa aa) (.on aa aa (ah hg1)) aa aa (aq aa (aj (m:=_) fm aa aa) (.on aa aa (ah hg1)) aa aa (aq aa (ae isAgg3 aa aa) (.on aa aa (ah hg1)) aa aa (aq aa (an aa aa aa) (.on aa aa (ah hg1)) aa aa (kPv (aL aa hg1 aa) aa ?_)))))))
   exact ba aa (aF aa) (eZ hg1)
  ·intro hg1
   refine ar aa (.on aa aa (ai hg1)) aa (ar aa (.on aa aa (ai hg1)) aa (ar aa (.on aa aa (ai hg1)) aa (ar aa (.on aa aa (ai hg1)) aa (ar aa (.on aa aa (ai hg1)) aa (ar aa (.on aa aa (ai hg1)) aa (ar aa (.on aa aa (ai hg1)) aa (kPv (aH aa hg1 aa) aa ?_)))))))
   exact ba aa (aF aa) (eY hg1)
  refine kPa aa aa (ad ?_)
  refine aW aa (fun h16=> ?_) (fun h16=> ?_)
  ·have hk:i<0∨h.c.roots≤i:=by have h9:=h16;simp at h9;omega
   refine ac (ab (kPa aa aa (ad (az ?_))))
   exact ax results13 aa (fun w hw=>⟨_,⟨1,h,s,by unfold HpS.setRoot;rw[if_pos ho,if_pos hk],rfl,rfl⟩,lx (bs:=bs) (bt:=bt) (x:=x) ho (hw.pk [1])⟩)
  ·have hk:¬ (i<0∨h.c.roots≤i):=by have h9:=h16;simp at h9;omega
   have hr2:=hW.c.r2
   refine ay (ac (ab (kPm aa aa (kPm aa aa (aJ [1,1] (aE aa (aA call58 aa) (yD B _ bh bs bt x h s to_) .free aa aa ?_))))))
   refine kPm aa aa (kPv (aB aa aa) aa (kPv (aB aa aa) aa (kPa aa aa (kPa aa aa (ad (ao [8,7,6,0,1] rfl (ac (ac (ab (kPm aa aa (kPv (an aa aa aa) aa ?_)))))))))))
   refine ad ?_
   refine aW aa (fun h35=> ?_) (fun h35=> ?_)
   ·have hp:(h.plc to_).2≠0:=by simpa using h35
    refine ac (ab (kPm aa aa (kPa aa aa (ad (az ?_)))))
    exact ax results13 aa (fun w hw=>⟨_,⟨(h.plc to_).2,h,s,by unfold HpS.setRoot;rw[if_pos ho,if_neg hk,if_pos hp],rfl,rfl⟩,lx (bs:=bs) (bt:=bt) (x:=x) ho (hw.pk [0,1])⟩)
   ·have hp:¬ (h.plc to_).2≠0:=by simpa using h35
    have hpb:=HpS.plc_b hW to_
    refine ay (ac (cD 12 Tryz.mixed (by kernel_rfl) (by kernel_rfl) ?_))
    refine kQm aa aa (kQv (ak aa) aa (kQv (aj (m:=_) dt aa aa) aa (kQv (ae isAgg89 aa aa) aa (kQm aa aa (kQv (ak aa) aa (kQv (aj (m:=_) dW aa aa) aa (kQv (am isAgg40 sizeOf40 aa aa) aa ?_)))))))
    refine kQm aa aa (bH aa (aA call59 aa) (kN _ _ h.c hW.c i (by omega) (by omega)) .free aa ?_)
    refine kQm aa aa (kQv (dh runUnderlying3 runUnderlying26 aa (fW (by omega))) aa (bR (aJ [4,2] ?_)))
    refine aY aa (aA call56 aa) ((qm B h.bd bs h.c).says _ (h.c.root i) (h.plc to_).1 s h.S (hW.ok ho)) .free aa aa ?_ ?_
    rotate_left
    ·rintro _ _ ⟨s9,hm9,rfl,rfl⟩
     exact bz fun w hh=>⟨_,⟨s9,by unfold HpS.setRoot;rw[if_pos ho,if_neg hk,if_neg hp,show h.S.store s (h.c.root i) (h.plc to_).1= .off s9 from hm9];rfl,rfl,rfl⟩,hh.dp [1,1,1]⟩
    rintro _ _ ⟨a2,S2,s2,hm2,rfl,rfl⟩
    refine kPa aa aa (ad (ao [6] rfl (az ?_)))
    exact ax results13 aa (fun w hw=>⟨_,⟨a2,{h with S:=S2},s2,by unfold HpS.setRoot;rw[if_pos ho,if_neg hk,if_neg hp,show h.S.store s (h.c.root i) (h.plc to_).1= .ok (a2,S2) s2 from hm2];rfl,rfl,rfl⟩,lx (h:={h with S:=S2,T:=h.T}) (bs:=bs) (bt:=bt) (x:=x) ho (hw.pk [2,1,1,1])⟩)
theorem rh(B:World)(Fr:List HP)(bh:Nat)(h:HpS)(s:Dev)(hW:dl h s)(wd rf:Int):
 ∀ w,Holds B (cy bh h::aG h.bd s::Fr) w→Calls Tryz.prog 12 [ptr bh,.agg #[i64 wd,i64 rf]].toArray w (Ret B (fun rv H'=>∃ a h' s',h.alloc s wd rf= .ok (a,h') s'∧rv= .tuple #[i64 a.1,i64 a.2]∧H'=cy bh h'::aG h.bd s'::Fr) (fun ch H'=>∃ s',h.alloc s wd rf= .off s'∧ch=dN∧H'=aG h.bd s'::Fr)):=by
 refine au func12 aa ntmps12 aa (ek fun bs bt x=>(ac (ab (aC aa (bx aa) .free aa aa ?_))))
 rintro _ _ ⟨b3,rfl,rfl⟩
 refine kPa aa aa (kPa aa aa (ad (ac (ac (ab (kPm aa aa (kPv (ak aa) aa (kPv (aj (m:=_) dt aa aa) aa (kPv (ae isAgg89 aa aa) aa (aE aa (aA call51 aa) (bU (q:=mt h.o) (fun Fr=>gv B Fr bs h.S h.o)) .free aa aa ?_))))))))))
 refine kPv (bF aa) aa (ad ?_)
 refine aW aa (fun h13=> ?_) (fun h13=> ?_)
 ·have ho:h.o=false:=by simpa using h13
  have hof:¬ h.o=true:=by rw[ho];decide
  refine ac (ab (kPa aa aa (kPa aa aa (ad (ao [5,4,3,0] rfl (az ?_))))))
  exact bg results12 aa aa (fun w hw=>⟨_,⟨(0,2),h,s,by unfold HpS.alloc;rw[if_neg hof],rfl,rfl⟩,cz (bs:=bs) (bt:=bt) (x:=x) (hw.dp [0])⟩)
 ·have ho:h.o=true:=by simpa using h13
  refine aJ [2] (aK (H':=iK bs h.S::_) (fun w hh=>by rw[ho] at hh;exact hh) (ay (ac (yI [14] Tryz.mixed (by kernel_rfl) (by kernel_rfl) ?_))))
  refine DH (kQm aa aa (kQv (ak aa) aa (kQv (aj (m:=_) gO aa aa) aa (kQv (ae isAgg28 aa aa) aa (kQm aa aa (kQv (ak aa) aa (kQv (aj (m:=_) dW aa aa) aa (kQv (am isAgg40 sizeOf40 aa aa) aa ?_))))))))
  refine kQv (am isAgg38 sizeOf38 aa aa) aa ?_
  refine kQm aa aa (kQv (ak aa) aa (kQv (aj (m:=_) dt aa aa) aa (kQv (ae isAgg89 aa aa) aa (kQv (dm aa aa) aa (bR (aJ [5,0] ?_))))))
  refine aY aa (aA call55 aa) (wu B _ _ _ h.bd bs bG (fun b S=>iK b S) _ _ (qm B h.bd bs h.c) h.c hW.c wd rf s h.S (hW.ok ho)) .free aa aa ?_ ?_
  rotate_left
  ·rintro _ _ ⟨s9,hm9,rfl,rfl⟩
   exact bz fun w hh=>⟨_,⟨s9,by unfold HpS.alloc;rw[if_pos ho,show db ey h.c wd rf s h.S= .off s9 from hm9];rfl,rfl,rfl⟩,hh.dp [1,1,1,1]⟩
  rintro _ _ ⟨⟨at2,a2⟩,S2,s2,hm2,rfl,hok2,rfl⟩
  refine ad (DJ (kQm aa aa (kQv (aB aa aa) aa (kQv (aB aa aa) aa (kQa aa aa (kQa aa aa (bR (ao [7,6,5,4,0] rfl (ac (ac (ab ?_)))))))))))
  refine kPm aa aa (kPv (an aa aa aa) aa (ad ?_))
  refine aW aa (fun h33=> ?_) (fun h33=> ?_)
  ·have ha2:a2≠0:=by simpa using h33
   refine ac (ab (kPm aa aa (kPa aa aa (kPa aa aa (ad (az ?_))))))
   exact bg results12 aa aa (fun w hw=>⟨_,⟨(0,a2),{h with S:=S2},s2,by unfold HpS.alloc;rw[if_pos ho,show db ey h.c wd rf s h.S= .ok ((at2,a2),S2) s2 from hm2];simp only[aX];rw[if_pos ha2],rfl,rfl⟩,lx (h:={h with S:=S2,T:=h.T}) (bs:=bs) (bt:=bt) (x:=x) ho ((hw.dp [2]).pk [2,1,1,1])⟩)
  ·have ha2:¬ a2≠0:=by simpa using h33
   refine ay (ac (ab (kPm aa aa (kPv (ak aa) aa (kPv (aj (m:=_) gN aa aa) aa (kPv (ae isAgg90 aa aa) aa (kPm aa aa (aJ [4] (cL aa (aA call57 aa) (jj B _ bt h.T at2 hW.t1) .free aa aa ?_)))))))))
   refine kPa aa aa (kPa aa aa (ad (ao [5,4] rfl (az ?_))))
   exact bg results12 aa aa (fun w hw=>⟨_,⟨((h.T.take at2).1,0),{h with S:=S2,T:=(h.T.take at2).2},s2,by unfold HpS.alloc;rw[if_pos ho,show db ey h.c wd rf s h.S= .ok ((at2,a2),S2) s2 from hm2];simp only[aX];rw[if_neg ha2],rfl,rfl⟩,lx (h:={h with S:=S2,T:=(h.T.take at2).2}) (bs:=bs) (bt:=bt) (x:=x) ho ((hw.dp [3]).pk [3,2,0,1])⟩)
def m6(X:bE)(p:Int):Int:=(bi X.went p).getD 0
def mp(c:Cfg)(b:Blk)(p:Int):Int:=if b.has c p=true then p else 0
def HpS.finR(h:HpS)(X:bE)(s:Dev)(a:Int)(h':HpS)(s':Dev):Prop:=∃ S',fZ h.c X.block h.S s= .ok (a,S') s'∧
 ((a≠0∧h'={h with X:=none,S:=S'})∨(a=0∧∃ ord:List (Int×Int),ord.Perm h.T.at_∧h'={h with X:=none,S:=S',T:=cX.moved (m6 X) h.T.last ord}))
def HpS.colR(h:HpS)(s:Dev)(a:Int)(h':HpS)(s':Dev):Prop:=(h.o=true∧a=2∧h'=h∧s'=s)∨(h.o=false∧∃ X s1,(dR h.bd h.c (h.blk s) ((h.blk s).rts++h.words)).run s= .ok X s1∧h.finR X s1 a h' s')
def HpS.colOff(h:HpS)(s s':Dev):Prop:=h.o=false∧((dR h.bd h.c (h.blk s) ((h.blk s).rts++h.words)).run s= .off s'∨∃ X s1,(dR h.bd h.c (h.blk s) ((h.blk s).rts++h.words)).run s= .ok X s1∧fZ h.c X.block h.S s1= .off s')
theorem vE{B:World}{Fr:List HP}{bh bs bt x:Nat}{h:HpS}{w:World}(ho:h.o=false)(hx:h.X=none)(hh:Holds B (cq bh bs bt x h::eD bs h.S::fc bt h.T::Fr) w):Holds B (cy bh h::Fr) w:=
 po (bs:=bs) (bt:=bt) (x:=x) ho (by rw[hx];exact(hh.unpr (p:=True) trivial).back 3 (by simp))
def HpS.abortR(h:HpS)(s:Dev)(a:Int)(h':HpS)(s':Dev):Prop:=(h.o=false∧a=2∧h'=h∧s'=s)∨(h.o=true∧a=0∧∃ S',h.S.abort s= .ok S' s'∧∃ ord:List (Int×Int),ord.Perm h.T.at_∧h'={h with o:=false,S:=S',T:=cX.moved (mp h.c (h.blk s')) h.T.last ord})
theorem vI(B:World)(Fr:List HP)(bh:Nat)(h:HpS)(s:Dev)(hW:dl h s)(ho:h.o=true):
 ∀ w,Holds B (cy bh h::aG h.bd s::Fr) w→Calls Tryz.prog 15 [ptr bh].toArray w (Ret B (fun rv H'=>∃ a h' s',h.commit s= .ok (a,h') s'∧rv=i64 a∧H'=cy bh h'::aG h.bd s'::Fr) (fun ch H'=>∃ s',h.commit s= .off s'∧ch=dN∧H'=aG h.bd s'::Fr)):=by
 refine au func15 aa ntmps15 aa (ek fun bs bt x=>(aJ [1] (aK (H':=iK bs h.S::_) (fun w hh=>by rw[ho] at hh;exact hh) (aJ [0,3] (aK (H':=iK bs h.S::aG h.S.L.d s::_) (fun w hh=>by rw[hW.k.d];exact hh) (ac (ab (kPa aa aa (ad (ac (ab ?_)))))))))))
 refine kPm aa aa (kPv (ak aa) aa (kPv (aj (m:=_) dt aa aa) aa (kPv (ae isAgg89 aa aa) aa ?_)))
 refine aY aa (aA call62 aa) (pc B _ bs h.S s (hW.sw ho).1 (hW.sw ho).2) .free aa aa ?_ ?_
 rotate_left
 ·rintro _ _ ⟨s9,hm9,rfl,rfl⟩
  exact bz fun w hh=>⟨_,⟨s9,by unfold HpS.commit;rw[if_pos ho,hm9];rfl,rfl,rfl⟩,by rw[hW.k.d] at hh;exact hh.dp [1,1,1]⟩
 rintro _ _ ⟨S2,s2,hm2,rfl,rfl⟩
 refine kPa aa aa (ad (az ?_))
 exact ax results15 aa (fun w hw=>⟨_,⟨0,{h with o:=false,S:=S2},s2,by unfold HpS.commit;rw[if_pos ho,hm2];rfl,rfl,rfl⟩,by rw[hW.k.d] at hw;exact po (h:={h with o:=false,S:=S2}) (bs:=bs) (bt:=bt) (x:=x) aa (hw.pk [2,0,1,1])⟩)
theorem vJ(B:World)(Fr:List HP)(bh:Nat)(h:HpS)(s:Dev)(hW:dl h s)(ho:h.o=false):
 ∀ w,Holds B (cy bh h::aG h.bd s::Fr) w→Calls Tryz.prog 15 [ptr bh].toArray w (Ret B (fun rv H'=>∃ a h' s',h.commit s= .ok (a,h') s'∧rv=i64 a∧H'=cy bh h'::aG h.bd s'::Fr) (fun ch H'=>∃ s',h.commit s= .off s'∧ch=dN∧H'=aG h.bd s'::Fr)):=by
 refine au func15 aa ntmps15 aa (ek fun bs bt x=>(aJ [1] (aK (H':=eD bs h.S::_) (fun w hh=>by rw[ho] at hh;exact hh) (ac (ab (kPa aa aa (ad (ac (ab (kPm aa aa (kPv (ak aa) aa ?_)))))))))))
 refine kPv (aj (m:=_) dt aa aa) aa (kPv (ae isAgg89 aa aa) aa (aE aa (aA call62 aa) (bU (q:=eD) (fun Fr=>u6 B Fr bs h.S)) .free aa aa ?_))
 refine kPa aa aa (ad (az ?_))
 exact ax results15 aa (fun w hw=>⟨_,⟨2,h,s,by unfold HpS.commit;rw[if_neg (by rw[ho];decide)],rfl,rfl⟩,po (bs:=bs) (bt:=bt) (x:=x) ho (hw.pk [1])⟩)
theorem rp(B:World)(Fr:List HP)(bh:Nat)(h:HpS)(s:Dev)(hW:dl h s):∀ w,Holds B (cy bh h::aG h.bd s::Fr) w→Calls Tryz.prog 15 [ptr bh].toArray w (Ret B (fun rv H'=>∃ a h' s',h.commit s= .ok (a,h') s'∧rv=i64 a∧H'=cy bh h'::aG h.bd s'::Fr) (fun ch H'=>∃ s',h.commit s= .off s'∧ch=dN∧H'=aG h.bd s'::Fr)):=by
 cases ho:h.o
 ·exact vJ B Fr bh h s hW ho
 ·exact vI B Fr bh h s hW ho
theorem Bs(B:World)(Fr:List HP)(c1 x:Nat)(X:bE)(p:Int)(hp:0≤p∧p≤1000000):
 ∀ w,Holds B (row c1 [ptr x] 91::fw x X::Fr) w→Calls Tryz.prog 143 [i64 p,ptr c1].toArray w (bB B (row c1 [ptr x] 91::fw x X::Fr) (i64 (m6 X p))):=by
 refine au func143 aa ntmps143 aa (ac (ab (kPa aa aa (ad (ac (ab (kPv (ae isAgg91 aa aa) aa (kPm aa aa (kPv (dh runUnderlying3 runUnderlying26 aa (fW (by omega))) aa (aE aa (aA call144 aa) (bU (q:=fw) (fun Fr=>wb B Fr x X p)) .free aa aa ?_))))))))))
 refine kPa aa aa (ad (az ?_))
 exact ax results143 aa (fun w hw=>⟨rfl,hw⟩)
theorem CH(B:World)(c1 x:Nat)(X:bE):Ch B 143 [] [ptr c1] Unit (fun _=>[row c1 [ptr x] 91,fw x X]) (fun p=>0≤p∧p≤1000000) (m6 X) (fun _ e=>e) where
 enter:=call143
 says:=fun Fr p e hp w hw=>(Bs B Fr c1 x X p hp w hw).mono fun en w' h=>by
  obtain⟨rfl,h⟩:=h
  exact⟨_,⟨rfl,rfl⟩,h⟩
theorem mQ(B:World)(Fr:List HP)(bh bs bt x:Nat)(h:HpS)(s:Dev)(X:bE)(hx:h.X=some X)(ho:h.o=false)(hX:ev X)(hrl0:0<X.b.rts.length)(hu:U64 s)(hK:Cg h.S h.bd h.c s)(htp:∀ p∈h.T.at_,0≤p.2∧p.2≤1000000):
 ∀ w,Holds B (cq bh bs bt x h::eD bs h.S::fc bt h.T::fw x X::aG h.bd s::Fr) w→Calls Tryz.prog 81 [ptr bh].toArray w (Ret B (fun rv H'=>∃ a h' s',h.finR X s a h' s'∧rv=i64 a∧H'=cy bh h'::aG h.bd s'::Fr) (fun ch H'=>∃ s',fZ h.c X.block h.S s= .off s'∧ch=dN∧H'=aG h.bd s'::Fr)):=by
 refine au func81 aa ntmps81 aa (aK (H':=row bh [ptr h.bd,i64 h.c.log,i64 h.c.roots,i64 h.c.space,ptr bs,ptr bt,ptr x] 93::_) (fun w hh=>by have h9:=hh;unfold cq at h9;rw[hx] at h9;exact h9) (ac (ab (kPa aa aa (ad (ac (ab (kPm aa aa (kPv (ak aa) aa (kPv (aj (m:=_) iu aa aa) aa (kPv (ae isAgg91 aa aa) aa ?_)))))))))))
 refine aC aa (cA zeroValue91 aa) .free aa aa ?_
 rintro _ _ ⟨b3,rfl,rfl⟩
 refine aD aa (aR sizeOf91 aa aa (by first | rfl | assumption) rfl) .free rfl ?_
 rintro _ _ rfl
 refine ad (ac (ab (kPm aa aa (kPv (ak aa) aa (kPv (aj (m:=_) iu aa aa) aa ?_)))))
 refine aD aa (aR sizeOf91 aa aa (by first | rfl | assumption) rfl) .free rfl ?_
 rintro _ _ rfl
 refine ad (ao [3,2,0] rfl (ac (ac (aJ [1,0] (aK (H':=cq bh bs bt x {h with X:=none}::row b3 [ptr x] 91::_) (fun w hh=>hh) (cD 13 Tryz.mixed (by kernel_rfl) (by kernel_rfl) ?_))))))
 refine kQm aa aa (kQv (ak aa) aa (kQv (aj (m:=_) gO aa aa) aa (kQv (ae isAgg28 aa aa) aa (kQm aa aa (kQv (ak aa) aa (kQv (aj (m:=_) dW aa aa) aa (kQv (am isAgg40 sizeOf40 aa aa) aa ?_)))))))
 refine kQm aa aa (kQv (ak aa) aa (kQv (aj (m:=_) dt aa aa) aa (kQv (ae isAgg89 aa aa) aa (kQv (ae isAgg91 aa aa) aa (bR (aJ [2,3,3] ?_))))))
 refine aY aa (aA call141 aa) (yM B _ bs x h.bd h.S X hX hrl0 h.c s hu hK) .free aa aa ?_ ?_
 rotate_left
 ·rintro _ _ ⟨s9,hm9,rfl,rfl⟩
  exact bz fun w hh=>⟨_,⟨s9,hm9,rfl,rfl⟩,hh.dp [1,1,1]⟩
 rintro _ _ ⟨a2,S2,s2,hm2,rfl,rfl⟩
 refine kPa aa aa (ad (ao [4,3,2,0] rfl (ac (ab (kPm aa aa (kPv (an aa aa aa) aa (ad ?_)))))))
 refine aW aa (fun h27=> ?_) (fun h27=> ?_)
 ·have ha2:a2≠0:=by simpa using h27
  refine ac (ab (kPm aa aa (kPa aa aa (ad (az ?_)))))
  exact ax results81 aa (fun w hw=>⟨_,⟨a2,{h with X:=none,S:=S2},s2,⟨S2,hm2,.inl ⟨ha2,rfl⟩⟩,rfl,rfl⟩,vE (h:={h with X:=none,S:=S2}) (bs:=bs) (bt:=bt) (x:=x) ho aa ((hw.dp [1,3]).pk [2,0,1])⟩)
 ·have ha2:a2=0:=by simpa using h27
  refine ay (ac (ab (kPm aa aa (kPv (ak aa) aa (kPv (aj (m:=_) gN aa aa) aa (kPv (ae isAgg90 aa aa) aa (kPv (dm aa aa) aa (aJ [5,4,1] (aQ aa (aA call142 aa) ((fun w hh=>tn B _ bt h.T _ [] [ptr b3] Unit _ _ _ _ (CH B b3 x X) htp () w hh)) .free aa aa ?_)))))))))
  rintro _ _ ⟨ord,hperm,rfl⟩
  refine aK (H':=fc bt (cX.moved (m6 X) h.T.last ord)::row b3 [ptr x] 91::fw x X::eD bs S2::aG h.bd s2::cq bh bs bt x {h with X:=none}::Fr) (fun w hh=>hh) (ad (ao [2] rfl (ac (ab (kPa aa aa (ad (az ?_)))))))
  exact ax results81 aa (fun w hw=>⟨_,⟨0,{h with X:=none,S:=S2,T:=cX.moved (m6 X) h.T.last ord},s2,⟨S2,by rw[←ha2];exact hm2,.inr ⟨rfl,ord,hperm,rfl⟩⟩,rfl,rfl⟩,vE (h:={h with X:=none,S:=S2,T:=cX.moved (m6 X) h.T.last ord}) (bs:=bs) (bt:=bt) (x:=x) ho aa ((hw.dp [1,1]).pk [3,1])⟩)
theorem xb{k:Int}{v:Int}:∀ {l:List (Int×Int)} {p:Int×Int},p∈mset l k v→p.2=v∨p∈l
 | [],p,h=>by
   simp only[mset,List.mem_singleton] at h
   exact .inl (by rw[h])
 | q::l,p,h=>by
   unfold mset at h
   split at h
   ·rcases List.mem_cons.1 h with h | h
    ·exact .inl (by rw[h])
    ·exact .inr (List.mem_cons_of_mem _ h)
   ·rcases List.mem_cons.1 h with h | h
    ·exact .inr (by rw[h];exact List.mem_cons_self ..)
    ·exact(xb h).imp id (List.mem_cons_of_mem _)
theorem yo{to_:Int→Int}{P:Int→Prop}(hP:∀ p,P (to_ p)):∀ (ord:List (Int×Int)) (x:List (Int×Int)×List (Int×Int)),(∀ p∈x.1,P p.2)→(∀ p∈(ord.foldl (dC to_) x).1,P p.2)∧(ord.foldl (dC to_) x).1.length≤x.1.length+ord.length
 | [],x,h=>⟨h,by simp⟩
 | a::t,x,h=>by
   simp only[List.foldl_cons,List.length_cons]
   have hx:(∀ p∈(dC to_ x a).1,P p.2)∧(dC to_ x a).1.length≤x.1.length+1:=by
    unfold dC
    split
    ·refine⟨fun p hp=> ?_,qX ..⟩
     rcases xb hp with e | e
     ·rw[e];exact hP _
     ·exact h p e
    ·exact⟨h,by omega⟩
   have:=yo hP t _ hx.1
   exact⟨this.1,by omega⟩
theorem dl.moved{h:HpS}{s s':Dev}(hW:dl h s){to_:Int→Int}(hto:∀ p,0≤to_ p∧to_ p≤1000000){ord:List (Int×Int)}(hp:ord.Perm h.T.at_){S':bG}(hL:dZ S'.L)(hd:S'.L.d=h.bd)(hc:S'.L.c=h.c)(hu:U64 s')(hn:s'.n=s.n):dl {h with X:=none,o:=false,S:=S',T:=cX.moved to_ h.T.last ord} s':=by
 obtain⟨g1,g2⟩:=yo (to_:=to_) (P:=fun v=>0≤v∧v≤1000000) hto ord ([],[]) (fun _ h=>by cases h)
 exact⟨hW.c,⟨hL,by rw[hn];exact hW.k.n,hd,hc⟩,fun h=>(by cases h),hu,hW.t1,by
  show(ord.foldl (dC to_) ([],[])).1.length≤_
  have h1:=hp.length_eq;have h2:=hW.tl
  simp only[List.length_nil] at g2;omega,g1,fun X hX=>(by cases hX)⟩
theorem HpS.words_b{h:HpS}{s:Dev}(hW:dl h s):(∀ v∈h.words,0≤v∧v<18446744073709551616)∧h.words.length≤800000:=
 ⟨fun v hv=>by
  obtain⟨n,_,rfl⟩:=List.mem_map.1 hv
  have:=hW.pb n;omega,by have:=hW.tl;simp[HpS.words,cG];exact this⟩
abbrev HpS.ncol(h:HpS)(s:Dev):bE:=dR h.bd h.c (h.blk s) ((h.blk s).rts++h.words)
theorem dl.ncol{h:HpS}{s:Dev}(hW:dl h s):ev (h.ncol s):=
 nt hW.c (dM hW.c hW.u) (fQ hW.c) (gG hW.u) (fun v hv=>by
  rcases List.mem_append.1 hv with hv | hv
  ·exact gG hW.u v hv
  ·exact(HpS.words_b hW).1 v hv)
theorem Fa{h:HpS}{s s1:Dev}{X:bE}{a:Int}{h':HpS}{s':Dev}(hW:dl h s)(ho:h.o=false)(hX:ev X)(hu:U64 s1)(hn:s1.n=s.n)(e:h.finR X s1 a h' s'):dl h' s'∧h'.o=false∧h'.X=none∧h'.bd=h.bd∧h'.c=h.c:=by
 obtain⟨S',e1,hor⟩:=e
 obtain⟨k1,k2,k3,k4,k5,_⟩:=xu (rP hX) hW.k.w hu (by rw[hn];exact hW.k.n) e1
 rcases hor with ⟨_,rfl⟩ | ⟨_,ord,hp,rfl⟩
 ·exact⟨⟨hW.c,⟨k3,by rw[k2,hn];exact hW.k.n,k4.trans hW.k.d,k5.trans hW.k.c⟩,fun h2=>(by rw[show h.o=true from h2] at ho;cases ho),k1,hW.t1,hW.tl,hW.tp,fun X hX=>(by cases hX)⟩,ho,rfl,rfl,rfl⟩
 ·have h1:=hW.moved (fun p=>hX.vb p) hp k3 (k4.trans hW.k.d) (k5.trans hW.k.c) k1 (k2.trans hn)
  rw[←ho] at h1
  exact⟨h1,ho,rfl,rfl,rfl⟩
theorem Fc{h:HpS}{s:Dev}{a:Int}{h':HpS}{s':Dev}(hW:dl h s)(ho:h.o=false)(e:h.colR s a h' s'):dl h' s'∧h'.o=false∧h'.X=none∧h'.bd=h.bd∧h'.c=h.c:=by
 rcases e with ⟨h1,_⟩ | ⟨_,X,s1,e1,e2⟩
 ·rw[ho] at h1;cases h1
 ·obtain⟨g1,g2,_⟩:=om _ _ _ _ _ hW.ncol hW.u e1
  exact Fa hW ho g1 g2 (yd e1) e2
theorem nF(B:World)(Fr:List HP)(bh:Nat)(h:HpS)(s:Dev)(hW:dl h s)(hb:(s.block h.c).2=0):
 ∀ w,Holds B (cy bh h::aG h.bd s::Fr) w→Calls Tryz.prog 24 [ptr bh].toArray w (Ret B (fun rv H'=>∃ a h' s',h.colR s a h' s'∧rv=i64 a∧H'=cy bh h'::aG h.bd s'::Fr) (fun ch H'=>∃ s',h.colOff s s'∧ch=dN∧H'=aG h.bd s'::Fr)):=by
 refine au func24 aa ntmps24 aa (ek fun bs bt x=> ?_)
 have hbk:=dM (s:=s) hW.c hW.u
 have hbl:(h.blk s).rts.length≤16:=fQ (s:=s) hW.c
 obtain⟨hwb,hwl⟩:=HpS.words_b hW
 refine ac (ab (kPa aa aa (ad (ac (ac (ab (kPm aa aa (kPv (ak aa) aa (kPv (aj (m:=_) dt aa aa) aa (kPv (ae isAgg89 aa aa) aa (aE aa (aA call51 aa) (bU (q:=mt h.o) (fun Fr=>gv B Fr bs h.S h.o)) .free aa aa ?_)))))))))))
 refine ad ?_
 refine aW aa (fun h8=> ?_) (fun h8=> ?_)
 ·have ho:h.o=true:=by simpa using h8
  refine ac (ab (kPa aa aa (ad (az ?_))))
  exact ax results24 aa (fun w hw=>⟨_,⟨2,h,s,.inl ⟨ho,rfl,rfl,rfl⟩,rfl,rfl⟩,cz (bs:=bs) (bt:=bt) (x:=x) hw⟩)
 ·have ho:h.o=false:=by simpa using h8
  refine aJ [1] (aK (H':=eD bs h.S::_) (fun w hh=>by rw[ho] at hh;exact hh) (ay (ac (ab (kPm aa aa (aJ [1,3] (aQ aa (aA call52 aa) (fM B _ bh bs bt x h s hW.c hW.u) .free aa aa ?_)))))))
  rintro _ _ ⟨sv,hsv,rfl,rfl⟩
  refine cP fun qb cb hqb hqbi=> ?_
  subst hqb
  refine aC aa (aN zeroValue95 aa) .free aa aa ?_
  rintro _ _ ⟨b3,rfl,rfl⟩
  refine aD aa (aI (vs:=_) sizeOf95 aa aa aa (by first | rfl | exact gK (by assumption)) rfl) .free rfl ?_
  rintro _ _ rfl
  refine ad (ao [3,2,0] rfl (ac (aK (H':=row b3 [i64 (h.blk s).act,i64 (h.blk s).used,.slice qb (h.blk s).rts.length cb] 95::_) (fun w hh=>hh) (cM [0,1,2,3,4,5,6,7,8,9,11,12,14,10,13,15,16,17,18,19,20] [10,13,15,16,17,20] [0,1,2,3,4,5,6,7,8,9,11,12,14] [10,13,15,16,17] [cq bh bs bt x h,row b3 [i64 (h.blk s).act,i64 (h.blk s).used,.slice qb (h.blk s).rts.length cb] 95] Tryz.mixed (by kernel_rfl) ?_))))
  refine al aa aa aa (ap aa) .free aa (al aa aa aa (ap aa) .free aa (al aa aa aa (ak aa) .free aa (al aa aa aa (aj (m:=_) gO aa aa) .free aa (al aa aa aa (ae isAgg28 aa aa) .free aa (al aa aa aa (ap aa) .free aa (al aa aa aa (ak aa) .free aa (al aa aa aa (aj (m:=_) dW aa aa) .free aa (al aa aa aa (am isAgg40 sizeOf40 aa aa) .free aa ?_))))))))
  refine al aa aa aa (am isAgg95 sizeOf95 aa aa) .free aa ?_
  refine al aa aa aa (aj (m:=_) gM aa aa) .free aa (al aa aa aa (ae isAgg25 aa aa) .free aa (al aa aa aa (ap aa) .free aa (aU aa aa (aC aa (ut runUnderlying25 sizeOf26) .free aa aa ?_))))
  rintro _ _ ⟨b21,rfl,rfl⟩
  refine aK (H':=dy 0 (.slice (some ⟨b21,0,none⟩) 0 0,[])::_) (fun w hh=>iq (xs:=[]) aa aa hh) (ad (cN (aU aa aa (aC aa (dD (yv:= .slice qb (h.blk s).rts.length cb) (ys:=(h.blk s).rts) aa aa runUnderlying25 runUnderlying25 ⟨_,rfl⟩ sizeOf26 zeroValue26 aa (fun _=>rfl) iy aa aa (de (2 - 1) aa) (by simp;omega)) .free aa aa ?_))))
  rintro nv2 _ ⟨hnv2,rfl⟩
  refine ad (cN (aU aa aa (aJ [3,5] (aQ aa (aA call79 aa) (oD B _ bh bs bt x h s hW) .free aa aa ?_))))
  rintro wv _ ⟨hwv,rfl⟩
  refine cP fun qw cw hqw hqwi=> ?_
  subst hqw
  refine ad (cN (aU aa aa (aJ [3] (aC aa (dD (yv:= .slice qw h.words.length cw) (ys:=h.words) aa aa runUnderlying25 runUnderlying25 ⟨_,rfl⟩ sizeOf26 zeroValue26 aa (fun _=>rfl) iy aa aa (de (1 - 1) aa) (by simp;omega)) .free aa aa ?_))))
  rintro nv3 _ ⟨hnv3,rfl⟩
  refine cP fun qn cn hqn0 hqni=> ?_
  subst hqn0
  have hqn:qn=none→(h.blk s).rts++h.words=[]:=fun e=>by
   cases hl:(h.blk s).rts++h.words with
   | nil=>rfl
   | cons a t=>
     obtain⟨b,o,h⟩:=hqni 0 (by show 0<((h.blk s).rts++h.words).length;rw[hl];exact Nat.succ_pos _)
     rw[e] at h;cases h
  refine ad (cN (aU aa aa (aJ [5] (aQ aa (aA call78 aa) (pT B _ h.bd h.c hW.c (h.blk s) hbk (.slice qb (h.blk s).rts.length cb) aa qn cn ((h.blk s).rts++h.words) (by simp;omega) hqn (de 1 aa)) .free aa aa ?_))))
  rintro _ _ ⟨x2,rfl,rfl⟩
  refine ad (cN (aT aa aa aa (ak aa) .free aa (aT aa aa aa (aj (m:=_) iu aa aa) .free aa (aU aa aa (aJ [3] (aD aa (aR sizeOf91 aa aa aa aa) .free aa ?_))))))
  rintro _ _ rfl
  refine aK (H':=cq bh bs bt x2 {h with X:=some (h.ncol s)}::_) (fun w hh=>hh) (ad (c9 aa (cJ (ao [2,0] rfl (ac (ab (kPm aa aa (kPv (ak aa) aa (kPv (aj (m:=_) iu aa aa) aa (kPv (ae isAgg91 aa aa) aa (aJ [1,5] ?_)))))))))))
  refine aY aa (aA call80 aa) (yX B _ x2 (h.ncol s) hW.ncol s hW.u) .free aa aa ?_ ?_
  rotate_left
  ·rintro _ _ ⟨s9,hm9,rfl,rfl⟩
   exact bz fun w hh=>⟨_,⟨s9,⟨ho,.inl hm9⟩,rfl,rfl⟩,(show Holds B (aG h.bd s9::_) w from hh).dp [1,1,1,1,1,1,1]⟩
  rintro _ _ ⟨X,s1,hm1,rfl,rfl⟩
  obtain⟨hX1,hu1,hXb,hXbd,hXc,_⟩:=om _ _ _ _ _ hW.ncol hW.u hm1
  have hn1:=yd hm1
  refine aK (H':=fw x2 X::aG h.bd s1::_) (fun w hh=>hh) (ad (ac (aJ [2] (aK (H':=cq bh bs bt x2 {h with X:=some X}::_) (fun w hh=>hh) (ab (kPm aa aa (aJ [0,6,4,0,0] ?_)))))))
  refine aY aa (aA call81 aa) (mQ B _ bh bs bt x2 {h with X:=some X} s1 X aa ho hX1 (by rw[hXb];exact oT hW.c hb) hu1 ⟨hW.k.w,by rw[hn1];exact hW.k.n,hW.k.d,hW.k.c⟩ hW.tp) .free aa aa ?_ ?_
  rotate_left
  ·rintro _ _ ⟨s9,hm9,rfl,rfl⟩
   exact bz fun w hh=>⟨_,⟨s9,⟨ho,.inr ⟨X,s1,hm1,hm9⟩⟩,rfl,rfl⟩,(show Holds B (aG h.bd s9::_) w from hh).dp [1,1,1,1]⟩
  rintro _ _ ⟨a2,h2,s2,hf2,rfl,rfl⟩
  refine kPa aa aa (ad (ao [2] rfl (az ?_)))
  exact ax results24 aa (fun w hw=>⟨_,⟨a2,h2,s2,.inr ⟨ho,X,s1,hm1,hf2⟩,rfl,rfl⟩,(hw.dp [2,2,2,2])⟩)
def gi:Nat→bE→Dev→Out (Bool×bE)
 | 0,S,s=> .ok (false,S) s
 | f+1,S,s=>(S.step s).then fun r s'=>if r.1=true then .ok (true,r.2) s' else gi f r.2 s'
def HpS.x0(h:HpS)(s:Dev):bE:=h.X.getD (h.ncol s)
def HpS.stepR(h:HpS)(s:Dev)(n:Int)(d:Bool)(a:Int)(h':HpS)(s':Dev):Prop:=(h.o=true∧d=false∧a=2∧h'=h∧s'=s)∨(h.o=false∧∃ X s1,gi n.toNat (h.x0 s) s= .ok (d,X) s1∧((d=false∧a=0∧h'={h with X:=some X}∧s'=s1)∨(d=true∧HpS.finR {h with X:=some X} X s1 a h' s')))
def HpS.stepOff(h:HpS)(s:Dev)(n:Int)(s':Dev):Prop:=h.o=false∧(gi n.toNat (h.x0 s) s= .off s'∨∃ X s1,gi n.toNat (h.x0 s) s= .ok (true,X) s1∧fZ h.c X.block h.S s1= .off s')
theorem lH(f:Nat)(S:bE)(s:Dev):gi (f+1) S s=(S.step s).then fun r s'=>if r.1=true then .ok (true,r.2) s' else gi f r.2 s':=rfl
theorem kd{f:Nat}{S:bE}{s s':Dev}{r:Bool×bE}(e:S.step s= .ok r s')(hr:r.1=true):gi (f+1) S s= .ok (true,r.2) s':=by rw[lH,e];show(if r.1=true then _ else _)=_;rw[if_pos hr]
theorem oe{f:Nat}{S:bE}{s s':Dev}{r:Bool×bE}(e:S.step s= .ok r s')(hr:¬ r.1=true):gi (f+1) S s=gi f r.2 s':=by rw[lH,e];show(if r.1=true then _ else _)=_;rw[if_neg hr]
theorem qp{f:Nat}{S:bE}{s s':Dev}(e:S.step s= .off s'):gi (f+1) S s= .off s':=by rw[lH,e];rfl
theorem xj(B:World)(Fr:List HP)(bh:Nat)(h:HpS)(s:Dev)(hW:dl h s)(X0:bE)(hx:h.X=some X0)(n:Int)(hn:n≤9000000000):
 ∀ w,Holds B (cy bh h::aG h.bd s::Fr) w→Calls Tryz.prog 30 [ptr bh,i64 n].toArray w (Ret B (fun rv H'=>∃ d a h' s',h.stepR s n d a h' s'∧rv= .tuple #[.bool d,i64 a]∧H'=cy bh h'::aG h.bd s'::Fr) (fun ch H'=>∃ s',h.stepOff s n s'∧ch=dN∧H'=aG h.bd s'::Fr)):=by
 refine au func30 aa ntmps30 aa ?_
 obtain⟨w1,w2,w3,w4⟩:=hW.x X0 hx
 have hx0:h.x0 s=X0:=by unfold HpS.x0;rw[hx];rfl
 refine ek fun bs bt x=>(ac (ab (kPa aa aa (kPa aa aa (ad (ac (ac (ab (kPm aa aa (kPv (ak aa) aa (kPv (aj (m:=_) dt aa aa) aa ?_)))))))))))
 refine kPv (ae isAgg89 aa aa) aa (aE aa (aA call51 aa) (bU (q:=mt h.o) (fun Fr=>gv B Fr bs h.S h.o)) .free aa aa ?_)
 refine ad ?_
 refine aW aa (fun h11=> ?_) (fun h11=> ?_)
 ·have ho:h.o=true:=by simpa using h11
  refine ac (ab (kPa aa aa (kPa aa aa (ad (az ?_)))))
  exact bg results30 aa aa (fun w hw=>⟨_,⟨false,2,h,s,.inl ⟨ho,rfl,rfl,rfl,rfl⟩,rfl,rfl⟩,cz (bs:=bs) (bt:=bt) (x:=x) hw⟩)
 ·have ho:h.o=false:=by simpa using h11
  refine aJ [1] (aK (H':=eD bs h.S::_) (fun w hh=>by rw[ho] at hh;exact hh) (ay (ac (ac (ab (kPm aa aa (kPv (ak aa) aa (kPv (aj (m:=_) iu aa aa) aa ?_))))))))
  have hx15:some (Dt x h.X)=some (ptr x):=by rw[hx];rfl
  refine kPv (ae (v:=ptr x) isAgg91 aa hx15) aa (kPv (dq runUnderlying91 aa aa aa) aa (ad (ao [16,5,4,0,1] rfl (cf aa (rfl) (ay (ac (ac (aJ [1,2] (aK (H':=cq bh bs bt x {h with X:=some X0}::fw x X0::_) (fun w hh=>by have e1:cq bh bs bt x h=cq bh bs bt x {h with X:=some X0}:=(by show row bh [ptr h.bd,i64 h.c.log,i64 h.c.roots,i64 h.c.space,ptr bs,ptr bt,Dt x h.X] _=_;rw[hx]);rw[e1,hx] at hh;exact hh) (ab (kPm aa aa ?_)))))))))))
  refine kPm aa aa (ad (aO (cR (ι:=Nat×bE×Dev) [39,5,4,0] (fun (k,X,s1)=>((k:Int)≤max n 0)∧(ev X)∧(U64 s1)∧(s1.n=s.n)∧(X.bd=h.bd)∧(0<X.b.rts.length)∧(gi (n.toNat - k) X s1=gi n.toNat (X0) s)) (fun (k,X,s1)=>[(40,i64 k)]) (fun (k,X,s1)=>cq bh bs bt x {h with X:=some X}::eD bs h.S::fc bt h.T::fw x X::aG h.bd s1::Fr) (fun (k,X,s1)=>n.toNat - k) (0,X0,s) (⟨by show(0:Int)≤max n 0;omega,w1,hW.u,rfl,w2,w4,rfl⟩) (fun a w st=>st.to ⟨rfl,trivial⟩ (fun hh=>(hh.pk [0,1,1]))) ?_)))
  rintro⟨k,X,s1⟩ ⟨hk,hX,hu,hn1,hXbd,hXb,hst⟩
  try simp only at hk hX hu hn1 hXbd hXb hst ⊢
  refine cg (σ':=[(40,i64 k),(39,_),(5,_),(4,_),(0,_)]) (aF aa) (ac (ab (kPv (an aa aa aa) aa (ad (ac ?_)))))
  refine aW aa (fun h41=> ?_) (fun h41=> ?_)
  ·have hkn:(k:Int)<n:=by simpa using h41
   rw[show n.toNat - k=(n.toNat - k - 1)+1 by omega] at hst
   refine ay (ac (aO (ac (ab (kPm aa aa (kPv (ak aa) aa (kPv (aj (m:=_) iu aa aa) aa (kPv (ae isAgg91 aa aa) aa (aJ [3,3] ?_)))))))))
   refine aY aa (aA call99 aa) ((by have h9:=fun Fr=>l3 B Fr x X hX s1 hu;simp only[hXbd] at h9;exact h9 _)) .free aa aa ?_ ?_
   rotate_left
   ·rintro _ _ ⟨s9,hm9,rfl,rfl⟩
    exact bz fun w hh=>⟨_,⟨s9,⟨ho,.inl (by rw[hx0, ←hst];exact qp hm9)⟩,rfl,rfl⟩,(show Holds B (aG h.bd s9::_) w from hh).dp [1,1,1]⟩
   rintro _ _ ⟨r,s2,hm,rfl,rfl⟩
   obtain⟨hX2,hu2,hb2,hbd2,hc2,_,_,_⟩:=lI hX hu hm
   have hn2:=(tS hm).trans hn1
   refine ad ?_
   refine aW aa (fun h46=> ?_) (fun h46=> ?_)
   ·have hr:r.1=true:=by simpa using h46
    refine ac (ab (kPm aa aa (aJ [2,2,2,0,0] ?_)))
    refine aY aa (aA call81 aa) (mQ B _ bh bs bt x {h with X:=some r.2} s2 r.2 aa ho hX2 (by rw[hb2];exact hXb) hu2 ⟨hW.k.w,by rw[hn2];exact hW.k.n,hW.k.d,hW.k.c⟩ hW.tp) .free aa aa ?_ ?_
    rotate_left
    ·rintro _ _ ⟨s9,hm9,rfl,rfl⟩
     exact bz fun w hh=>⟨_,⟨s9,⟨ho,.inr ⟨r.2,s2,by rw[hx0, ←hst];exact kd hm hr,hm9⟩⟩,rfl,rfl⟩,(show Holds B (aG h.bd s9::_) w from hh)⟩
    rintro _ _ ⟨a2,h2,s3,hf2,rfl,rfl⟩
    refine kPa aa aa (kPa aa aa (ad (ao [5,4,40,39,0] rfl (az ?_))))
    exact bg results30 aa aa (fun w hw=>⟨_,⟨true,a2,h2,s3,.inr ⟨ho,r.2,s2,by rw[hx0, ←hst];exact kd hm hr,.inr ⟨rfl,hf2⟩⟩,rfl,rfl⟩,hw⟩)
   ·have hr:¬ r.1=true:=by simpa using h46
    refine ay (ab (kPv (aS aa aa) aa (kPm aa aa (ad (ao [40,39,5,4,0] rfl ?_)))))
    exact fun a w st_=>⟨(k+1,r.2,s2),⟨by simp only;omega,hX2,hu2,hn2,hbd2.trans hXbd,(by rw[hb2];exact hXb),(by rw[←hst,show n.toNat - k=(n.toNat - (k+1))+1 by omega];exact(oe hm (by simpa using h46)).symm)⟩,by simp only;omega,st_.to (aF aa) (fun hh=>(hh.pk [2,2,2]))⟩
  ·have hkn:¬ (k:Int)<n:=by simpa using h41
   rw[show n.toNat - k=0 by omega] at hst
   refine bT (ac (ab (kPa aa aa (kPa aa aa (ad (az ?_))))))
   exact bg results30 aa aa (fun w hw=>⟨_,⟨false,0,{h with X:=some X},s1,.inr ⟨ho,X,s1,by rw[hx0, ←hst];rfl,.inl ⟨rfl,rfl,rfl,rfl⟩⟩,rfl,rfl⟩,po (h:={h with X:=some X}) (bs:=bs) (bt:=bt) (x:=x) ho hw⟩)
theorem xk(B:World)(Fr:List HP)(bh:Nat)(h:HpS)(s:Dev)(hW:dl h s)(hx:h.X=none)(hb:(s.block h.c).2=0)(n:Int)(hn:n≤9000000000):
 ∀ w,Holds B (cy bh h::aG h.bd s::Fr) w→Calls Tryz.prog 30 [ptr bh,i64 n].toArray w (Ret B (fun rv H'=>∃ d a h' s',h.stepR s n d a h' s'∧rv= .tuple #[.bool d,i64 a]∧H'=cy bh h'::aG h.bd s'::Fr) (fun ch H'=>∃ s',h.stepOff s n s'∧ch=dN∧H'=aG h.bd s'::Fr)):=by
 refine au func30 aa ntmps30 aa ?_
 have hx0:h.x0 s=h.ncol s:=by unfold HpS.x0;rw[hx];rfl
 refine ek fun bs bt x=> ?_
 have hbk:=dM (s:=s) hW.c hW.u
 have hbl:(h.blk s).rts.length≤16:=fQ (s:=s) hW.c
 obtain⟨hwb,hwl⟩:=HpS.words_b hW
 refine ac (ab (kPa aa aa (kPa aa aa (ad (ac (ac (ab (kPm aa aa (kPv (ak aa) aa (kPv (aj (m:=_) dt aa aa) aa (kPv (ae isAgg89 aa aa) aa ?_)))))))))))
 refine aE aa (aA call51 aa) (bU (q:=mt h.o) (fun Fr=>gv B Fr bs h.S h.o)) .free aa aa ?_
 refine ad ?_
 refine aW aa (fun h11=> ?_) (fun h11=> ?_)
 ·have ho:h.o=true:=by simpa using h11
  refine ac (ab (kPa aa aa (kPa aa aa (ad (az ?_)))))
  exact bg results30 aa aa (fun w hw=>⟨_,⟨false,2,h,s,.inl ⟨ho,rfl,rfl,rfl,rfl⟩,rfl,rfl⟩,cz (bs:=bs) (bt:=bt) (x:=x) hw⟩)
 ·have ho:h.o=false:=by simpa using h11
  refine aJ [1] (aK (H':=eD bs h.S::_) (fun w hh=>by rw[ho] at hh;exact hh) (ay (ac (ac (ab (kPm aa aa (kPv (ak aa) aa (kPv (aj (m:=_) iu aa aa) aa ?_))))))))
  have hx15:some (Dt x h.X)=some (.pointer none):=by rw[hx];rfl
  refine kPv (ae (v:= .pointer none) isAgg91 aa hx15) aa (kPv (dq runUnderlying91 aa aa aa) aa (ad (ao [16,5,4,0,1] rfl (pt aa (rfl) (ac (ab (kPm aa aa (aJ [1,3] (aQ aa (aA call52 aa) (fM B _ bh bs bt x h s hW.c hW.u) .free aa aa ?_)))))))))
  rintro _ _ ⟨sv,hsv,rfl,rfl⟩
  refine cP fun qb cb hqb hqbi=> ?_
  subst hqb
  refine aC aa (aN zeroValue95 aa) .free aa aa ?_
  rintro _ _ ⟨b6,rfl,rfl⟩
  refine aD aa (aI (vs:=_) sizeOf95 aa aa aa (by first | rfl | exact gK (by assumption)) rfl) .free rfl ?_
  rintro _ _ rfl
  refine ad (aK (H':=row b6 [i64 (h.blk s).act,i64 (h.blk s).used,.slice qb (h.blk s).rts.length cb] 95::_) (fun w hh=>hh) (cM [0,1,2,3,4,5,6,7,8,9,11,12,14,10,13,15,16,17,18,19,20] [10,13,15,16,17,20] [0,1,2,3,4,5,6,7,8,9,11,12,14] [10,13,15,16,17] [cq bh bs bt x h,row b6 [i64 (h.blk s).act,i64 (h.blk s).used,.slice qb (h.blk s).rts.length cb] 95] Tryz.mixed (by kernel_rfl) ?_))
  refine al aa aa aa (ap aa) .free aa (al aa aa aa (ap aa) .free aa (al aa aa aa (ak aa) .free aa (al aa aa aa (aj (m:=_) gO aa aa) .free aa (al aa aa aa (ae isAgg28 aa aa) .free aa (al aa aa aa (ap aa) .free aa (al aa aa aa (ak aa) .free aa (al aa aa aa (aj (m:=_) dW aa aa) .free aa (al aa aa aa (am isAgg40 sizeOf40 aa aa) .free aa ?_))))))))
  refine al aa aa aa (am isAgg95 sizeOf95 aa aa) .free aa ?_
  refine al aa aa aa (aj (m:=_) gM aa aa) .free aa (al aa aa aa (ae isAgg25 aa aa) .free aa (al aa aa aa (ap aa) .free aa (aU aa aa (aC aa (ut runUnderlying25 sizeOf26) .free aa aa ?_))))
  rintro _ _ ⟨b29,rfl,rfl⟩
  refine aK (H':=dy 0 (.slice (some ⟨b29,0,none⟩) 0 0,[])::_) (fun w hh=>iq (xs:=[]) aa aa hh) (ad (cN (aU aa aa (aC aa (dD (yv:= .slice qb (h.blk s).rts.length cb) (ys:=(h.blk s).rts) aa aa runUnderlying25 runUnderlying25 ⟨_,rfl⟩ sizeOf26 zeroValue26 aa (fun _=>rfl) iy aa aa (de (2 - 1) aa) (by simp;omega)) .free aa aa ?_))))
  rintro nv2 _ ⟨hnv2,rfl⟩
  refine ad (cN (aU aa aa (aJ [3,5] (aQ aa (aA call79 aa) (oD B _ bh bs bt x h s hW) .free aa aa ?_))))
  rintro wv _ ⟨hwv,rfl⟩
  refine cP fun qw cw hqw hqwi=> ?_
  subst hqw
  refine ad (cN (aU aa aa (aJ [3] (aC aa (dD (yv:= .slice qw h.words.length cw) (ys:=h.words) aa aa runUnderlying25 runUnderlying25 ⟨_,rfl⟩ sizeOf26 zeroValue26 aa (fun _=>rfl) iy aa aa (de (1 - 1) aa) (by simp;omega)) .free aa aa ?_))))
  rintro nv3 _ ⟨hnv3,rfl⟩
  refine cP fun qn cn hqn0 hqni=> ?_
  subst hqn0
  have hqn:qn=none→(h.blk s).rts++h.words=[]:=fun e=>by
   cases hl:(h.blk s).rts++h.words with
   | nil=>rfl
   | cons a t=>
     obtain⟨b,o,h⟩:=hqni 0 (by show 0<((h.blk s).rts++h.words).length;rw[hl];exact Nat.succ_pos _)
     rw[e] at h;cases h
  refine ad (cN (aU aa aa (aJ [5] (aQ aa (aA call78 aa) (pT B _ h.bd h.c hW.c (h.blk s) hbk (.slice qb (h.blk s).rts.length cb) aa qn cn ((h.blk s).rts++h.words) (by simp;omega) hqn (de 1 aa)) .free aa aa ?_))))
  rintro _ _ ⟨x2,rfl,rfl⟩
  refine ad (cN (aT aa aa aa (ak aa) .free aa (aT aa aa aa (aj (m:=_) iu aa aa) .free aa (aU aa aa (aJ [3] (aD aa (aR sizeOf91 aa aa aa aa) .free aa ?_))))))
  rintro _ _ rfl
  refine aK (H':=cq bh bs bt x2 {h with X:=some (h.ncol s)}::_) (fun w hh=>hh) (ad (c9 aa (cJ (ao [5,4,0,1] rfl (ac (ac (ab (kPm aa aa (kPm aa aa (ad (aO ?_)))))))))))
  refine cR (ι:=Nat×bE×Dev) [39,5,4,0] (fun (k,X,s1)=>((k:Int)≤max n 0)∧(ev X)∧(U64 s1)∧(s1.n=s.n)∧(X.bd=h.bd)∧(0<X.b.rts.length)∧(gi (n.toNat - k) X s1=gi n.toNat (h.ncol s) s)) (fun (k,X,s1)=>[(40,i64 k)]) (fun (k,X,s1)=>cq bh bs bt x2 {h with X:=some X}::eD bs h.S::fc bt h.T::fw x2 X::aG h.bd s1::Fr) (fun (k,X,s1)=>n.toNat - k) (0,h.ncol s,s) (⟨by show(0:Int)≤max n 0;omega,hW.ncol,hW.u,rfl,rfl,oT hW.c hb,rfl⟩) (fun a w st=>st.to ⟨rfl,trivial⟩ (fun hh=>((hh.dp [2,2,3,5]).pk [0,3,1]))) ?_
  rintro⟨k,X,s1⟩ ⟨hk,hX,hu,hn1,hXbd,hXb,hst⟩
  try simp only at hk hX hu hn1 hXbd hXb hst ⊢
  refine cg (σ':=[(40,i64 k),(39,_),(5,_),(4,_),(0,_)]) (aF aa) (ac (ab (kPv (an aa aa aa) aa (ad (ac ?_)))))
  refine aW aa (fun h41=> ?_) (fun h41=> ?_)
  ·have hkn:(k:Int)<n:=by simpa using h41
   rw[show n.toNat - k=(n.toNat - k - 1)+1 by omega] at hst
   refine ay (ac (aO (ac (ab (kPm aa aa (kPv (ak aa) aa (kPv (aj (m:=_) iu aa aa) aa (kPv (ae isAgg91 aa aa) aa (aJ [3,3] ?_)))))))))
   refine aY aa (aA call99 aa) ((by have h9:=fun Fr=>l3 B Fr x2 X hX s1 hu;simp only[hXbd] at h9;exact h9 _)) .free aa aa ?_ ?_
   rotate_left
   ·rintro _ _ ⟨s9,hm9,rfl,rfl⟩
    exact bz fun w hh=>⟨_,⟨s9,⟨ho,.inl (by rw[hx0, ←hst];exact qp hm9)⟩,rfl,rfl⟩,(show Holds B (aG h.bd s9::_) w from hh).dp [1,1,1]⟩
   rintro _ _ ⟨r,s2,hm,rfl,rfl⟩
   obtain⟨hX2,hu2,hb2,hbd2,hc2,_,_,_⟩:=lI hX hu hm
   have hn2:=(tS hm).trans hn1
   refine ad ?_
   refine aW aa (fun h46=> ?_) (fun h46=> ?_)
   ·have hr:r.1=true:=by simpa using h46
    refine ac (ab (kPm aa aa (aJ [2,2,2,0,0] ?_)))
    refine aY aa (aA call81 aa) (mQ B _ bh bs bt x2 {h with X:=some r.2} s2 r.2 aa ho hX2 (by rw[hb2];exact hXb) hu2 ⟨hW.k.w,by rw[hn2];exact hW.k.n,hW.k.d,hW.k.c⟩ hW.tp) .free aa aa ?_ ?_
    rotate_left
    ·rintro _ _ ⟨s9,hm9,rfl,rfl⟩
     exact bz fun w hh=>⟨_,⟨s9,⟨ho,.inr ⟨r.2,s2,by rw[hx0, ←hst];exact kd hm hr,hm9⟩⟩,rfl,rfl⟩,(show Holds B (aG h.bd s9::_) w from hh)⟩
    rintro _ _ ⟨a2,h2,s3,hf2,rfl,rfl⟩
    refine kPa aa aa (kPa aa aa (ad (ao [5,4,40,39,0] rfl (az ?_))))
    exact bg results30 aa aa (fun w hw=>⟨_,⟨true,a2,h2,s3,.inr ⟨ho,r.2,s2,by rw[hx0, ←hst];exact kd hm hr,.inr ⟨rfl,hf2⟩⟩,rfl,rfl⟩,hw⟩)
   ·have hr:¬ r.1=true:=by simpa using h46
    refine ay (ab (kPv (aS aa aa) aa (kPm aa aa (ad (ao [40,39,5,4,0] rfl ?_)))))
    exact fun a w st_=>⟨(k+1,r.2,s2),⟨by simp only;omega,hX2,hu2,hn2,hbd2.trans hXbd,(by rw[hb2];exact hXb),(by rw[←hst,show n.toNat - k=(n.toNat - (k+1))+1 by omega];exact(oe hm (by simpa using h46)).symm)⟩,by simp only;omega,st_.to (aF aa) (fun hh=>(hh.pk [2,2,2]))⟩
  ·have hkn:¬ (k:Int)<n:=by simpa using h41
   rw[show n.toNat - k=0 by omega] at hst
   refine bT (ac (ab (kPa aa aa (kPa aa aa (ad (az ?_))))))
   exact bg results30 aa aa (fun w hw=>⟨_,⟨false,0,{h with X:=some X},s1,.inr ⟨ho,X,s1,by rw[hx0, ←hst];rfl,.inl ⟨rfl,rfl,rfl,rfl⟩⟩,rfl,rfl⟩,po (h:={h with X:=some X}) (bs:=bs) (bt:=bt) (x:=x2) ho hw⟩)
theorem zK(B:World)(Fr:List HP)(bh:Nat)(h:HpS)(s:Dev)(hW:dl h s)(hb:(s.block h.c).2=0)(n:Int)(hn:n≤9000000000):
 ∀ w,Holds B (cy bh h::aG h.bd s::Fr) w→Calls Tryz.prog 30 [ptr bh,i64 n].toArray w (Ret B (fun rv H'=>∃ d a h' s',h.stepR s n d a h' s'∧rv= .tuple #[.bool d,i64 a]∧H'=cy bh h'::aG h.bd s'::Fr) (fun ch H'=>∃ s',h.stepOff s n s'∧ch=dN∧H'=aG h.bd s'::Fr)):=by
 cases hx:h.X with
 | none=>exact xk B Fr bh h s hW hx hb n hn
 | some X=>exact xj B Fr bh h s hW X hx n hn
def HpS.opened(h:HpS)(s:Dev):HpS:={h with o:=true,S:=h.S.fresh ((h.blk s).place h.c (h.blk s).used) ((h.blk s).place h.c h.c.space)}
def HpS.begR(h:HpS)(s:Dev)(room a:Int)(h':HpS)(s':Dev):Prop:=
 (h.o=true∧a=2∧h'=h∧s'=s)∨(h.o=false∧room<0∧a=1∧h'=h∧s'=s)∨
 (h.o=false∧0≤room∧∃ a1 h1 s1,((h.c.space - (h.blk s).used<room∧HpS.colR {h with X:=none} s a1 h1 s1)∨(¬ h.c.space - (h.blk s).used<room∧a1=0∧h1={h with X:=none}∧s1=s))∧
  ((a1≠0∧a=a1∧h'=h1∧s'=s1)∨(a1=0∧h.c.space - (h1.blk s1).used<room∧a=4∧h'=h1∧s'=s1)∨(a1=0∧¬ h.c.space - (h1.blk s1).used<room∧a=0∧h'=h1.opened s1∧s'=s1)))
theorem Bv(B:World)(Fr:List HP)(c4 c1 bh bs bt x:Nat)(h:HpS)(hc:bC h.c)(b:Blk)(sv:Value)(hb:fg h.c b)(hsv:aV sv=true)(p:Int)(hp:0≤p∧p≤1000000):
 ∀ w,Holds B (row c4 [i64 b.act,i64 b.used,sv] 95::row c1 [ptr bh] 29::cq bh bs bt x h::Fr) w→Calls Tryz.prog 146 [i64 p,ptr c4,ptr c1].toArray w (bB B (row c4 [i64 b.act,i64 b.used,sv] 95::row c1 [ptr bh] 29::cq bh bs bt x h::Fr) (i64 (mp h.c b p))):=by
 refine au func146 aa ntmps146 aa (ac (ab (kPa aa aa (ad (ac (ac (cK Tryz.mixed (by kernel_rfl) (by kernel_rfl) ?_)))))))
 refine kQv (am isAgg95 sizeOf95 aa aa) aa ?_
 refine kQv (ae isAgg29 aa aa) aa (kQv (ak aa) aa (kQv (aj (m:=_) dW aa aa) aa (kQv (am isAgg40 sizeOf40 aa aa) aa ?_)))
 refine kQm aa aa (kQv (dh runUnderlying3 runUnderlying26 aa (fW (by omega))) aa (bH aa (aA call135 aa) (rq _ _ h.c hc b sv hb hsv p (by omega)) .free aa ?_))
 refine kQv (bF aa) aa (bR (ao [13,4,0] rfl ?_))
 refine aW aa (fun h13=> ?_) (fun h13=> ?_)
 ·have hh:mp h.c b p=0:=by unfold mp;rw[if_neg (by simpa using h13)]
  refine ac (ab (kPa aa aa (ad (az ?_))))
  exact ax results146 aa (fun w hw=>⟨by rw[hh],hw⟩)
 ·have hh:mp h.c b p=p:=by unfold mp;rw[if_pos (by simpa using h13)]
  refine ay (ac (ab (kPm aa aa (kPa aa aa (ad (az ?_))))))
  exact ax results146 aa (fun w hw=>⟨by rw[hh],hw⟩)
theorem CJ(B:World)(c4 c1 bh bs bt x:Nat)(h:HpS)(hc:bC h.c)(b:Blk)(sv:Value)(hb:fg h.c b)(hsv:aV sv=true):Ch B 146 [] [ptr c4,ptr c1] Unit (fun _=>[row c4 [i64 b.act,i64 b.used,sv] 95,row c1 [ptr bh] 29,cq bh bs bt x h]) (fun p=>0≤p∧p≤1000000) (mp h.c b) (fun _ e=>e) where
 enter:=call146
 says:=fun Fr p e hp w hw=>(Bv B Fr c4 c1 bh bs bt x h hc b sv hb hsv p hp w hw).mono fun en w' h=>by
  obtain⟨rfl,h⟩:=h
  exact⟨_,⟨rfl,rfl⟩,h⟩
theorem xm(B:World)(Fr:List HP)(bh:Nat)(h:HpS)(s:Dev)(hW:dl h s)(ho:h.o=true):
 ∀ w,Holds B (cy bh h::aG h.bd s::Fr) w→Calls Tryz.prog 86 [ptr bh].toArray w (Ret B (fun rv H'=>∃ a h' s',h.abortR s a h' s'∧rv=i64 a∧H'=cy bh h'::aG h.bd s'::Fr) (fun ch H'=>∃ s',h.S.abort s= .off s'∧ch=dN∧H'=aG h.bd s'::Fr)):=by
 refine au func86 aa ntmps86 aa (ek fun bs bt x=>(aJ [1] (aK (H':=iK bs h.S::_) (fun w hh=>by rw[ho] at hh;exact hh) (aJ [0,3] (aK (H':=iK bs h.S::aG h.S.L.d s::_) (fun w hh=>by rw[hW.k.d];exact hh) (ac (ab (aC aa (dA aa aa) .free aa aa ?_))))))))
 rintro _ _ ⟨b1,rfl,rfl⟩
 refine kPa aa aa (ad (ac (ac (ab (kPv (ae isAgg29 aa aa) aa (kPv (ak aa) aa (kPv (aj (m:=_) dt aa aa) aa (kPv (ae isAgg89 aa aa) aa (aJ [1,1] ?_)))))))))
 refine aY aa (aA call145 aa) (mJ B _ bs h.S s (hW.sw ho).1) .free aa aa ?_ ?_
 rotate_left
 ·rintro _ _ ⟨s9,hm9,rfl,rfl⟩
  exact bz fun w hh=>⟨_,⟨s9,hm9,rfl,rfl⟩,by rw[hW.k.d] at hh;exact hh.dp [1,1,1,1]⟩
 rintro _ _ ⟨S2,s2,hm2,rfl,rfl⟩
 obtain⟨hk1,hk2,hk3,hk4,hk5,_⟩:=uJ hW.k.w hm2
 have hu2:=hk1 hW.u
 have hbk:=dM (s:=s2) hW.c hu2
 refine aK (H':=eD bs S2::aG h.bd s2::_) (fun w hh=>by rw[hW.k.d] at hh;exact hh) (kPa aa aa (ad (ac (ab (kPm aa aa (kPv (an aa aa aa) aa (ad (ao [11,3,2,1] rfl (cf aa (rfl) (ay (ac ?_)))))))))))
 refine ab (kPv (ae isAgg29 aa aa) aa (aJ [3,1] (aQ aa (aA call52 aa) (fM B _ bh bs bt x h s2 hW.c hu2) .free aa aa ?_)))
 rintro _ _ ⟨sv,hsv,rfl,rfl⟩
 refine cP fun qb cb hqb hqbi=> ?_
 subst hqb
 refine aC aa (aN zeroValue95 aa) .free aa aa ?_
 rintro _ _ ⟨b4,rfl,rfl⟩
 refine aD aa (aI (vs:=_) sizeOf95 aa aa aa (by first | rfl | exact gK (by assumption)) rfl) .free rfl ?_
 rintro _ _ rfl
 refine ad (ac (aK (H':=row b4 [i64 (h.blk s2).act,i64 (h.blk s2).used,.slice qb (h.blk s2).rts.length cb] 95::_) (fun w hh=>hh) (ab (kPv (ae isAgg29 aa aa) aa (kPv (ak aa) aa (kPv (aj (m:=_) gN aa aa) aa (kPv (ae isAgg90 aa aa) aa (kPv (dm aa aa) aa (aJ [6,0,4,1] (aQ aa (aA call142 aa) ((fun w hh=>tn B _ bt h.T _ [] [ptr b4,ptr b1] Unit _ _ _ _ (CJ B b4 b1 bh bs bt x h hW.c (h.blk s2) (.slice qb (h.blk s2).rts.length cb) hbk aa) hW.tp () w hh)) .free aa aa ?_))))))))))
 rintro _ _ ⟨ord,hperm,rfl⟩
 refine aK (H':=fc bt (cX.moved (mp h.c (h.blk s2)) h.T.last ord)::row b4 [i64 (h.blk s2).act,i64 (h.blk s2).used,.slice qb (h.blk s2).rts.length cb] 95::row b1 [ptr bh] 29::cq bh bs bt x h::dy 0 (.slice qb (h.blk s2).rts.length cb,(h.blk s2).rts)::aG h.bd s2::eD bs S2::xV x h.X::Fr) (fun w hh=>hh) (ad (ao [2] rfl (ac (ab (kPa aa aa (ad (az ?_)))))))
 exact ax results86 aa (fun w hw=>⟨_,⟨0,{h with o:=false,S:=S2,T:=cX.moved (mp h.c (h.blk s2)) h.T.last ord},s2,.inr ⟨ho,rfl,S2,hm2,ord,hperm,rfl⟩,rfl,rfl⟩,po (h:={h with o:=false,S:=S2,T:=cX.moved (mp h.c (h.blk s2)) h.T.last ord}) (bs:=bs) (bt:=bt) (x:=x) aa ((hw.dp [1,1,2]).pk [1,2,0,1])⟩)
theorem xn(B:World)(Fr:List HP)(bh:Nat)(h:HpS)(s:Dev)(hW:dl h s)(ho:h.o=false):
 ∀ w,Holds B (cy bh h::aG h.bd s::Fr) w→Calls Tryz.prog 86 [ptr bh].toArray w (Ret B (fun rv H'=>∃ a h' s',h.abortR s a h' s'∧rv=i64 a∧H'=cy bh h'::aG h.bd s'::Fr) (fun ch H'=>∃ s',h.S.abort s= .off s'∧ch=dN∧H'=aG h.bd s'::Fr)):=by
 refine au func86 aa ntmps86 aa (ek fun bs bt x=>(aJ [1] (aK (H':=eD bs h.S::_) (fun w hh=>by rw[ho] at hh;exact hh) (ac (ab (aC aa (dA aa aa) .free aa aa ?_))))))
 rintro _ _ ⟨b1,rfl,rfl⟩
 refine kPa aa aa (ad (ac (ac (ab (kPv (ae isAgg29 aa aa) aa (kPv (ak aa) aa (kPv (aj (m:=_) dt aa aa) aa (kPv (ae isAgg89 aa aa) aa (aE aa (aA call145 aa) (bU (q:=eD) (fun Fr=>wN B Fr bs h.S)) .free aa aa ?_)))))))))
 refine kPa aa aa (ad (ac (ab (kPm aa aa (kPv (an aa aa aa) aa (ad (ao [11,3,2,1] rfl (pt aa (rfl) (ac (ab (kPm aa aa ?_)))))))))))
 refine kPa aa aa (ad (az ?_))
 exact ax results86 aa (fun w hw=>⟨_,⟨2,h,s,.inl ⟨ho,rfl,rfl,rfl⟩,rfl,rfl⟩,po (bs:=bs) (bt:=bt) (x:=x) ho ((hw.dp [0]).pk [1])⟩)
theorem zQ(B:World)(Fr:List HP)(bh:Nat)(h:HpS)(s:Dev)(hW:dl h s):∀ w,Holds B (cy bh h::aG h.bd s::Fr) w→Calls Tryz.prog 86 [ptr bh].toArray w (Ret B (fun rv H'=>∃ a h' s',h.abortR s a h' s'∧rv=i64 a∧H'=cy bh h'::aG h.bd s'::Fr) (fun ch H'=>∃ s',h.S.abort s= .off s'∧ch=dN∧H'=aG h.bd s'::Fr)):=by
 cases ho:h.o
 ·exact xn B Fr bh h s hW ho
 ·exact xm B Fr bh h s hW ho
theorem vO(B:World)(H:List HP)(c:Cfg)(hc:bC c)(b:Blk)(sv:Value)(hb:fg c b)(hsv:aV sv=true):
 ∀ w,Holds B H w→Calls Tryz.prog 54 [eO c,mW b sv].toArray w (bB B H (.agg #[i64 (b.place c b.used),i64 (b.place c c.space)])):=by
 refine au func54 aa ntmps54 aa ?_
 have h1:=hb.used
 have h2:=hc.s1
 have h3:=hc.s2
 refine ac (ab (aC aa (bx aa) .free aa aa ?_))
 rintro _ _ ⟨b2,rfl,rfl⟩
 refine aC aa (bx aa) .free aa aa ?_
 rintro _ _ ⟨b3,rfl,rfl⟩
 refine aC aa (aN zeroValue99 aa) .free aa aa ?_
 rintro _ _ ⟨b4,rfl,rfl⟩
 refine ad (ac (cD 11 Tryz.mixed (by kernel_rfl) (by kernel_rfl) ?_))
 refine kQv (am isAgg95 sizeOf95 aa aa) aa ?_
 refine kQv (am isAgg40 sizeOf40 aa aa) aa ?_
 refine kQv (aj (m:=_) fj aa aa) aa (kQv (ae isAgg3 aa aa) aa (bH aa (aA call112 aa) (je _ _ c hc b sv hb hsv _ (by omega)) .free aa ?_))
 refine kQv (am isAgg95 sizeOf95 aa aa) aa ?_
 refine kQv (am isAgg40 sizeOf40 aa aa) aa ?_
 refine kQv (aj (m:=_) dX aa aa) aa (kQv (ae isAgg3 aa aa) aa (bH aa (aA call112 aa) (je _ _ c hc b sv hb hsv _ (by omega)) .free aa ?_))
 refine kQv (aZ aa (xE _ _ aa aa)) aa (bR (aD aa (aI (vs:=_) sizeOf99 aa aa aa aa aa) .free aa ?_))
 rintro _ _ rfl
 refine ad (ao [4] rfl (az ?_))
 exact sQ results54 (.cellA aa isAgg99 sizeOf99 aa aa) (fun w hw=>⟨rfl,(hw.dp [0,0,0])⟩)
theorem oH(B:World)(Fr:List HP)(bh:Nat)(h:HpS)(s:Dev)(hW:dl h s)(hb:(s.block h.c).2=0)(room:Int):
 ∀ w,Holds B (cy bh h::aG h.bd s::Fr) w→Calls Tryz.prog 11 [ptr bh,i64 room].toArray w (Ret B (fun rv H'=>∃ a h' s',h.begR s room a h' s'∧rv=i64 a∧H'=cy bh h'::aG h.bd s'::Fr) (fun ch H'=>∃ s',(fun s'=>h.o=false∧h.c.space - (h.blk s).used<room∧HpS.colOff {h with X:=none} s s') s'∧ch=dN∧H'=aG h.bd s'::Fr)):=by
 refine au func11 aa ntmps11 aa (ek fun bs bt x=> ?_)
 have hbk:=dM (s:=s) hW.c hW.u
 have hbu:0≤(h.blk s).used∧(h.blk s).used≤h.c.space:=hbk.used
 have hs2:=hW.c.s2
 have hs1':=hW.c.s1
 have hbu1:0≤(HpS.blk {h with X:=none} s).used∧(HpS.blk {h with X:=none} s).used≤h.c.space:=hbk.used
 have hW1:dl {h with X:=none} s:=⟨hW.c,hW.k,hW.sw,hW.u,hW.t1,hW.tl,hW.tp,fun X h=>(by cases h)⟩
 refine ac (ab (kPa aa aa (ad (ac (aO (ac (ab (kPm aa aa (kPv (ak aa) aa (kPv (aj (m:=_) dt aa aa) aa (kPv (ae isAgg89 aa aa) aa ?_)))))))))))
 refine aE aa (aA call51 aa) (bU (q:=mt h.o) (fun Fr=>gv B Fr bs h.S h.o)) .free aa aa ?_
 refine kPa aa aa (ad ?_)
 refine aW aa (fun h7=> ?_) (fun h7=> ?_)
 ·have ho:h.o=true:=by simpa using h7
  refine ac (ab (kPa aa aa (ad (az ?_))))
  exact ax results11 aa (fun w hw=>⟨_,⟨2,h,s,.inl ⟨ho,rfl,rfl,rfl⟩,rfl,rfl⟩,cz (bs:=bs) (bt:=bt) (x:=x) hw⟩)
 ·have ho:h.o=false:=by simpa using h7
  refine aJ [1] (aK (H':=eD bs h.S::_) (fun w hh=>by rw[ho] at hh;exact hh) (ac (ab (kPm aa aa (kPv (an aa aa aa) aa (kPa aa aa (ad (ao [13,4,0,1] rfl ?_))))))))
  refine aW aa (fun h13=> ?_) (fun h13=> ?_)
  ·have hr0:room<0:=by simpa using h13
   refine ac (ab (kPa aa aa (ad (az ?_))))
   exact ax results11 aa (fun w hw=>⟨_,⟨1,h,s,.inr (.inl ⟨ho,hr0,rfl,rfl,rfl⟩),rfl,rfl⟩,po (bs:=bs) (bt:=bt) (x:=x) ho (hw.pk [1])⟩)
  ·have hr0:0≤room:=by simpa using h13
   refine ay (ac (ab (kPm aa aa (kPv (ak aa) aa (kPv (aj (m:=_) iu aa aa) aa ?_)))))
   refine aD aa (aR sizeOf91 aa aa (by first | rfl | assumption) rfl) .free rfl ?_
   rintro _ _ rfl
   refine ad (ac (ac (aJ [1] (aK (H':=cq bh bs bt x {h with X:=none}::_) (fun w hh=>hh) (cM [0,1,2,3,4,5,6,7,8,9,10] [7] [0,1,2,3,4,5] [7] [cq bh bs bt x {h with X:=none}] Tryz.mixed (by kernel_rfl) ?_)))))
   refine al aa aa aa (ap aa) .free aa (al aa aa aa (ap aa) .free aa (al aa aa aa (ak aa) .free aa (al aa aa aa (aj (m:=_) dW aa aa) .free aa (al aa aa aa (aj (m:=_) dX aa aa) .free aa (al aa aa aa (ae isAgg3 aa aa) .free aa (aT aa aa aa (ap aa) .free aa (aU aa aa (aJ [0,3] (aQ aa (aA call52 aa) (fM B _ bh bs bt x {h with X:=none} s hW.c hW.u) .free aa aa ?_)))))))))
   rintro _ _ ⟨sv,hsv,rfl,rfl⟩
   refine cP fun qb cb hqb hqbi=> ?_
   subst hqb
   refine ad (cN (aT aa aa aa (io runUnderlying95 (t:=3) (off:=1) aa isAgg3 aa aa) .free aa (aT aa aa aa (rH (c:=h.c.space - (h.blk s).used) aa aa (show IntKind.i64.wrap (h.c.space - (h.blk s).used)=_ from gh (by omega))) .free aa (aT aa aa aa (an aa aa aa) .free aa (cJ (ao [29,4,0,1] rfl ?_))))))
   refine aW aa (fun h29=> ?_) (fun h29=> ?_)
   ·have hroom:(h.c.space - (h.blk s).used<room):=by simpa using h29
    refine aK (H':=cy bh {h with X:=none}::aG h.bd s::Fr) (fun w hh=>vE (h:={h with X:=none}) (bs:=bs) (bt:=bt) (x:=x) ho aa ((hh.dp [0,4]).pk [0,1,1])) (ac (ab (kPm aa aa ?_)))
    refine aY aa (aA call24 aa) (nF B _ bh {h with X:=none} s hW1 hb) .free aa aa ?_ ?_
    rotate_left
    ·rintro _ _ ⟨s9,hm9,rfl,rfl⟩
     exact bz fun w hh=>⟨_,⟨s9,⟨ho,hroom,hm9⟩,rfl,rfl⟩,(show Holds B (aG h.bd s9::_) w from hh)⟩
    rintro _ _ ⟨a1,h1,s1,hr1,rfl,rfl⟩
    obtain⟨hW2,ho2,hx2,hbd2,hc2⟩:=Fc hW1 ho hr1
    have hbd3:h1.bd=h.bd:=hbd2
    have hc3:h1.c=h.c:=hc2
    refine kPa aa aa (ad (ac (ab (kPm aa aa (kPv (an aa aa aa) aa (ad ?_))))))
    refine aW aa (fun h33=> ?_) (fun h33=> ?_)
    ·have ha1:a1≠0:=by simpa using h33
     refine ac (ab (kPm aa aa (kPa aa aa (ad (ao [4,0,1] rfl (az ?_))))))
     exact ax results11 aa (fun w hw=>⟨_,⟨a1,h1,s1,.inr (.inr ⟨ho,hr0,a1,h1,s1,.inl ⟨hroom,hr1⟩,.inl ⟨ha1,rfl,rfl,rfl⟩⟩),rfl,rfl⟩,hw⟩)
    ·have ha1:a1=0:=by simpa using h33
     refine ay (ac (ek fun bs2 bt2 x2=>(aJ [0,3] (aK (H':=cq bh bs2 bt2 x2 h1::aG h1.bd s1::_) (fun w hh=>by rw[hbd3];exact hh) ?_))))
     have hbk2:=dM (s:=s1) hW2.c hW2.u
     have hbu2:0≤(h1.blk s1).used∧(h1.blk s1).used≤h1.c.space:=hbk2.used
     have hs3:=hW2.c.s2
     refine ab (kPm aa aa (aQ aa (aA call52 aa) (fM B _ bh bs2 bt2 x2 h1 s1 hW2.c hW2.u) .free aa aa ?_))
     rintro _ _ ⟨sv,hsv,rfl,rfl⟩
     refine cP fun qb cb hqb hqbi=> ?_
     subst hqb
     refine aC aa (aN zeroValue95 aa) .free aa aa ?_
     rintro _ _ ⟨b6,rfl,rfl⟩
     refine aD aa (aI (vs:=_) sizeOf95 aa aa aa (by first | rfl | exact gK (by assumption)) rfl) .free rfl ?_
     rintro _ _ rfl
     refine ad (ao [6,4,0,1] rfl (ac (ac (aK (H':=row b6 [i64 (h1.blk s1).act,i64 (h1.blk s1).used,.slice qb (h1.blk s1).rts.length cb] 95::_) (fun w hh=>hh) (cK Tryz.mixed (by kernel_rfl) (by kernel_rfl) ?_)))))
     refine kQm aa aa (kQm aa aa (kQv (ak aa) aa (kQv (aj (m:=_) dW aa aa) aa (kQv (aj (m:=_) dX aa aa) aa (kQv (ae isAgg3 aa aa) aa (kQv (aj (m:=_) fj aa aa) aa (kQv (ae isAgg3 aa aa) aa (kQv (cU aa aa) aa (kQv (an aa aa aa) aa (bR (ao [46,6,4,0] rfl ?_)))))))))))
     refine aW aa (fun h46=> ?_) (fun h46=> ?_)
     ·have hr2:h.c.space - (h1.blk s1).used<room:=by rw[←hc3];simpa using h46
      refine ac (ab (kPa aa aa (ad (az ?_))))
      exact ax results11 aa (fun w hw=>⟨_,⟨4,h1,s1,.inr (.inr ⟨ho,hr0,a1,h1,s1,.inl ⟨hroom,hr1⟩,.inr (.inl ⟨ha1,hr2,rfl,rfl,rfl⟩)⟩),rfl,rfl⟩,by
   have h9:=cz (h:=h1) (bs:=bs2) (bt:=bt2) (x:=x2) ((hw.dp [0,0]).pk [0,1,1,1])
   rw[hbd3] at h9;exact h9⟩)
     ·have hr2:¬ h.c.space - (h1.blk s1).used<room:=by rw[←hc3];simpa using h46
      refine aJ [4] (aK (H':=eD bs2 h1.S::_) (fun w hh=>by rw[ho2] at hh;exact hh) (ay (ac (cD 10 Tryz.mixed (by kernel_rfl) (by kernel_rfl) ?_))))
      refine kQm aa aa (kQv (ak aa) aa (kQv (aj (m:=_) dt aa aa) aa (kQv (ae isAgg89 aa aa) aa (kQm aa aa (kQv (ak aa) aa (kQv (aj (m:=_) dW aa aa) aa (kQv (am isAgg40 sizeOf40 aa aa) aa ?_)))))))
      refine kQv (am isAgg95 sizeOf95 aa aa) aa ?_
      refine bH aa (aA call54 aa) (vO _ _ h1.c hW2.c (h1.blk s1) (.slice qb (h1.blk s1).rts.length cb) hbk2 aa) .free aa ?_
      refine bR (cL aa (aA call53 aa) (kM B _ bs2 h1.S _ _) .free aa aa ?_)
      refine kPa aa aa (ad (ao [4] rfl (az ?_)))
      exact ax results11 aa (fun w hw=>⟨_,⟨0,h1.opened s1,s1,.inr (.inr ⟨ho,hr0,a1,h1,s1,.inl ⟨hroom,hr1⟩,.inr (.inr ⟨ha1,hr2,rfl,rfl,rfl⟩)⟩),rfl,rfl⟩,by
   have h9:=lx rfl (h:=h1.opened s1) (bs:=bs2) (bt:=bt2) (x:=x2) ((hw.dp [1,1]).pk [1,0,1,1])
   rw[hbd3] at h9;exact h9⟩)
   ·have hroom:¬ (h.c.space - (h.blk s).used<room):=by simpa using h29
    obtain⟨h1,hh1⟩:∃ h1:HpS,h1={h with X:=none}:=⟨_,rfl⟩
    obtain⟨s1,hs1⟩:∃ s1,s1=s:=⟨_,rfl⟩
    obtain⟨a1,ha1⟩:∃ a1:Int,a1=0:=⟨_,rfl⟩
    have hW2:dl h1 s1:=by rw[hh1,hs1];exact hW1
    have ho2:h1.o=false:=by rw[hh1];exact ho
    have hbd3:h1.bd=h.bd:=by rw[hh1]
    have hc3:h1.c=h.c:=by rw[hh1]
    refine aK (H':=cy bh h1::aG h.bd s1::Fr) (fun w hh=>by rw[hh1,hs1];exact vE (h:={h with X:=none}) (bs:=bs) (bt:=bt) (x:=x) ho aa ((hh.dp [0,4]).pk [0,1,1])) (ay (ac (ek fun bs2 bt2 x2=>(aJ [0,3] (aK (H':=cq bh bs2 bt2 x2 h1::aG h1.bd s1::_) (fun w hh=>by rw[hbd3];exact hh) ?_)))))
    have hbk2:=dM (s:=s1) hW2.c hW2.u
    have hbu2:0≤(h1.blk s1).used∧(h1.blk s1).used≤h1.c.space:=hbk2.used
    have hs3:=hW2.c.s2
    refine ab (kPm aa aa (aQ aa (aA call52 aa) (fM B _ bh bs2 bt2 x2 h1 s1 hW2.c hW2.u) .free aa aa ?_))
    rintro _ _ ⟨sv,hsv,rfl,rfl⟩
    refine cP fun qb cb hqb hqbi=> ?_
    subst hqb
    refine aC aa (aN zeroValue95 aa) .free aa aa ?_
    rintro _ _ ⟨b6,rfl,rfl⟩
    refine aD aa (aI (vs:=_) sizeOf95 aa aa aa (by first | rfl | exact gK (by assumption)) rfl) .free rfl ?_
    rintro _ _ rfl
    refine ad (ac (ac (aK (H':=row b6 [i64 (h1.blk s1).act,i64 (h1.blk s1).used,.slice qb (h1.blk s1).rts.length cb] 95::_) (fun w hh=>hh) (cK Tryz.mixed (by kernel_rfl) (by kernel_rfl) ?_))))
    refine kQm aa aa (kQm aa aa (kQv (ak aa) aa (kQv (aj (m:=_) dW aa aa) aa (kQv (aj (m:=_) dX aa aa) aa (kQv (ae isAgg3 aa aa) aa (kQv (aj (m:=_) fj aa aa) aa (kQv (ae isAgg3 aa aa) aa (kQv (cU aa aa) aa (kQv (an aa aa aa) aa (bR (ao [46,6,4,0] rfl ?_)))))))))))
    refine aW aa (fun h46=> ?_) (fun h46=> ?_)
    ·have hr2:h.c.space - (h1.blk s1).used<room:=by rw[←hc3];simpa using h46
     refine ac (ab (kPa aa aa (ad (az ?_))))
     exact ax results11 aa (fun w hw=>⟨_,⟨4,h1,s1,.inr (.inr ⟨ho,hr0,a1,h1,s1,.inr ⟨hroom,ha1,hh1,hs1⟩,.inr (.inl ⟨ha1,hr2,rfl,rfl,rfl⟩)⟩),rfl,rfl⟩,by
   have h9:=cz (h:=h1) (bs:=bs2) (bt:=bt2) (x:=x2) ((hw.dp [0,0]).pk [0,1,1,1])
   rw[hbd3] at h9;exact h9⟩)
    ·have hr2:¬ h.c.space - (h1.blk s1).used<room:=by rw[←hc3];simpa using h46
     refine aJ [4] (aK (H':=eD bs2 h1.S::_) (fun w hh=>by rw[ho2] at hh;exact hh) (ay (ac (cD 10 Tryz.mixed (by kernel_rfl) (by kernel_rfl) ?_))))
     refine kQm aa aa (kQv (ak aa) aa (kQv (aj (m:=_) dt aa aa) aa (kQv (ae isAgg89 aa aa) aa (kQm aa aa (kQv (ak aa) aa (kQv (aj (m:=_) dW aa aa) aa (kQv (am isAgg40 sizeOf40 aa aa) aa ?_)))))))
     refine kQv (am isAgg95 sizeOf95 aa aa) aa ?_
     refine bH aa (aA call54 aa) (vO _ _ h1.c hW2.c (h1.blk s1) (.slice qb (h1.blk s1).rts.length cb) hbk2 aa) .free aa ?_
     refine bR (cL aa (aA call53 aa) (kM B _ bs2 h1.S _ _) .free aa aa ?_)
     refine kPa aa aa (ad (ao [4] rfl (az ?_)))
     exact ax results11 aa (fun w hw=>⟨_,⟨0,h1.opened s1,s1,.inr (.inr ⟨ho,hr0,a1,h1,s1,.inr ⟨hroom,ha1,hh1,hs1⟩,.inr (.inr ⟨ha1,hr2,rfl,rfl,rfl⟩)⟩),rfl,rfl⟩,by
   have h9:=lx rfl (h:=h1.opened s1) (bs:=bs2) (bt:=bt2) (x:=x2) ((hw.dp [1,1]).pk [1,0,1,1])
   rw[hbd3] at h9;exact h9⟩)
end Go.Proofs.YtlcibdhmgclfjaaGreat
