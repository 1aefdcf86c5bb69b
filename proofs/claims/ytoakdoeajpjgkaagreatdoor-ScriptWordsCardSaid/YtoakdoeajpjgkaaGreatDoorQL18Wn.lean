/- Part of a law's texts. Conditions: none. -/
import Derived.Test.YtoakdoeajpjgkaaGreatDoorQL18Wm
import Derived.LaidEql
open Go.Proofs.Tryz
set_option linter.all false
namespace Go.Proofs.YtoakdoeajpjgkaaGreatDoor
open Go
section
variable {B:World} {Fr:List HP} {bh bs bt x:Nat} {h:HpS} {w:World}
theorem qC(ho:h.o=true)(hh:Holds B (cE bh bs bt x h::iS bs h.S::gc bt h.T::x9 x h.X::Fr) w):Holds B (dB bh h::Fr) w:=dZ (bs:=bs) (bt:=bt) (x:=x) (by rw[ho];exact hh)
theorem wj(ho:h.o=false)(hh:Holds B (cE bh bs bt x h::fy bs h.S::gc bt h.T::x9 x h.X::Fr) w):Holds B (dB bh h::Fr) w:=dZ (bs:=bs) (bt:=bt) (x:=x) (by rw[ho];exact hh)
end
theorem kH(B:World)(Fr:List HP)(bs:Nat)(S:bC)(o:Bool):∀ w,Holds B (ny o bs S::Fr) w→Calls Tryz.prog 80 [ptr bs].toArray w (a8 B (ny o bs S::Fr) (.bool o)):=by
 cases o
 ·exact mx B Fr bs S
 ·exact w6 B Fr bs S
theorem HpS.obj_w{h:HpS}{s:Dev}(hW:dY h s){n:Int}(e:(h.obj s n).2=0):lF (h.obj s n).1:=by
 unfold HpS.obj at e ⊢
 split at e
 ·rename_i hm
  rw[if_pos hm]
  exact hG hW.c (dA hW.c hW.u) e
 ·cases e
def HpS.commit(h:HpS)(s:Dev):Out (Int×HpS):=if h.o=true then (h.S.commit s).then fun S s=> .ok (0,{h with o:=false,S:=S}) s else .ok (2,h) s
def HpS.alloc(h:HpS)(s:Dev)(w r:Int):Out ((Int×Int)×HpS):=if h.o=true then (cN gh h.c w r s h.S).then fun x s=>if x.1.2≠0 then .ok ((0,x.1.2),{h with S:=x.2}) s else .ok (((h.T.take x.1.1).1,0),{h with S:=x.2,T:=(h.T.take x.1.1).2}) s else .ok ((0,2),h) s
def HpS.write(h:HpS)(s:Dev)(n i v:Int):Out (Int×HpS):=if h.o=true then (if (h.obj s n).2≠0 then .ok ((h.obj s n).2,h) s else (iM gh (h.obj s n).1 i false v s h.S).then fun x s=> .ok (x.1,{h with S:=x.2}) s) else .ok (2,h) s
theorem uR(B:World)(Fr:List HP)(bh:Nat)(h:HpS)(s:Dev)(hW:dY h s):
 ∀ w,Holds B (dB bh h::aB h.bd s::Fr) w→Calls Tryz.prog 79 [ptr bh].toArray w (a8 B (dB bh h::aB h.bd s::Fr) (i64 (s.check h.c))):=by
 refine ap func79 aa ntmps79 aa (iP fun bs bt x=>(ac (ab (kPa aa aa (ad (ac (cM Tryz.mixed (by kernel_rfl) (by kernel_rfl) ?_)))))))
 refine kQm aa aa (kQv (aK aa) aa (kQv (aE (m:=_) iu aa aa) aa (kQv (ai isAgg90 aa aa) aa (kQm aa aa (kQv (aK aa) aa (kQv (aE (m:=_) dV aa aa) aa (kQv (ah isAgg134 sizeOf134 aa aa) aa ?_)))))))
 refine bF aa (ar call130 aa) (bH (q:=aB) (fun Fr=>kS _ Fr h.bd s h.c hW.c hW.u)) .free aa ?_
 refine kQa aa aa (ce (am [2] rfl (ay ?_)))
 exact au results79 aa (fun w hw=>⟨rfl,dZ (bs:=bs) (bt:=bt) (x:=x) hw⟩)
theorem dY.ok{h:HpS}{s:Dev}(hW:dY h s)(ho:h.o=true):U64 s∧s.n≤1000000∧lE h.S∧h.S.L.d=h.bd∧h.S.L.c=h.c:=⟨hW.u,hW.k.n,(hW.sw ho).1,hW.k.d,hW.k.c⟩
theorem xy(B:World)(Fr:List HP)(bh:Nat)(h:HpS)(s:Dev)(hW:dY h s)(n i v:Int)(hv:0≤v∧v<18446744073709551616):
 ∀ w,Holds B (dB bh h::aB h.bd s::Fr) w→Calls Tryz.prog 48 [ptr bh,i64 n,i64 i,w64 v].toArray w (Ret B (fun rv H'=>∃ a h' s',h.write s n i v= .ok (a,h') s'∧rv=i64 a∧H'=dB bh h'::aB h.bd s'::Fr) (fun ch H'=>∃ s',h.write s n i v= .off s'∧ch=dP∧H'=aB h.bd s'::Fr)):=by
 refine ap func48 aa ntmps48 aa (iP fun bs bt x=>(ac (ab (kPa aa aa (ad (ac (ac (ab (kPf dI isAgg146 aa aa aa aa (aw aa (ar call80 aa) (bH (q:=ny h.o) (fun Fr=>kH B Fr bs h.S h.o)) .free aa aa ?_))))))))))
 refine kPv (bj aa) aa (ad ?_)
 refine aZ aa (fun h16=> ?_) (fun h16=> ?_)
 ·have ho:h.o=false:=by simpa using h16
  have hof:¬ h.o=true:=by rw[ho];decide
  refine ac (ab (kPa aa aa (ad (ay ?_))))
  exact au results48 aa (fun w hw=>⟨_,⟨2,h,s,by unfold HpS.write;rw[if_neg hof],rfl,rfl⟩,dZ (bs:=bs) (bt:=bt) (x:=x) hw⟩)
 ·have ho:h.o=true:=by simpa using h16
  refine aS [1] (aN (H':=iS bs h.S::_) (fun w hh=>by rw[ho] at hh;exact hh) (aq (ac (ab (kPm aa aa (kPm aa aa (aS [1,1,2] (aw aa (ar call87 aa) (uT B _ bh bs bt x h s hW n) .free aa aa ?_))))))))
  refine kPm aa aa (kPv (aA aa aa) aa (kPv (aA aa aa) aa (kPb (aD zeroValue160 aa) aa fun b9=>(kPs (az (vs:=_) sizeOf160 aa aa aa aa aa) aa (kPa aa aa (ad (am [10,9,8,0,2,3] rfl (ac (ac (ab (kPm aa aa ?_)))))))))))
  refine kPv (al aa aa aa) aa (ad ?_)
  refine aZ aa (fun h24=> ?_) (fun h24=> ?_)
  ·have hk:(h.obj s n).2≠0:=by simpa using h24
   refine ac (ab (kPm aa aa (kPa aa aa (ad (ay ?_)))))
   exact au results48 aa (fun w hw=>⟨_,⟨(h.obj s n).2,h,s,by unfold HpS.write;rw[if_pos ho,if_pos hk],rfl,rfl⟩,qC (bs:=bs) (bt:=bt) (x:=x) ho ((hw.dp [0]).pk [0,2,0,1])⟩)
  ·have hk:¬ (h.obj s n).2≠0:=by simpa using h24
   have how:=HpS.obj_w hW (n:=n) (by omega)
   refine aq (ac (aN (H':=row b9 [i64 (h.obj s n).1.1,i64 (h.obj s n).1.2.1,i64 (h.obj s n).1.2.2] 160::_) (fun w hh=>hh) (cW 8 Tryz.mixed (by kernel_rfl) (by kernel_rfl) ?_)))
   refine kQv (ah isAgg160 sizeOf160 aa aa) aa ?_
   refine kQm aa aa (kQm aa aa (kQm aa aa (kQv (aK aa) aa (kQv (aE (m:=_) dI aa aa) aa (kQv (ai isAgg146 aa aa) aa (kQv (dt aa aa) aa (ce (aS [3,3] ?_))))))))
   refine aU aa (ar call88 aa) (qe B _ _ _ h.bd bs bC (fun b S=>iS b S) _ _ (uq B h.bd bs h.c) (h.obj s n).1 how i v hv s h.S (hW.ok ho)) .free aa aa ?_ ?_
   rotate_left
   ·rintro _ _ ⟨s9,hm9,rfl,rfl⟩
    exact ba fun w hh=>⟨_,⟨s9,by unfold HpS.write;rw[if_pos ho,if_neg hk,show iM gh (h.obj s n).1 i false v s h.S= .off s9 from hm9];rfl,rfl,rfl⟩,hh.dp [1,1,1,1]⟩
   rintro _ _ ⟨a2,S2,s2,hm2,rfl,hok2,rfl⟩
   refine kPa aa aa (ad (am [8] rfl (ay ?_)))
   exact au results48 aa (fun w hw=>⟨_,⟨a2,{h with S:=S2},s2,by unfold HpS.write;rw[if_pos ho,if_neg hk,show iM gh (h.obj s n).1 i false v s h.S= .ok (a2,S2) s2 from hm2];rfl,rfl,rfl⟩,qC (h:={h with S:=S2,T:=h.T}) (bs:=bs) (bt:=bt) (x:=x) ho ((hw.dp [2]).pk [2,1,1,1])⟩)
theorem uS(B:World)(Fr:List HP)(bh:Nat)(h:HpS)(s:Dev)(hW:dY h s)(wd rf:Int):
 ∀ w,Holds B (dB bh h::aB h.bd s::Fr) w→Calls Tryz.prog 47 [ptr bh,.agg #[i64 wd,i64 rf]].toArray w (Ret B (fun rv H'=>∃ a h' s',h.alloc s wd rf= .ok (a,h') s'∧rv= .tuple #[i64 a.1,i64 a.2]∧H'=dB bh h'::aB h.bd s'::Fr) (fun ch H'=>∃ s',h.alloc s wd rf= .off s'∧ch=dP∧H'=aB h.bd s'::Fr)):=by
 refine ap func47 aa ntmps47 aa (iP fun bs bt x=>(ac (ab (kPb (aY aa) aa fun b3=>(kPa aa aa (kPa aa aa (ad (ac (ac (ab (kPf dI isAgg146 aa aa aa aa ?_)))))))))))
 refine aw aa (ar call80 aa) (bH (q:=ny h.o) (fun Fr=>kH B Fr bs h.S h.o)) .free aa aa ?_
 refine kPv (bj aa) aa (ad ?_)
 refine aZ aa (fun h13=> ?_) (fun h13=> ?_)
 ·have ho:h.o=false:=by simpa using h13
  have hof:¬ h.o=true:=by rw[ho];decide
  refine ac (ab (kPa aa aa (kPa aa aa (ad (am [5,4,3,0] rfl (ay ?_))))))
  exact bS results47 aa aa (fun w hw=>⟨_,⟨(0,2),h,s,by unfold HpS.alloc;rw[if_neg hof],rfl,rfl⟩,dZ (bs:=bs) (bt:=bt) (x:=x) (hw.dp [0])⟩)
 ·have ho:h.o=true:=by simpa using h13
  refine aS [2] (aN (H':=iS bs h.S::_) (fun w hh=>by rw[ho] at hh;exact hh) (aq (ac (ww [14] Tryz.mixed (by kernel_rfl) (by kernel_rfl) ?_))))
  refine BJ (kQm aa aa (kQv (aK aa) aa (kQv (aE (m:=_) iu aa aa) aa (kQv (ai isAgg90 aa aa) aa (kQm aa aa (kQv (aK aa) aa (kQv (aE (m:=_) dV aa aa) aa (kQv (ah isAgg134 sizeOf134 aa aa) aa ?_))))))))
  refine kQv (ah isAgg102 sizeOf102 aa aa) aa ?_
  refine kQm aa aa (kQv (aK aa) aa (kQv (aE (m:=_) dI aa aa) aa (kQv (ai isAgg146 aa aa) aa (kQv (dt aa aa) aa (ce (aS [5,0] ?_))))))
  refine aU aa (ar call85 aa) (ug B _ _ _ h.bd bs bC (fun b S=>iS b S) _ _ (uq B h.bd bs h.c) h.c hW.c wd rf s h.S (hW.ok ho)) .free aa aa ?_ ?_
  rotate_left
  ·rintro _ _ ⟨s9,hm9,rfl,rfl⟩
   exact ba fun w hh=>⟨_,⟨s9,by unfold HpS.alloc;rw[if_pos ho,show cN gh h.c wd rf s h.S= .off s9 from hm9];rfl,rfl,rfl⟩,hh.dp [1,1,1,1]⟩
  rintro _ _ ⟨⟨at2,a2⟩,S2,s2,hm2,rfl,hok2,rfl⟩
  refine ad (BK (kQm aa aa (kQv (aA aa aa) aa (kQv (aA aa aa) aa (kQa aa aa (kQa aa aa (ce (am [7,6,5,4,0] rfl (ac (ac (ab ?_)))))))))))
  refine kPm aa aa (kPv (al aa aa aa) aa (ad ?_))
  refine aZ aa (fun h33=> ?_) (fun h33=> ?_)
  ·have ha2:a2≠0:=by simpa using h33
   refine ac (ab (kPm aa aa (kPa aa aa (kPa aa aa (ad (ay ?_))))))
   exact bS results47 aa aa (fun w hw=>⟨_,⟨(0,a2),{h with S:=S2},s2,by unfold HpS.alloc;rw[if_pos ho,show cN gh h.c wd rf s h.S= .ok ((at2,a2),S2) s2 from hm2];simp only[aR];rw[if_pos ha2],rfl,rfl⟩,qC (h:={h with S:=S2,T:=h.T}) (bs:=bs) (bt:=bt) (x:=x) ho ((hw.dp [2]).pk [2,1,1,1])⟩)
  ·have ha2:¬ a2≠0:=by simpa using h33
   refine aq (ac (ab (kPf jf isAgg130 aa aa aa aa (kPm aa aa (aS [4] (dO aa (ar call72 aa) (kg B _ bt h.T at2 hW.t1) .free aa aa ?_))))))
   refine kPa aa aa (kPa aa aa (ad (am [5,4] rfl (ay ?_))))
   exact bS results47 aa aa (fun w hw=>⟨_,⟨((h.T.take at2).1,0),{h with S:=S2,T:=(h.T.take at2).2},s2,by unfold HpS.alloc;rw[if_pos ho,show cN gh h.c wd rf s h.S= .ok ((at2,a2),S2) s2 from hm2];simp only[aR];rw[if_neg ha2],rfl,rfl⟩,qC (h:={h with S:=S2,T:=(h.T.take at2).2}) (bs:=bs) (bt:=bt) (x:=x) ho ((hw.dp [3]).pk [3,2,0,1])⟩)
def p3(X:bE)(p:Int):Int:=(bJ X.went p).getD 0
def HpS.finR(h:HpS)(X:bE)(s:Dev)(a:Int)(h':HpS)(s':Dev):Prop:=∃ S',i8 h.c X.block h.S s= .ok (a,S') s'∧
 ((a≠0∧h'={h with X:=none,S:=S'})∨(a=0∧∃ ord:List (Int×Int),ord.Perm h.T.at_∧h'={h with X:=none,S:=S',T:=gG.moved (p3 X) h.T.last ord}))
def HpS.colR(h:HpS)(s:Dev)(a:Int)(h':HpS)(s':Dev):Prop:=(h.o=true∧a=2∧h'=h∧s'=s)∨(h.o=false∧∃ X s1,(eh h.bd h.c (h.blk s) ((h.blk s).rts++h.words)).run s= .ok X s1∧h.finR X s1 a h' s')
def HpS.colOff(h:HpS)(s s':Dev):Prop:=h.o=false∧((eh h.bd h.c (h.blk s) ((h.blk s).rts++h.words)).run s= .off s'∨∃ X s1,(eh h.bd h.c (h.blk s) ((h.blk s).rts++h.words)).run s= .ok X s1∧i8 h.c X.block h.S s1= .off s')
theorem tk{B:World}{Fr:List HP}{bh bs bt x:Nat}{h:HpS}{w:World}(ho:h.o=false)(hx:h.X=none)(hh:Holds B (cE bh bs bt x h::fy bs h.S::gc bt h.T::Fr) w):Holds B (dB bh h::Fr) w:=
 wj (bs:=bs) (bt:=bt) (x:=x) ho (by rw[hx];exact(hh.unpr (p:=True) trivial).back 3 (by simp))
theorem tu(B:World)(Fr:List HP)(bh:Nat)(h:HpS)(s:Dev)(hW:dY h s)(ho:h.o=true):
 ∀ w,Holds B (dB bh h::aB h.bd s::Fr) w→Calls Tryz.prog 49 [ptr bh].toArray w (Ret B (fun rv H'=>∃ a h' s',h.commit s= .ok (a,h') s'∧rv=i64 a∧H'=dB bh h'::aB h.bd s'::Fr) (fun ch H'=>∃ s',h.commit s= .off s'∧ch=dP∧H'=aB h.bd s'::Fr)):=by
 refine ap func49 aa ntmps49 aa (iP fun bs bt x=>(aS [1] (aN (H':=iS bs h.S::_) (fun w hh=>by rw[ho] at hh;exact hh) (aS [0,3] (aN (H':=iS bs h.S::aB h.S.L.d s::_) (fun w hh=>by rw[hW.k.d];exact hh) (ac (ab (kPa aa aa (ad (ac (ab ?_)))))))))))
 refine kPf dI isAgg146 aa aa aa aa ?_
 refine aU aa (ar call89 aa) (m7 B _ bs h.S s (hW.sw ho).1 (hW.sw ho).2) .free aa aa ?_ ?_
 rotate_left
 ·rintro _ _ ⟨s9,hm9,rfl,rfl⟩
  exact ba fun w hh=>⟨_,⟨s9,by unfold HpS.commit;rw[if_pos ho,hm9];rfl,rfl,rfl⟩,by rw[hW.k.d] at hh;exact hh.dp [1,1,1]⟩
 rintro _ _ ⟨S2,s2,hm2,rfl,rfl⟩
 refine kPa aa aa (ad (ay ?_))
 exact au results49 aa (fun w hw=>⟨_,⟨0,{h with o:=false,S:=S2},s2,by unfold HpS.commit;rw[if_pos ho,hm2];rfl,rfl,rfl⟩,by rw[hW.k.d] at hw;exact wj (h:={h with o:=false,S:=S2}) (bs:=bs) (bt:=bt) (x:=x) aa (hw.pk [2,0,1,1])⟩)
theorem tv(B:World)(Fr:List HP)(bh:Nat)(h:HpS)(s:Dev)(hW:dY h s)(ho:h.o=false):
 ∀ w,Holds B (dB bh h::aB h.bd s::Fr) w→Calls Tryz.prog 49 [ptr bh].toArray w (Ret B (fun rv H'=>∃ a h' s',h.commit s= .ok (a,h') s'∧rv=i64 a∧H'=dB bh h'::aB h.bd s'::Fr) (fun ch H'=>∃ s',h.commit s= .off s'∧ch=dP∧H'=aB h.bd s'::Fr)):=by
 refine ap func49 aa ntmps49 aa (iP fun bs bt x=>(aS [1] (aN (H':=fy bs h.S::_) (fun w hh=>by rw[ho] at hh;exact hh) (ac (ab (kPa aa aa (ad (ac (ab (kPf dI isAgg146 aa aa aa aa (aw aa (ar call89 aa) (bH (q:=fy) (fun Fr=>sr B Fr bs h.S)) .free aa aa ?_)))))))))))
 refine kPa aa aa (ad (ay ?_))
 exact au results49 aa (fun w hw=>⟨_,⟨2,h,s,by unfold HpS.commit;rw[if_neg (by rw[ho];decide)],rfl,rfl⟩,wj (bs:=bs) (bt:=bt) (x:=x) ho (hw.pk [1])⟩)
theorem uV(B:World)(Fr:List HP)(bh:Nat)(h:HpS)(s:Dev)(hW:dY h s):∀ w,Holds B (dB bh h::aB h.bd s::Fr) w→Calls Tryz.prog 49 [ptr bh].toArray w (Ret B (fun rv H'=>∃ a h' s',h.commit s= .ok (a,h') s'∧rv=i64 a∧H'=dB bh h'::aB h.bd s'::Fr) (fun ch H'=>∃ s',h.commit s= .off s'∧ch=dP∧H'=aB h.bd s'::Fr)):=by
 cases ho:h.o
 ·exact tv B Fr bh h s hW ho
 ·exact tu B Fr bh h s hW ho
theorem zf(B:World)(Fr:List HP)(c1 x:Nat)(X:bE)(p:Int)(hp:0≤p∧p≤1000000):
 ∀ w,Holds B (row c1 [ptr x] 147::eS x X::Fr) w→Calls Tryz.prog 187 [i64 p,ptr c1].toArray w (a8 B (row c1 [ptr x] 147::eS x X::Fr) (i64 (p3 X p))):=by
 refine ap func187 aa ntmps187 aa (ac (ab (kPa aa aa (ad (ac (ab (kPv (ai isAgg147 aa aa) aa (kPm aa aa (kPv (cX runUnderlying3 runUnderlying25 aa (dT (by omega))) aa (aw aa (ar call118 aa) (bH (q:=eS) (fun Fr=>tQ B Fr x X p)) .free aa aa ?_))))))))))
 refine kPa aa aa (ad (ay ?_))
 exact au results187 aa (fun w hw=>⟨rfl,hw⟩)
theorem AN(B:World)(c1 x:Nat)(X:bE):BX B 187 [] [ptr c1] Unit (fun _=>[row c1 [ptr x] 147,eS x X]) (fun p=>0≤p∧p≤1000000) (p3 X) (fun _ e=>e) where
 enter:=call187
 says:=fun Fr p e hp w hw=>(zf B Fr c1 x X p hp w hw).mono fun en w' h=>by
  obtain⟨rfl,h⟩:=h
  exact⟨_,⟨rfl,rfl⟩,h⟩
theorem uU(B:World)(Fr:List HP)(bh bs bt x:Nat)(h:HpS)(s:Dev)(X:bE)(hx:h.X=some X)(ho:h.o=false)(hX:fc X)(hrl0:0<X.b.rts.length)(hu:U64 s)(hK:Ao h.S h.bd h.c s)(htp:∀ p∈h.T.at_,0≤p.2∧p.2≤1000000):
 ∀ w,Holds B (cE bh bs bt x h::fy bs h.S::gc bt h.T::eS x X::aB h.bd s::Fr) w→Calls Tryz.prog 136 [ptr bh].toArray w (Ret B (fun rv H'=>∃ a h' s',h.finR X s a h' s'∧rv=i64 a∧H'=dB bh h'::aB h.bd s'::Fr) (fun ch H'=>∃ s',i8 h.c X.block h.S s= .off s'∧ch=dP∧H'=aB h.bd s'::Fr)):=by
 refine ap func136 aa ntmps136 aa (aN (H':=row bh [ptr h.bd,i64 h.c.log,i64 h.c.roots,i64 h.c.space,ptr bs,ptr bt,ptr x] 149::_) (fun w hh=>by have h9:=hh;unfold cE at h9;rw[hx] at h9;exact h9) (ac (ab (kPa aa aa (ad (ac (ab (kPf kt isAgg147 aa aa aa aa (kPb (cg zeroValue147 aa) aa fun b3=> ?_)))))))))
 refine kPs (aO sizeOf147 aa aa (by first | rfl | assumption) rfl) rfl ?_;refine ad ?_;refine ac ?_;refine ab ?_;refine kPm aa aa ?_;refine kPv (aK aa) aa ?_;refine kPv (aE (m:=_) kt aa aa) aa ?_
 refine kPs (aO sizeOf147 aa aa (by first | rfl | assumption) rfl) rfl ?_;refine ad ?_;refine am [3,2,0] rfl ?_;refine ac ?_;refine ac ?_;refine aS [1,0] ?_;refine aN (H':=cE bh bs bt x {h with X:=none}::row b3 [ptr x] 147::_) (fun w hh=>hh) ?_;refine cW 13 Tryz.mixed (by kernel_rfl) (by kernel_rfl) ?_;refine kQm aa aa ?_;refine kQv (aK aa) aa ?_;refine kQv (aE (m:=_) iu aa aa) aa ?_
 refine kQv (ai isAgg90 aa aa) aa (kQm aa aa (kQv (aK aa) aa (kQv (aE (m:=_) dV aa aa) aa (kQv (ah isAgg134 sizeOf134 aa aa) aa ?_))))
 refine kQm aa aa (kQv (aK aa) aa (kQv (aE (m:=_) dI aa aa) aa (kQv (ai isAgg146 aa aa) aa (kQv (ai isAgg147 aa aa) aa (ce (aS [2,3,3] ?_))))))
 refine aU aa (ar call172 aa) (wx B _ bs x h.bd h.S X hX hrl0 h.c s hu hK) .free aa aa ?_ ?_
 rotate_left
 ·rintro _ _ ⟨s9,hm9,rfl,rfl⟩
  exact ba fun w hh=>⟨_,⟨s9,hm9,rfl,rfl⟩,hh.dp [1,1,1]⟩
 rintro _ _ ⟨a2,S2,s2,hm2,rfl,rfl⟩
 refine kPa aa aa (ad (am [4,3,2,0] rfl (ac (ab (kPm aa aa (kPv (al aa aa aa) aa (ad ?_)))))))
 refine aZ aa (fun h27=> ?_) (fun h27=> ?_)
 ·have ha2:a2≠0:=by simpa using h27
  refine ac (ab (kPm aa aa (kPa aa aa (ad (ay ?_)))))
  exact au results136 aa (fun w hw=>⟨_,⟨a2,{h with X:=none,S:=S2},s2,⟨S2,hm2,.inl ⟨ha2,rfl⟩⟩,rfl,rfl⟩,tk (h:={h with X:=none,S:=S2}) (bs:=bs) (bt:=bt) (x:=x) ho aa ((hw.dp [1,3]).pk [2,0,1])⟩)
 ·have ha2:a2=0:=by simpa using h27
  refine aq (ac (ab (kPf jf isAgg130 aa aa aa aa (kPv (dt aa aa) aa (aS [5,4,1] (aJ aa (ar call186 aa) ((fun w hh=>xA B _ bt h.T _ [] [ptr b3] Unit _ _ _ _ (AN B b3 x X) htp () w hh)) .free aa aa ?_))))))
  rintro _ _ ⟨ord,hperm,rfl⟩
  refine aN (H':=gc bt (gG.moved (p3 X) h.T.last ord)::row b3 [ptr x] 147::eS x X::fy bs S2::aB h.bd s2::cE bh bs bt x {h with X:=none}::Fr) (fun w hh=>hh) (ad (am [2] rfl (ac (ab (kPa aa aa (ad (ay ?_)))))))
  exact au results136 aa (fun w hw=>⟨_,⟨0,{h with X:=none,S:=S2,T:=gG.moved (p3 X) h.T.last ord},s2,⟨S2,by rw[←ha2];exact hm2,.inr ⟨rfl,ord,hperm,rfl⟩⟩,rfl,rfl⟩,tk (h:={h with X:=none,S:=S2,T:=gG.moved (p3 X) h.T.last ord}) (bs:=bs) (bt:=bt) (x:=x) ho aa ((hw.dp [1,1]).pk [3,1])⟩)
theorem uL{k:Int}{v:Int}:∀ {l:List (Int×Int)} {p:Int×Int},p∈mset l k v→p.2=v∨p∈l
 | [],p,h=>by
   simp only[mset,List.mem_singleton] at h
   exact .inl (by rw[h])
 | q::l,p,h=>by
   unfold mset at h
   split at h
   ·rcases List.mem_cons.1 h with h | h
    ·exact .inl (by rw[h])
    ·exact .inr (List.mem_cons_of_mem _ h)
   ·rcases List.mem_cons.1 h with h | h
    ·exact .inr (by rw[h];exact List.mem_cons_self ..)
    ·exact(uL h).imp id (List.mem_cons_of_mem _)
theorem vV{to_:Int→Int}{P:Int→Prop}(hP:∀ p,P (to_ p)):∀ (ord:List (Int×Int)) (x:List (Int×Int)×List (Int×Int)),(∀ p∈x.1,P p.2)→(∀ p∈(ord.foldl (dr to_) x).1,P p.2)∧(ord.foldl (dr to_) x).1.length≤x.1.length+ord.length
 | [],x,h=>⟨h,by simp⟩
 | a::t,x,h=>by
   simp only[List.foldl_cons,List.length_cons]
   have hx:(∀ p∈(dr to_ x a).1,P p.2)∧(dr to_ x a).1.length≤x.1.length+1:=by
    unfold dr
    split
    ·refine⟨fun p hp=> ?_,oT ..⟩
     rcases uL hp with e | e
     ·rw[e];exact hP _
     ·exact h p e
    ·exact⟨h,by omega⟩
   have:=vV hP t _ hx.1
   exact⟨this.1,by omega⟩
theorem dY.moved{h:HpS}{s s':Dev}(hW:dY h s){to_:Int→Int}(hto:∀ p,0≤to_ p∧to_ p≤1000000){ord:List (Int×Int)}(hp:ord.Perm h.T.at_){S':bC}(hL:dE S'.L)(hd:S'.L.d=h.bd)(hc:S'.L.c=h.c)(hu:U64 s')(hn:s'.n=s.n):dY {h with X:=none,o:=false,S:=S',T:=gG.moved to_ h.T.last ord} s':=by
 obtain⟨g1,g2⟩:=vV (to_:=to_) (P:=fun v=>0≤v∧v≤1000000) hto ord ([],[]) (fun _ h=>by cases h)
 exact⟨hW.c,⟨hL,by rw[hn];exact hW.k.n,hd,hc⟩,fun h=>(by cases h),hu,hW.t1,by
  show(ord.foldl (dr to_) ([],[])).1.length≤_
  have h1:=hp.length_eq;have h2:=hW.tl
  simp only[List.length_nil] at g2;omega,g1,fun X hX=>(by cases hX)⟩
theorem HpS.words_b{h:HpS}{s:Dev}(hW:dY h s):(∀ v∈h.words,0≤v∧v<18446744073709551616)∧h.words.length≤800000:=
 ⟨fun v hv=>by
  obtain⟨n,_,rfl⟩:=List.mem_map.1 hv
  have:=hW.pb n;omega,by have:=hW.tl;simp[HpS.words,cf];exact this⟩
abbrev HpS.ncol(h:HpS)(s:Dev):bE:=eh h.bd h.c (h.blk s) ((h.blk s).rts++h.words)
theorem dY.ncol{h:HpS}{s:Dev}(hW:dY h s):fc (h.ncol s):=
 lT hW.c (dA hW.c hW.u) (fI hW.c) (fH hW.u) (fun v hv=>by
  rcases List.mem_append.1 hv with hv | hv
  ·exact fH hW.u v hv
  ·exact(HpS.words_b hW).1 v hv)
theorem De{h:HpS}{s s1:Dev}{X:bE}{a:Int}{h':HpS}{s':Dev}(hW:dY h s)(ho:h.o=false)(hX:fc X)(hu:U64 s1)(hn:s1.n=s.n)(e:h.finR X s1 a h' s'):dY h' s'∧h'.o=false∧h'.X=none∧h'.bd=h.bd∧h'.c=h.c:=by
 obtain⟨S',e1,hor⟩:=e
 obtain⟨k1,k2,k3,k4,k5,_⟩:=zt (tX hX) hW.k.w hu (by rw[hn];exact hW.k.n) e1
 rcases hor with ⟨_,rfl⟩ | ⟨_,ord,hp,rfl⟩
 ·exact⟨⟨hW.c,⟨k3,by rw[k2,hn];exact hW.k.n,k4.trans hW.k.d,k5.trans hW.k.c⟩,fun h2=>(by rw[show h.o=true from h2] at ho;cases ho),k1,hW.t1,hW.tl,hW.tp,fun X hX=>(by cases hX)⟩,ho,rfl,rfl,rfl⟩
 ·have h1:=hW.moved (fun p=>hX.vb p) hp k3 (k4.trans hW.k.d) (k5.trans hW.k.c) k1 (k2.trans hn)
  rw[←ho] at h1
  exact⟨h1,ho,rfl,rfl,rfl⟩
theorem Do{h:HpS}{s:Dev}{a:Int}{h':HpS}{s':Dev}(hW:dY h s)(ho:h.o=false)(e:h.colR s a h' s'):dY h' s'∧h'.o=false∧h'.X=none∧h'.bd=h.bd∧h'.c=h.c:=by
 rcases e with ⟨h1,_⟩ | ⟨_,X,s1,e1,e2⟩
 ·rw[ho] at h1;cases h1
 ·obtain⟨g1,g2,_⟩:=oz _ _ _ _ _ hW.ncol hW.u e1
  exact De hW ho g1 g2 (vK e1) e2
theorem ru(B:World)(Fr:List HP)(bh:Nat)(h:HpS)(s:Dev)(hW:dY h s)(hb:(s.block h.c).2=0):
 ∀ w,Holds B (dB bh h::aB h.bd s::Fr) w→Calls Tryz.prog 82 [ptr bh].toArray w (Ret B (fun rv H'=>∃ a h' s',h.colR s a h' s'∧rv=i64 a∧H'=dB bh h'::aB h.bd s'::Fr) (fun ch H'=>∃ s',h.colOff s s'∧ch=dP∧H'=aB h.bd s'::Fr)):=by
 refine ap func82 aa ntmps82 aa (iP fun bs bt x=> ?_)
 have hbk:=dA (s:=s) hW.c hW.u
 have hbl:(h.blk s).rts.length≤16:=fI (s:=s) hW.c
 obtain⟨hwb,hwl⟩:=HpS.words_b hW
 refine ac (ab (kPa aa aa (ad (ac (ac (ab (kPf dI isAgg146 aa aa aa aa (aw aa (ar call80 aa) (bH (q:=ny h.o) (fun Fr=>kH B Fr bs h.S h.o)) .free aa aa ?_))))))))
 refine ad ?_
 refine aZ aa (fun h8=> ?_) (fun h8=> ?_)
 ·have ho:h.o=true:=by simpa using h8
  refine ac (ab (kPa aa aa (ad (ay ?_))))
  exact au results82 aa (fun w hw=>⟨_,⟨2,h,s,.inl ⟨ho,rfl,rfl,rfl⟩,rfl,rfl⟩,dZ (bs:=bs) (bt:=bt) (x:=x) hw⟩)
 ·have ho:h.o=false:=by simpa using h8
  refine aS [1] (aN (H':=fy bs h.S::_) (fun w hh=>by rw[ho] at hh;exact hh) (aq (ac (ab (kPm aa aa (aS [1,3] (aJ aa (ar call81 aa) (gB B _ bh bs bt x h s hW.c hW.u) .free aa aa ?_)))))))
  rintro _ _ ⟨sv,hsv,rfl,rfl⟩
  refine cC fun qb cb hqb hqbi=> ?_
  subst hqb
  refine kPb (aD zeroValue151 aa) aa fun b3=> ?_
  refine kPs (az (vs:=_) sizeOf151 aa aa aa (by first | rfl | exact ew (by assumption)) rfl) rfl ?_;refine ad ?_;refine am [3,2,0] rfl ?_;refine ac ?_;refine aN (H':=row b3 [i64 (h.blk s).act,i64 (h.blk s).used,.slice qb (h.blk s).rts.length cb] 151::_) (fun w hh=>hh) ?_
  refine cI [0,1,2,3,4,5,6,7,8,9,11,12,14,10,13,15,16,17,18,19,20] [10,13,15,16,17,20] [0,1,2,3,4,5,6,7,8,9,11,12,14] [10,13,15,16,17] [cE bh bs bt x h,row b3 [i64 (h.blk s).act,i64 (h.blk s).used,.slice qb (h.blk s).rts.length cb] 151] Tryz.mixed (by kernel_rfl) ?_
  refine an aa aa aa (aj aa) .free aa (an aa aa aa (aj aa) .free aa (an aa aa aa (aK aa) .free aa (an aa aa aa (aE (m:=_) iu aa aa) .free aa (an aa aa aa (ai isAgg90 aa aa) .free aa (an aa aa aa (aj aa) .free aa (an aa aa aa (aK aa) .free aa (an aa aa aa (aE (m:=_) dV aa aa) .free aa (an aa aa aa (ah isAgg134 sizeOf134 aa aa) .free aa ?_))))))))
  refine an aa aa aa (ah isAgg151 sizeOf151 aa aa) .free aa ?_
  refine an aa aa aa (aE (m:=_) eY aa aa) .free aa (an aa aa aa (ai isAgg30 aa aa) .free aa (an aa aa aa (aj aa) .free aa (aT aa aa (kPb (u7 runUnderlying30 sizeOf25) aa fun b21=>(aN (H':=cS 0 (.slice (some ⟨b21,0,none⟩) 0 0,[])::_) (fun w hh=>gZ (xs:=[]) aa aa hh) (ad (cL (aT aa aa (cK aa (dW (yv:= .slice qb (h.blk s).rts.length cb) (ys:=(h.blk s).rts) aa aa runUnderlying30 runUnderlying30 ⟨_,rfl⟩ sizeOf25 zeroValue25 aa (fun _=>rfl) ia aa aa (cO (2 - 1) aa) (by simp;omega)) .free aa aa ?_)))))))))
  rintro nv2 _ ⟨hnv2,rfl⟩
  refine ad (cL (aT aa aa (aS [3,5] (aJ aa (ar call134 aa) (qu B _ bh bs bt x h s hW) .free aa aa ?_))))
  rintro wv _ ⟨hwv,rfl⟩
  refine cC fun qw cw hqw hqwi=> ?_
  subst hqw
  refine ad (cL (aT aa aa (aS [3] (cK aa (dW (yv:= .slice qw h.words.length cw) (ys:=h.words) aa aa runUnderlying30 runUnderlying30 ⟨_,rfl⟩ sizeOf25 zeroValue25 aa (fun _=>rfl) ia aa aa (cO (1 - 1) aa) (by simp;omega)) .free aa aa ?_))))
  rintro nv3 _ ⟨hnv3,rfl⟩
  refine cC fun qn cn hqn0 hqni=> ?_
  subst hqn0
  have hqn:qn=none→(h.blk s).rts++h.words=[]:=fun e=>by
   cases hl:(h.blk s).rts++h.words with
   | nil=>rfl
   | cons a t=>
     obtain⟨b,o,h⟩:=hqni 0 (by show 0<((h.blk s).rts++h.words).length;rw[hl];exact Nat.succ_pos _)
     rw[e] at h;cases h
  refine ad (cL (aT aa aa (aS [5] (aJ aa (ar call133 aa) (rP B _ h.bd h.c hW.c (h.blk s) hbk (.slice qb (h.blk s).rts.length cb) aa qn cn ((h.blk s).rts++h.words) (by simp;omega) hqn (cO 1 aa)) .free aa aa ?_))))
  rintro _ _ ⟨x2,rfl,rfl⟩
  refine ad (cL (aP aa aa aa (aK aa) .free aa (aP aa aa aa (aE (m:=_) kt aa aa) .free aa (aT aa aa (aS [3] (kPs (aO sizeOf147 aa aa aa aa) aa (aN (H':=cE bh bs bt x2 {h with X:=some (h.ncol s)}::_) (fun w hh=>hh) (ad (c6 aa (cF (am [2,0] rfl ?_)))))))))))
  refine ac (ab (kPf kt isAgg147 aa aa aa aa (aS [1,5] ?_)))
  refine aU aa (ar call135 aa) (wJ B _ x2 (h.ncol s) hW.ncol s hW.u) .free aa aa ?_ ?_
  rotate_left
  ·rintro _ _ ⟨s9,hm9,rfl,rfl⟩
   exact ba fun w hh=>⟨_,⟨s9,⟨ho,.inl hm9⟩,rfl,rfl⟩,(show Holds B (aB h.bd s9::_) w from hh).dp [1,1,1,1,1,1,1]⟩
  rintro _ _ ⟨X,s1,hm1,rfl,rfl⟩
  obtain⟨hX1,hu1,hXb,hXbd,hXc,_⟩:=oz _ _ _ _ _ hW.ncol hW.u hm1
  have hn1:=vK hm1
  refine aN (H':=eS x2 X::aB h.bd s1::_) (fun w hh=>hh) (ad (ac (aS [2] (aN (H':=cE bh bs bt x2 {h with X:=some X}::_) (fun w hh=>hh) (ab (kPm aa aa (aS [0,6,4,0,0] ?_)))))))
  refine aU aa (ar call136 aa) (uU B _ bh bs bt x2 {h with X:=some X} s1 X aa ho hX1 (by rw[hXb];exact qQ hW.c hb) hu1 ⟨hW.k.w,by rw[hn1];exact hW.k.n,hW.k.d,hW.k.c⟩ hW.tp) .free aa aa ?_ ?_
  rotate_left
  ·rintro _ _ ⟨s9,hm9,rfl,rfl⟩
   exact ba fun w hh=>⟨_,⟨s9,⟨ho,.inr ⟨X,s1,hm1,hm9⟩⟩,rfl,rfl⟩,(show Holds B (aB h.bd s9::_) w from hh).dp [1,1,1,1]⟩
  rintro _ _ ⟨a2,h2,s2,hf2,rfl,rfl⟩
  refine kPa aa aa (ad (am [2] rfl (ay ?_)))
  exact au results82 aa (fun w hw=>⟨_,⟨a2,h2,s2,.inr ⟨ho,X,s1,hm1,hf2⟩,rfl,rfl⟩,(hw.dp [2,2,2,2])⟩)
def HpS.opened(h:HpS)(s:Dev):HpS:={h with o:=true,S:=h.S.fresh ((h.blk s).place h.c (h.blk s).used) ((h.blk s).place h.c h.c.space)}
def HpS.begR(h:HpS)(s:Dev)(room a:Int)(h':HpS)(s':Dev):Prop:=
 (h.o=true∧a=2∧h'=h∧s'=s)∨(h.o=false∧room<0∧a=1∧h'=h∧s'=s)∨
 (h.o=false∧0≤room∧∃ a1 h1 s1,((h.c.space - (h.blk s).used<room∧HpS.colR {h with X:=none} s a1 h1 s1)∨(¬ h.c.space - (h.blk s).used<room∧a1=0∧h1={h with X:=none}∧s1=s))∧
  ((a1≠0∧a=a1∧h'=h1∧s'=s1)∨(a1=0∧h.c.space - (h1.blk s1).used<room∧a=4∧h'=h1∧s'=s1)∨(a1=0∧¬ h.c.space - (h1.blk s1).used<room∧a=0∧h'=h1.opened s1∧s'=s1)))
theorem tD(B:World)(H:List HP)(c:Cfg)(hc:bx c)(b:Blk)(sv:Value)(hb:gg c b)(hsv:aM sv=true):
 ∀ w,Holds B H w→Calls Tryz.prog 84 [dS c,lC b sv].toArray w (a8 B H (.agg #[i64 (b.place c b.used),i64 (b.place c c.space)])):=by
 refine ap func84 aa ntmps84 aa ?_
 have h1:=hb.used
 have h2:=hc.s1
 have h3:=hc.s2
 refine ac (ab (kPb (aY aa) aa fun b2=>(kPb (aY aa) aa fun b3=>(kPb (aD zeroValue155 aa) aa fun b4=>(ad (ac (cW 11 Tryz.mixed (by kernel_rfl) (by kernel_rfl) ?_)))))))
 refine kQv (ah isAgg151 sizeOf151 aa aa) aa ?_
 refine kQv (ah isAgg134 sizeOf134 aa aa) aa ?_
 refine kQv (aE (m:=_) dz aa aa) aa (kQv (ai isAgg3 aa aa) aa (bF aa (ar call137 aa) (ie _ _ c hc b sv hb hsv _ (by omega)) .free aa ?_))
 refine kQv (ah isAgg151 sizeOf151 aa aa) aa ?_
 refine kQv (ah isAgg134 sizeOf134 aa aa) aa ?_
 refine kQv (aE (m:=_) eZ aa aa) aa (kQv (ai isAgg3 aa aa) aa (bF aa (ar call137 aa) (ie _ _ c hc b sv hb hsv _ (by omega)) .free aa ?_))
 refine kQv (aQ aa (ue _ _ aa aa)) aa (ce (kPs (az (vs:=_) sizeOf155 aa aa aa aa aa) aa (ad (am [4] rfl (ay ?_)))))
 exact p9 results84 (.cellA aa isAgg155 sizeOf155 aa aa) (fun w hw=>⟨rfl,(hw.dp [0,0,0])⟩)
theorem xC(B:World)(Fr:List HP)(bh:Nat)(h:HpS)(s:Dev)(hW:dY h s)(hb:(s.block h.c).2=0)(room:Int):
 ∀ w,Holds B (dB bh h::aB h.bd s::Fr) w→Calls Tryz.prog 46 [ptr bh,i64 room].toArray w (Ret B (fun rv H'=>∃ a h' s',h.begR s room a h' s'∧rv=i64 a∧H'=dB bh h'::aB h.bd s'::Fr) (fun ch H'=>∃ s',(fun s'=>h.o=false∧h.c.space - (h.blk s).used<room∧HpS.colOff {h with X:=none} s s') s'∧ch=dP∧H'=aB h.bd s'::Fr)):=by
 refine ap func46 aa ntmps46 aa (iP fun bs bt x=> ?_)
 have hbk:=dA (s:=s) hW.c hW.u
 have hbu:0≤(h.blk s).used∧(h.blk s).used≤h.c.space:=hbk.used
 have hs2:=hW.c.s2
 have hs1':=hW.c.s1
 have hbu1:0≤(HpS.blk {h with X:=none} s).used∧(HpS.blk {h with X:=none} s).used≤h.c.space:=hbk.used
 have hW1:dY {h with X:=none} s:=⟨hW.c,hW.k,hW.sw,hW.u,hW.t1,hW.tl,hW.tp,fun X h=>(by cases h)⟩
 refine ac (ab (kPa aa aa (ad (ac (aF (ac (ab (kPf dI isAgg146 aa aa aa aa (aw aa (ar call80 aa) (bH (q:=ny h.o) (fun Fr=>kH B Fr bs h.S h.o)) .free aa aa ?_)))))))))
 refine kPa aa aa (ad ?_)
 refine aZ aa (fun h7=> ?_) (fun h7=> ?_)
 ·have ho:h.o=true:=by simpa using h7
  refine ac (ab (kPa aa aa (ad (ay ?_))))
  exact au results46 aa (fun w hw=>⟨_,⟨2,h,s,.inl ⟨ho,rfl,rfl,rfl⟩,rfl,rfl⟩,dZ (bs:=bs) (bt:=bt) (x:=x) hw⟩)
 ·have ho:h.o=false:=by simpa using h7
  refine aS [1] (aN (H':=fy bs h.S::_) (fun w hh=>by rw[ho] at hh;exact hh) (ac (ab (kPm aa aa (kPv (al aa aa aa) aa (kPa aa aa (ad (am [13,4,0,1] rfl ?_))))))))
  refine aZ aa (fun h13=> ?_) (fun h13=> ?_)
  ·have hr0:room<0:=by simpa using h13
   refine ac (ab (kPa aa aa (ad (ay ?_))))
   exact au results46 aa (fun w hw=>⟨_,⟨1,h,s,.inr (.inl ⟨ho,hr0,rfl,rfl,rfl⟩),rfl,rfl⟩,wj (bs:=bs) (bt:=bt) (x:=x) ho (hw.pk [1])⟩)
  ·have hr0:0≤room:=by simpa using h13
   refine aq (ac (ab (kPm aa aa (kPv (aK aa) aa (kPv (aE (m:=_) kt aa aa) aa ?_)))))
   refine kPs (aO sizeOf147 aa aa (by first | rfl | assumption) rfl) rfl ?_;refine ad ?_;refine ac ?_;refine ac ?_;refine aS [1] ?_;refine aN (H':=cE bh bs bt x {h with X:=none}::_) (fun w hh=>hh) ?_
   refine cI [0,1,2,3,4,5,6,7,8,9,10] [7] [0,1,2,3,4,5] [7] [cE bh bs bt x {h with X:=none}] Tryz.mixed (by kernel_rfl) ?_
   refine an aa aa aa (aj aa) .free aa (an aa aa aa (aj aa) .free aa (an aa aa aa (aK aa) .free aa (an aa aa aa (aE (m:=_) dV aa aa) .free aa (an aa aa aa (aE (m:=_) eZ aa aa) .free aa (an aa aa aa (ai isAgg3 aa aa) .free aa (aP aa aa aa (aj aa) .free aa (aT aa aa (aS [0,3] (aJ aa (ar call81 aa) (gB B _ bh bs bt x {h with X:=none} s hW.c hW.u) .free aa aa ?_)))))))))
   rintro _ _ ⟨sv,hsv,rfl,rfl⟩
   refine cC fun qb cb hqb hqbi=> ?_
   subst hqb
   refine ad (cL (aP aa aa aa (hO runUnderlying151 (t:=3) (off:=1) aa isAgg3 aa aa) .free aa (aP aa aa aa (ls (c:=h.c.space - (h.blk s).used) aa aa (show IntKind.i64.wrap (h.c.space - (h.blk s).used)=_ from fN (by omega))) .free aa (aP aa aa aa (al aa aa aa) .free aa (cF (am [29,4,0,1] rfl ?_))))))
   refine aZ aa (fun h29=> ?_) (fun h29=> ?_)
   ·have hroom:(h.c.space - (h.blk s).used<room):=by simpa using h29
    refine aN (H':=dB bh {h with X:=none}::aB h.bd s::Fr) (fun w hh=>tk (h:={h with X:=none}) (bs:=bs) (bt:=bt) (x:=x) ho aa ((hh.dp [0,4]).pk [0,1,1])) (ac (ab (kPm aa aa ?_)))
    refine aU aa (ar call82 aa) (ru B _ bh {h with X:=none} s hW1 hb) .free aa aa ?_ ?_
    rotate_left
    ·rintro _ _ ⟨s9,hm9,rfl,rfl⟩
     exact ba fun w hh=>⟨_,⟨s9,⟨ho,hroom,hm9⟩,rfl,rfl⟩,(show Holds B (aB h.bd s9::_) w from hh)⟩
    rintro _ _ ⟨a1,h1,s1,hr1,rfl,rfl⟩
    obtain⟨hW2,ho2,hx2,hbd2,hc2⟩:=Do hW1 ho hr1
    have hbd3:h1.bd=h.bd:=hbd2
    have hc3:h1.c=h.c:=hc2
    refine kPa aa aa (ad (ac (ab (kPm aa aa (kPv (al aa aa aa) aa (ad ?_))))))
    refine aZ aa (fun h33=> ?_) (fun h33=> ?_)
    ·have ha1:a1≠0:=by simpa using h33
     refine ac (ab (kPm aa aa (kPa aa aa (ad (am [4,0,1] rfl (ay ?_))))))
     exact au results46 aa (fun w hw=>⟨_,⟨a1,h1,s1,.inr (.inr ⟨ho,hr0,a1,h1,s1,.inl ⟨hroom,hr1⟩,.inl ⟨ha1,rfl,rfl,rfl⟩⟩),rfl,rfl⟩,hw⟩)
    ·have ha1:a1=0:=by simpa using h33
     refine aq (ac (iP fun bs2 bt2 x2=>(aS [0,3] (aN (H':=cE bh bs2 bt2 x2 h1::aB h1.bd s1::_) (fun w hh=>by rw[hbd3];exact hh) ?_))))
     have hbk2:=dA (s:=s1) hW2.c hW2.u
     have hbu2:0≤(h1.blk s1).used∧(h1.blk s1).used≤h1.c.space:=hbk2.used
     have hs3:=hW2.c.s2
     refine ab (kPm aa aa (aJ aa (ar call81 aa) (gB B _ bh bs2 bt2 x2 h1 s1 hW2.c hW2.u) .free aa aa ?_))
     rintro _ _ ⟨sv,hsv,rfl,rfl⟩
     refine cC fun qb cb hqb hqbi=> ?_
     subst hqb
     refine kPb (aD zeroValue151 aa) aa fun b6=> ?_
     refine kPs (az (vs:=_) sizeOf151 aa aa aa (by first | rfl | exact ew (by assumption)) rfl) rfl ?_;refine ad ?_;refine am [6,4,0,1] rfl ?_;refine ac ?_;refine ac ?_;refine aN (H':=row b6 [i64 (h1.blk s1).act,i64 (h1.blk s1).used,.slice qb (h1.blk s1).rts.length cb] 151::_) (fun w hh=>hh) ?_;refine cM Tryz.mixed (by kernel_rfl) (by kernel_rfl) ?_;refine kQm aa aa ?_
     refine kQm aa aa (kQv (aK aa) aa (kQv (aE (m:=_) dV aa aa) aa (kQv (aE (m:=_) eZ aa aa) aa (kQv (ai isAgg3 aa aa) aa (kQv (aE (m:=_) dz aa aa) aa (kQv (ai isAgg3 aa aa) aa (kQv (fh aa aa) aa (kQv (al aa aa aa) aa (ce (am [46,6,4,0] rfl ?_))))))))))
     refine aZ aa (fun h46=> ?_) (fun h46=> ?_)
     ·have hr2:h.c.space - (h1.blk s1).used<room:=by rw[←hc3];simpa using h46
      refine ac (ab (kPa aa aa (ad (ay ?_))))
      exact au results46 aa (fun w hw=>⟨_,⟨4,h1,s1,.inr (.inr ⟨ho,hr0,a1,h1,s1,.inl ⟨hroom,hr1⟩,.inr (.inl ⟨ha1,hr2,rfl,rfl,rfl⟩)⟩),rfl,rfl⟩,by
   have h9:=dZ (h:=h1) (bs:=bs2) (bt:=bt2) (x:=x2) ((hw.dp [0,0]).pk [0,1,1,1])
   rw[hbd3] at h9;exact h9⟩)
     ·have hr2:¬ h.c.space - (h1.blk s1).used<room:=by rw[←hc3];simpa using h46
      refine aS [4] (aN (H':=fy bs2 h1.S::_) (fun w hh=>by rw[ho2] at hh;exact hh) (aq (ac (cW 10 Tryz.mixed (by kernel_rfl) (by kernel_rfl) ?_))))
      refine kQm aa aa (kQv (aK aa) aa (kQv (aE (m:=_) dI aa aa) aa (kQv (ai isAgg146 aa aa) aa (kQm aa aa (kQv (aK aa) aa (kQv (aE (m:=_) dV aa aa) aa (kQv (ah isAgg134 sizeOf134 aa aa) aa ?_)))))))
      refine kQv (ah isAgg151 sizeOf151 aa aa) aa ?_
      refine bF aa (ar call84 aa) (tD _ _ h1.c hW2.c (h1.blk s1) (.slice qb (h1.blk s1).rts.length cb) hbk2 aa) .free aa ?_
      refine ce (dO aa (ar call83 aa) (jx B _ bs2 h1.S _ _) .free aa aa ?_)
      refine kPa aa aa (ad (am [4] rfl (ay ?_)))
      exact au results46 aa (fun w hw=>⟨_,⟨0,h1.opened s1,s1,.inr (.inr ⟨ho,hr0,a1,h1,s1,.inl ⟨hroom,hr1⟩,.inr (.inr ⟨ha1,hr2,rfl,rfl,rfl⟩)⟩),rfl,rfl⟩,by
   have h9:=qC rfl (h:=h1.opened s1) (bs:=bs2) (bt:=bt2) (x:=x2) ((hw.dp [1,1]).pk [1,0,1,1])
   rw[hbd3] at h9;exact h9⟩)
   ·have hroom:¬ (h.c.space - (h.blk s).used<room):=by simpa using h29
    obtain⟨h1,hh1⟩:∃ h1:HpS,h1={h with X:=none}:=⟨_,rfl⟩
    obtain⟨s1,hs1⟩:∃ s1,s1=s:=⟨_,rfl⟩
    obtain⟨a1,ha1⟩:∃ a1:Int,a1=0:=⟨_,rfl⟩
    have hW2:dY h1 s1:=by rw[hh1,hs1];exact hW1
    have ho2:h1.o=false:=by rw[hh1];exact ho
    have hbd3:h1.bd=h.bd:=by rw[hh1]
    have hc3:h1.c=h.c:=by rw[hh1]
    refine aN (H':=dB bh h1::aB h.bd s1::Fr) (fun w hh=>by rw[hh1,hs1];exact tk (h:={h with X:=none}) (bs:=bs) (bt:=bt) (x:=x) ho aa ((hh.dp [0,4]).pk [0,1,1])) (aq (ac (iP fun bs2 bt2 x2=>(aS [0,3] (aN (H':=cE bh bs2 bt2 x2 h1::aB h1.bd s1::_) (fun w hh=>by rw[hbd3];exact hh) ?_)))))
    have hbk2:=dA (s:=s1) hW2.c hW2.u
    have hbu2:0≤(h1.blk s1).used∧(h1.blk s1).used≤h1.c.space:=hbk2.used
    have hs3:=hW2.c.s2
    refine ab (kPm aa aa (aJ aa (ar call81 aa) (gB B _ bh bs2 bt2 x2 h1 s1 hW2.c hW2.u) .free aa aa ?_))
    rintro _ _ ⟨sv,hsv,rfl,rfl⟩
    refine cC fun qb cb hqb hqbi=> ?_
    subst hqb
    refine kPb (aD zeroValue151 aa) aa fun b6=> ?_
    refine kPs (az (vs:=_) sizeOf151 aa aa aa (by first | rfl | exact ew (by assumption)) rfl) rfl ?_;refine ad ?_;refine ac ?_;refine ac ?_;refine aN (H':=row b6 [i64 (h1.blk s1).act,i64 (h1.blk s1).used,.slice qb (h1.blk s1).rts.length cb] 151::_) (fun w hh=>hh) ?_;refine cM Tryz.mixed (by kernel_rfl) (by kernel_rfl) ?_;refine kQm aa aa ?_;refine kQm aa aa ?_
    refine kQv (aK aa) aa (kQv (aE (m:=_) dV aa aa) aa (kQv (aE (m:=_) eZ aa aa) aa (kQv (ai isAgg3 aa aa) aa (kQv (aE (m:=_) dz aa aa) aa (kQv (ai isAgg3 aa aa) aa (kQv (fh aa aa) aa (kQv (al aa aa aa) aa (ce (am [46,6,4,0] rfl ?_)))))))))
    refine aZ aa (fun h46=> ?_) (fun h46=> ?_)
    ·have hr2:h.c.space - (h1.blk s1).used<room:=by rw[←hc3];simpa using h46
     refine ac (ab (kPa aa aa (ad (ay ?_))))
     exact au results46 aa (fun w hw=>⟨_,⟨4,h1,s1,.inr (.inr ⟨ho,hr0,a1,h1,s1,.inr ⟨hroom,ha1,hh1,hs1⟩,.inr (.inl ⟨ha1,hr2,rfl,rfl,rfl⟩)⟩),rfl,rfl⟩,by
   have h9:=dZ (h:=h1) (bs:=bs2) (bt:=bt2) (x:=x2) ((hw.dp [0,0]).pk [0,1,1,1])
   rw[hbd3] at h9;exact h9⟩)
    ·have hr2:¬ h.c.space - (h1.blk s1).used<room:=by rw[←hc3];simpa using h46
     refine aS [4] (aN (H':=fy bs2 h1.S::_) (fun w hh=>by rw[ho2] at hh;exact hh) (aq (ac (cW 10 Tryz.mixed (by kernel_rfl) (by kernel_rfl) ?_))))
     refine kQm aa aa (kQv (aK aa) aa (kQv (aE (m:=_) dI aa aa) aa (kQv (ai isAgg146 aa aa) aa (kQm aa aa (kQv (aK aa) aa (kQv (aE (m:=_) dV aa aa) aa (kQv (ah isAgg134 sizeOf134 aa aa) aa ?_)))))))
     refine kQv (ah isAgg151 sizeOf151 aa aa) aa ?_
     refine bF aa (ar call84 aa) (tD _ _ h1.c hW2.c (h1.blk s1) (.slice qb (h1.blk s1).rts.length cb) hbk2 aa) .free aa ?_
     refine ce (dO aa (ar call83 aa) (jx B _ bs2 h1.S _ _) .free aa aa ?_)
     refine kPa aa aa (ad (am [4] rfl (ay ?_)))
     exact au results46 aa (fun w hw=>⟨_,⟨0,h1.opened s1,s1,.inr (.inr ⟨ho,hr0,a1,h1,s1,.inr ⟨hroom,ha1,hh1,hs1⟩,.inr (.inr ⟨ha1,hr2,rfl,rfl,rfl⟩)⟩),rfl,rfl⟩,by
   have h9:=qC rfl (h:=h1.opened s1) (bs:=bs2) (bt:=bt2) (x:=x2) ((hw.dp [1,1]).pk [1,0,1,1])
   rw[hbd3] at h9;exact h9⟩)
theorem AY{B:World}{n:Nat}{D:List Deferred}{σ:Env}{b:Nat}{o:Bool}{S:bC}{Fr:List HP}{K:Act→World→Prop}(h:∀ bl o1 o2 M,(∀ Fr w,Holds B (db b bl S o o1 o2::cU bl S.L::M::Fr) w→Holds B (ny o b S::Fr) w)→GO B n D σ (db b bl S o o1 o2::cU bl S.L::M::Fr) K):GO B n D σ (ny o b S::Fr) K:=by
 cases o
 ·refine kN fun bl o1 o2=> ?_
  refine aN (fun w hh=>(hh.unpr (p:=True) trivial).back 2 (by simp)) (h bl o1 o2 (pr True) fun Fr w hh=> ?_)
  exact dN ((hh.front 2 aa).pr.2)
 ·refine lZ fun bl o1 o2=> ?_
  refine aN (H':=db b bl S true (some o1) (some o2)::cU bl S.L::grp [bu .i64 bY o1 S.seen,bu .i64 bY o2 S.dirty]::Fr) (fun w hh=> ?_) (h bl _ _ _ fun Fr w hh=> ?_)
  ·exact(Holds.ungrp (l:=[bu .i64 bY o1 S.seen,bu .i64 bY o2 S.dirty]) ((hh.front 2 aa).front 3 aa |>.front 1 aa)).back 2 (by simp)
  ·exact fk ((((hh.front 2 aa).grp).front 2 aa).front 3 aa |>.front 1 aa)
structure BW where
 used:Int
 reached:Int
 handles:Int
 records:Int
 open_:Bool
def HpS.stats(h:HpS)(s:Dev):BW:=⟨(h.blk s).used,s.reachSize h.c (h.blk s) (h.words++(h.blk s).rts),h.T.at_.length,h.S.L.n,h.o⟩
abbrev BI(x:BW):Value:= .agg #[i64 x.used,i64 x.reached,i64 x.handles,i64 x.records,.bool x.open_]
theorem w5(B:World)(Fr:List HP)(bs bl:Nat)(S:bC)(o:Bool)(o1 o2:Option Nat):
 ∀ w,Holds B (db bs bl S o o1 o2::Fr) w→Calls Tryz.prog 80 [ptr bs].toArray w (a8 B (db bs bl S o o1 o2::Fr) (.bool o)):=by
 refine ap func80 aa ntmps80 aa (ac (ab (kPa aa aa (ad (ac (ab (kPf dH isAgg4 aa aa aa aa (kPa aa aa (ad (ay ?_))))))))))
 exact au results80 aa (fun w hw=>⟨rfl,hw⟩)
theorem qx(B:World)(Fr:List HP)(bh:Nat)(h:HpS)(s:Dev)(hW:dY h s):
 ∀ w,Holds B (dB bh h::aB h.bd s::Fr) w→Calls Tryz.prog 50 [ptr bh].toArray w (a8 B (dB bh h::aB h.bd s::Fr) (BI (h.stats s))):=by
 refine ap func50 aa ntmps50 aa (iP fun bs bt x=>(aS [1] (AY fun bl o1 o2 M hM=>(aS [3] ?_))))
 have hbk:=dA (s:=s) hW.c hW.u
 have hbl:(h.blk s).rts.length≤16:=fI (s:=s) hW.c
 obtain⟨hwb,hwl⟩:=HpS.words_b hW
 have hwb2:∀ v∈h.words++(h.blk s).rts,0≤v∧v<18446744073709551616:=fun v hv=>(List.mem_append.1 hv).elim (hwb v) (fH hW.u v)
 refine ac (ab (kPb (aD zeroValue106 aa) aa fun b2=>(ad (ac (ab (kPm aa aa (aS [1,6] (aJ aa (ar call81 aa) (gB B _ bh bs bt x h s hW.c hW.u) .free aa aa ?_))))))))
 rintro _ _ ⟨sv,hsv,rfl,rfl⟩
 refine cC fun qb cb hqb hqbi=> ?_
 subst hqb
 refine kPb (aD zeroValue151 aa) aa fun b3=> ?_
 refine kPs (az (vs:=_) sizeOf151 aa aa aa (by first | rfl | exact ew (by assumption)) rfl) rfl ?_;refine ad ?_;refine ac ?_;refine aN (H':=row b3 [i64 (h.blk s).act,i64 (h.blk s).used,.slice qb (h.blk s).rts.length cb] 151::_) (fun w hh=>hh) ?_
 refine cI [0,1,2,3,4,5,6,7,8,9,10,11,14,15,16,17,20,21,22,23,24,25,26,28,29,30,31,12,13,18,19,27,32,33,34] [12,13,18,27,32,34] [0,1,2,3,4,5,6,7,8,9,10,14,15,16,17,20,21,22,23,24,25,26,28,29,30,31,19] [12,13,18,27,32] [cE bh bs bt x h,row b3 [i64 (h.blk s).act,i64 (h.blk s).used,.slice qb (h.blk s).rts.length cb] 151,db bs bl h.S h.o o1 o2] Tryz.mixed (by kernel_rfl) ?_
 refine an aa aa aa (aE (m:=_) dz aa aa) .free aa (an aa aa aa (ai isAgg3 aa aa) .free aa (an aa aa aa (aj aa) .free aa (an aa aa aa (aK aa) .free aa (an aa aa aa (aE (m:=_) iu aa aa) .free aa (an aa aa aa (ai isAgg90 aa aa) .free aa (an aa aa aa (aj aa) .free aa (an aa aa aa (aK aa) .free aa (an aa aa aa (aE (m:=_) dV aa aa) .free aa (an aa aa aa (ah isAgg134 sizeOf134 aa aa) .free aa ?_)))))))))
 refine an aa aa aa (ah isAgg151 sizeOf151 aa aa) .free aa ?_
 refine aP aa aa aa (aj aa) .free aa (an aa aa aa (aj aa) .free aa (an aa aa aa (aK aa) .free aa (an aa aa aa (aE (m:=_) jf aa aa) .free aa (an aa aa aa (ai isAgg130 aa aa) .free aa (an aa aa aa (aj aa) .free aa (an aa aa aa (aK aa) .free aa (an aa aa aa (aE (m:=_) dI aa aa) .free aa (an aa aa aa (ai isAgg146 aa aa) .free aa (an aa aa aa (aK aa) .free aa (an aa aa aa (aE (m:=_) iq aa aa) .free aa (an aa aa aa (ai isAgg168 aa aa) .free aa ?_)))))))))))
 refine an aa aa aa (aj aa) .free aa (an aa aa aa (aK aa) .free aa (an aa aa aa (aE (m:=_) dI aa aa) .free aa (an aa aa aa (ai isAgg146 aa aa) .free aa (aT aa aa (aS [2,7,2] (aJ aa (ar call91 aa) (AX B _ bh bs bt x h s hW) .free aa aa ?_))))))
 rintro av _ ⟨hav,rfl⟩
 refine cC fun qa ca hqa hqai=> ?_
 subst hqa
 refine ad (cL (aS [3] (aT aa aa (aw aa (ar call90 aa) (nU B _ h.bd h.c hW.c (h.blk s) (.slice qb (h.blk s).rts.length cb) hbk aa s qa ca (h.words++(h.blk s).rts) hwb2 (by simp;omega) hqai (cO (1 - 1) aa)) .free aa aa ?_))))
 refine ad (cL (aT aa aa (aS [3] (aJ aa (ar call92 aa) (nh B _ bt h.T (by have:=hW.tl;omega)) .free aa aa ?_))))
 rintro rv _ rfl
 refine aN (fun w hh=>uh hh) (cC fun qn cn hqn hqi=> ?_)
 subst hqn
 refine ad (cL (an aa aa aa (bB aa runUnderlying166 ⟨_,rfl⟩ rfl) .free aa (aT aa aa (aw aa (ar call93 aa) (bH (q:=cU) (fun Fr=>vY _ Fr bl h.S.L)) .free aa aa ?_))))
 refine ad (cL (aS [8] (aT aa aa (aw aa (ar call80 aa) (w5 B _ bs bl h.S h.o o1 o2) .free aa aa ?_))))
 refine ad (cL (aP aa aa aa (aQ aa (mt _ _ _ _ _ aa aa aa aa aa)) .free aa (aT aa aa (kPs (az (vs:=_) sizeOf106 aa aa aa aa aa) aa (ad (c6 aa (cF (am [2] rfl (ay ?_)))))))))
 exact p9 results50 (.cellA aa isAgg106 sizeOf106 aa aa) (fun w hw=>⟨by simp[HpS.stats,cf];rfl,dZ (bs:=bs) (bt:=bt) (x:=x) ((hM _ _ ((hw.dp [1,3,4,4,4]).pk [0,3,3,2,0,1])).front 1 aa)⟩)
theorem uH{s:Dev}(h:s.pow.lim<0):s.pow.out=false:=by unfold Pow.out;simp;omega
theorem sg{s:Dev}(h:s.pow.lim<0)(i v:Int):∃ a s',s.store i v= .ok a s'∧s'.pow.lim<0:=by
 unfold Dev.store
 split
 ·exact⟨_,_,rfl,h⟩
 ·rw[if_neg (by rw[uH h];decide)];exact⟨_,_,rfl,h⟩
theorem tF{s:Dev}(h:s.pow.lim<0)(i:Int):∃ a s',s.flush i= .ok a s'∧s'.pow.lim<0:=by
 unfold Dev.flush
 split
 ·exact⟨_,_,rfl,h⟩
 ·rw[if_neg (by rw[uH h];decide)];exact⟨_,_,rfl,h⟩
theorem tH{s:Dev}(h:s.pow.lim<0):∃ s',s.fence= .ok () s'∧s'.pow.lim<0:=by
 unfold Dev.fence
 rw[if_neg (by rw[uH h];decide)];exact⟨_,rfl,h⟩
theorem vN{c:Cfg}:∀ (k:Nat) (s:Dev),s.pow.lim<0→∃ s',kT jP c k s= .ok () s'∧s'.pow.lim<0
 | 0,s,h=>⟨s,rfl,h⟩
 | k+1,s,h=>by
   unfold kT jP
   obtain⟨a,s1,e1,h1⟩:=sg h (IntKind.i64.wrap (s.load (c.record k+1))) (s.load (c.record k+2))
   obtain⟨a2,s2,e2,h2⟩:=tF h1 (IntKind.i64.wrap (s.load (c.record k+1)))
   rw[e1]
   simp only[aR]
   rw[e2]
   simp only[aR]
   exact vN k s2 h2
theorem r8{L:bK}{s:Dev}(h:s.pow.lim<0):∃ L' s',L.truncate s= .ok L' s'∧s'.pow.lim<0:=by
 unfold bK.truncate
 split
 ·exact⟨_,_,rfl,h⟩
 ·obtain⟨a,s1,e1,h1⟩:=sg h 8 ((L.epoch+1)%4294967296)
  obtain⟨a2,s2,e2,h2⟩:=tF h1 8
  obtain⟨s3,e3,h3⟩:=tH h2
  rw[e1];simp only[aR];rw[e2];simp only[aR];rw[e3]
  exact⟨_,_,rfl,h3⟩
theorem As{L:bK}{s:Dev}(h:s.pow.lim<0):∃ L' s',L.undo s= .ok L' s'∧s'.pow.lim<0:=by
 unfold bK.undo
 obtain⟨s1,e1,h1⟩:=vN (c:=L.c) L.n.toNat s h
 rw[e1]
 simp only[aR]
 split
 ·obtain⟨s2,e2,h2⟩:=tH h1
  rw[e2];exact r8 h2
 ·exact r8 h1
def cpD(s:Dev)(pa:Nat):Dev:=⟨pa,⟨-1,0⟩,s.n,fun i=>(tab s.n s.now).getD i 0,fun i=>(tab s.n s.now).getD i 0,fun _=>none⟩
theorem BS{s:Dev}(hu:U64 s)(pa:Nat):U64 (cpD s pa):=fun i=>by
 show 0≤(tab s.n s.now).getD i 0∧(tab s.n s.now).getD i 0<_
 by_cases hi:i<s.n
 ·have e:tab s.n s.now=(List.range s.n).map s.now:=rfl
  rw[e,List.getD_eq_getElem?_getD]
  simp[hi];exact hu i
 ·rw[List.getD_eq_getElem?_getD,List.getElem?_eq_none (by rw[aX];omega)];decide
theorem SlR.tb{B:World}{H:List HP}{n b cap:Nat}{f:Nat→Value}{rest:List Value}{T:TypeId}{U:List Value→List HP}[fM H b (tab n f++rest) T U]:SlR B H (.slice (some ⟨b,0,none⟩) n cap) (tab n f):=
 SlR.row (cs:=Proofs.YtoakdoeajpjgkaaGreatDoor.tab n f++rest) (T:=T) (U:=U) (by rw[List.drop_zero,List.take_append_of_le_length (by rw[aX];omega),List.take_of_length_le (by rw[aX];omega)]) (by rw[aX])
theorem AG{s:Dev}(h:s.readC.2=0):bx s.readC.1∧(s.n:Int)=s.readC.1.words:=by
 unfold Dev.readC at h ⊢
 split at h
 ·cases h
 split at h
 ·cases h
 split at h
 ·cases h
 ·rename_i h1 h2 h3
  rw[if_neg h1,if_neg h2,if_neg h3]
  simp only
  constructor
  ·exact Classical.byContradiction fun h4=>h3 (.inl h4)
  ·exact Classical.byContradiction fun h4=>h3 (.inr h4)
def sP(bd:Nat)(s:Dev)(e:Int):Prop:=
 (s.readC.2≠0∧e=s.readC.2)∨(s.readC.2=0∧0≤jS s s.readC.1 (bU bd s.readC.1 s).n.toNat 0∧e=9)∨
 (s.readC.2=0∧jS s s.readC.1 (bU bd s.readC.1 s).n.toNat 0<0∧∃ bc pa L1 t1,(bU bc s.readC.1 (cpD s pa)).undo (cpD s pa)= .ok L1 t1∧e=t1.check s.readC.1)
def iO(bd:Nat)(c:Cfg)(s:Dev):HpS:=⟨bd,c,⟨bU bd c s,0,0,[],[]⟩,false,⟨[],[],0⟩,none⟩
theorem xz(B:World)(Fr:List HP)(bd:Nat)(s:Dev)(hu:U64 s)(hn:s.n≤100000):
 ∀ w,Holds B (aB bd s::Fr) w→Calls Tryz.prog 75 [ptr bd].toArray w (Ret B (fun rv H'=>(∃ e,e≠0∧sP bd s e∧rv= .tuple #[.pointer none,i64 e]∧H'=aB bd s::Fr)∨(∃ bh L' s',sP bd s 0∧(bU bd s.readC.1 s).undo s= .ok L' s'∧rv= .tuple #[ptr bh,i64 0]∧H'=dB bh (iO bd s.readC.1 s')::aB bd s'::Fr)) (fun ch H'=>∃ s',sP bd s 0∧(bU bd s.readC.1 s).undo s= .off s'∧ch=dP∧H'=aB bd s'::Fr)):=by
 refine ap func75 aa ntmps75 aa (k9 bd fun hn1 hn2 hn3=>(ac (ab (kPa aa aa (kPa aa aa (ad (ac (ab (kPm aa aa (aw aa (ar call123 aa) (bH (q:=aB) (fun Fr=>rd _ Fr bd s)) .free aa aa ?_))))))))))
 refine kPm aa aa (kPv (aA aa aa) aa (kPv (aA aa aa) aa (kPb (aD zeroValue134 aa) aa fun b4=>(kPs (az (vs:=_) sizeOf134 aa aa aa aa aa) aa (kPa aa aa (ad (ac (ac (ab (kPm aa aa (kPv (al aa aa aa) aa ?_)))))))))))
 refine ad ?_
 refine aZ aa (fun h15=> ?_) (fun h15=> ?_)
 ·have hc0:s.readC.2≠0:=by simpa using h15
  refine ac (ab (kPm aa aa (kPa aa aa (kPa aa aa (ad (am [3,2,4,0] rfl (ay ?_)))))))
  exact bS results75 aa aa (fun w hw=>⟨_,.inl ⟨_,hc0,.inl ⟨hc0,rfl⟩,rfl,rfl⟩,(hw.dp [0])⟩)
 ·have hc0:s.readC.2=0:=by simpa using h15
  have hc:=(AG hc0).1
  have hLw:dE (bU bd s.readC.1 s):=iB hc
  refine aq (ac (ab (kPm aa aa (kPv (ah isAgg134 sizeOf134 aa aa) aa ?_))))
  refine aS [1] (aJ aa (ar call124 aa) (ka B _ bd s s.readC.1 hc) .free aa aa ?_)
  rintro _ _ ⟨bl,rfl,rfl⟩
  refine kPa aa aa (ad (am [6,4,3,2,0] rfl (ac (ac (ab (kPm aa aa (aw aa (ar call125 aa) (y5 B _ bl (bU bd s.readC.1 s) s hLw) .free aa aa ?_)))))))
  refine kPv (al aa aa aa) aa (ad ?_)
  refine aZ aa (fun h22=> ?_) (fun h22=> ?_)
  ·have hg:0≤jS s s.readC.1 (bU bd s.readC.1 s).n.toNat 0:=by
    have h9:0≤jS s (bU bd s.readC.1 s).c (bU bd s.readC.1 s).n.toNat 0:=by simpa using h22
    exact h9
   refine ac (ab (kPa aa aa (kPa aa aa (ad (ay ?_)))))
   exact bS results75 aa aa (fun w hw=>⟨_,.inl ⟨9,by decide,.inr (.inl ⟨hc0,hg,rfl⟩),rfl,rfl⟩,(hw.dp [0,1])⟩)
  ·have hg:jS s s.readC.1 (bU bd s.readC.1 s).n.toNat 0<0:=by
    have h9:jS s (bU bd s.readC.1 s).c (bU bd s.readC.1 s).n.toNat 0<0:=by simpa using h22
    exact h9
   refine aq (ac (ab (aJ aa (ar call127 aa) (rh _ _ _) .free aa aa ?_)))
   rintro _ _ ⟨pb,rfl,rfl⟩
   refine kPm aa aa (aS [2] (aJ aa (ar call128 aa) (xg _ _ bd s) .free aa aa ?_))
   rintro _ _ ⟨bw,rest,rfl,rfl⟩
   refine aS [2] (aJ aa (ar call126 aa) (vU B _ pb ⟨-1,0⟩ _ (tab s.n s.now) (by rw[aX];omega) (by rw[aX];omega) (by rw[lK];exact SlR.tb)) .free aa aa ?_)
   rintro _ _ ⟨bc,rfl,rfl⟩
   refine aN (H':=aB bc (cpD s pb)::_) (fun w hh=>by unfold cpD;rw[aX,show(s.n+7) / 8*8=s.n by omega] at hh;exact hh) ?_
   obtain⟨L1,t1,hu1,_⟩:=As (s:=cpD s pb) (L:=bU bc s.readC.1 (cpD s pb)) (show(-1:Int)<0 by decide)
   have hk1:=yg (iB hc) hu1
   have hut1:=hk1.1 (BS hu pb)
   refine kPa aa aa (ad (am [7,6,4,3,2,0] rfl (ac (ab (kPm aa aa (kPv (ah isAgg134 sizeOf134 aa aa) aa ?_))))))
   refine aJ aa (ar call124 aa) (ka B _ bc (cpD s pb) s.readC.1 hc) .free aa aa ?_
   rintro _ _ ⟨bl2,rfl,rfl⟩
   refine aU aa (ar call129 aa) (oY B _ bl2 (bU bc s.readC.1 (cpD s pb)) (cpD s pb) (iB hc)) .free aa aa ?_ ?_
   rotate_left
   ·rintro _ _ ⟨s9,hm9, -, -⟩
    cases hu1.symm.trans hm9
   rintro _ _ ⟨L9,t9,hm9,rfl,rfl⟩
   cases hu1.symm.trans hm9
   refine aN (H':=cU bl2 _::aB bc t1::_) (fun w hh=>hh) (ad (ac (ac (aS [1] (ab (kPm aa aa (kPv (ah isAgg134 sizeOf134 aa aa) aa ?_)))))))
   refine aw aa (ar call130 aa) (kS B _ bc t1 s.readC.1 hc hut1) .free aa aa ?_
   refine kPa aa aa (ad (am [8,6,4,3,2,0] rfl (ac (ab (kPm aa aa (kPv (al aa aa aa) aa (ad ?_)))))))
   refine aZ aa (fun h35=> ?_) (fun h35=> ?_)
   ·have hk:t1.check s.readC.1≠0:=by simpa using h35
    refine ac (ab (kPm aa aa (kPa aa aa (kPa aa aa (ad (ay ?_))))))
    exact bS results75 aa aa (fun w hw=>⟨_,.inl ⟨_,hk,.inr (.inr ⟨hc0,hg,bc,pb,L1,t1,hu1,rfl⟩),rfl,rfl⟩,(hw.dp [0,0,0,1,1])⟩)
   ·have hk:t1.check s.readC.1=0:=by simpa using h35
    have hE:sP bd s 0:= .inr (.inr ⟨hc0,hg,bc,pb,L1,t1,hu1,hk.symm⟩)
    refine aq (ac (ab (kPm aa aa (aS [4,3] ?_))))
    refine aU aa (ar call129 aa) (oY B _ bl (bU bd s.readC.1 s) s hLw) .free aa aa ?_ ?_
    rotate_left
    ·rintro _ _ ⟨s9,hm9,rfl,rfl⟩
     exact ba fun w hh=>⟨_,⟨s9,hE,hm9,rfl,rfl⟩,(show Holds B (cU bl _::aB bd s9::_) w from hh).dp [0,1,1,1,1]⟩
    rintro _ _ ⟨L3,s2,hm3,rfl,rfl⟩
    refine aN (H':=cU bl _::aB bd s2::_) (fun w hh=>hh) (ad (ac (aS [5] (aN (H':=row b4 [i64 s.readC.1.log,i64 s.readC.1.roots,i64 s.readC.1.space] 134::_) (fun w hh=>hh) (cI [0,1,2,3,4,5,6,7,8,9] [4,5,7] [0,1] [4,5] [row b4 [i64 s.readC.1.log,i64 s.readC.1.roots,i64 s.readC.1.space] 134] Tryz.mixed (by kernel_rfl) ?_)))))
    refine an aa aa aa (aj aa) .free aa (an aa aa aa (ah isAgg134 sizeOf134 aa aa) .free aa ?_)
    refine aP aa aa aa (aj aa) .free aa (aP aa aa aa (ah isAgg134 sizeOf134 aa aa) .free aa ?_)
    refine aT aa aa (aS [2] (aJ aa (ar call115 aa) (q7 B _ bd s2 s.readC.1 hc) .free aa aa ?_))
    rintro _ _ ⟨bs,rfl,rfl⟩
    refine ad (cL (aT aa aa (aJ aa (ar call71 aa) (wi _ _) .free aa aa ?_)))
    rintro _ _ ⟨bt,rfl,rfl⟩
    refine ad (cL ?_)
    refine aP aa aa aa (aQ aa (nx _ _ _ _ _ _ (by first | rfl | assumption) (by first | rfl | assumption) (by first | rfl | assumption))) .free rfl ?_;refine aT aa aa ?_;refine kPb (aY aa) aa fun b46=> ?_;refine ad ?_;refine c6 aa ?_;refine aP aa aa aa (bD aa) .free aa ?_;refine aP aa aa aa (bD aa) .free aa ?_;refine cF ?_;refine am [3,2] rfl ?_;refine ay ?_
    exact bS results75 aa aa (fun w hw=>⟨_,.inr ⟨b46,L3,s2,hE,hm3,rfl,rfl⟩,tk (h:=iO bd s.readC.1 s2) (bs:=bs) (bt:=bt) (x:=0) aa aa ((hw.dp [4,4,4,4,4]).pk [0,1])⟩)
structure Nd where
 wd:Int
 rf:Int
 names:List (Option Nat)
 nums:List Int
 nv:Value
 vv:Value
inductive Un where
 | used (c1 c2:Nat) (was:Int)
 | num (c1 c2 c3 n:Nat) (i was:Int)
 | name (c1 c2 c3 n:Nat) (i:Int) (was:Option Nat)
 | root (c1 c2 c3:Nat) (i:Int) (was:Option Nat)
structure Md where
 c:Cfg
 roots:List (Option Nat)
 used:Int
 hs:List (Option Nat)
 o:Bool
 seen:List (Option Nat×Int)
 fresh:List (Option Nat)
 undo:List Un
 left:Int
 thn:Int
 ids:List Nat
 g:Nat→Nd
section
variable {B:World} {n:Nat} {D:List Deferred} {σ:Env} {H Fr:List HP} {P:Program} {K:Act→World→Prop} {bm b:Nat} {M:Md} {x:Nd} {ids:List Nat} {g:Nat→Nd} {w:World} {rv hv sv fv uv:Value} {us us':List Un} {u:Un}
section
variable {d:Option Tmp} {ty:TypeId} {p:String} {af:Array Edge} {gd:Option (Nat×Bool)}
end
theorem AH{f:FuncId}{vs:Array Value}{v:Value}{H H1:List HP}(is js:List Nat)[mu is H H1][mu js H1 H](h:∀ w,Holds B H1 w→Calls P f vs w (a8 B H1 v)):∀ w,Holds B H w→Calls P f vs w (a8 B H v):=
 fun w hw=>(h w (hw.pk is)).mono fun _ _ ⟨h1,h2⟩=>⟨h1,h2.pk js⟩
end
abbrev eD(bm br n:Nat)(c:Cfg):HP:=row bm [i64 c.log,i64 c.roots,i64 c.space,.slice (some ⟨br,0,none⟩) n n,i64 0,.slice none 0 0,.bool false,.slice none 0 0,.slice none 0 0,.slice none 0 0,i64 (-1),i64 0] 145
abbrev eC(br n:Nat):HP:=row br (List.replicate n (.pointer none)) 209
theorem AO(B:World)(H:List HP)(c:Cfg)(hc:bx c)(n:Nat)(hn:(n:Int)=c.roots):
 ∀ w,Holds B H w→Calls Tryz.prog 76 [dS c].toArray w (Ret B (fun rv H'=>∃ bm br,rv=ptr bm∧H'=eD bm br n c::eC br n::H) (fun _ _=>False)):=by
 refine ap func76 aa ntmps76 aa ?_
 have hr2:=hc.r2
 refine ac (ab (kPb (aY aa) aa fun b1=>(kPa aa aa (ad (ac (cI [0,1,2,3,4,5,6] [3,5] [0] [3] [row b1 [i64 c.log,i64 c.roots,i64 c.space] 134] Tryz.mixed (by kernel_rfl) ?_))))))
 refine an aa aa aa (ah isAgg134 sizeOf134 aa aa) .free aa ?_
 refine aP aa aa aa (aE (m:=_) fW aa aa) .free aa (aP aa aa aa (ai isAgg3 aa aa) .free aa (aT aa aa (kPb (nO (n:=n) runUnderlying141 B0 sizeOf209 zeroValue209 aa (by rw[hn];rfl) (by rw[hn];rfl) (by omega)) aa fun br=>(ad (cL ?_)))))
 refine aP aa aa aa (aQ aa (pV _ _ _ _ _ (by first | rfl | assumption) rfl)) .free rfl ?_;refine aT aa aa ?_;refine kPb (aY aa) aa fun b8=> ?_;refine ad ?_;refine c6 aa ?_;refine aP aa aa aa (bD aa) .free aa ?_;refine cF ?_;refine am [2] rfl ?_;refine ay ?_
 exact au results76 aa (fun w hw=>⟨_,⟨b8,br,rfl,rfl⟩,(hw.dp [2])⟩)
theorem yV(B:World)(Fr:List HP)(c3:Nat):
 ∀ w,Holds B (row c3 [.slice none 0 0] 141::Fr) w→Calls Tryz.prog 184 [.pointer none,ptr c3].toArray w (a8 B (row c3 [.slice none 0 0] 141::Fr) (.tuple #[])):=by
 refine ap func184 aa ntmps184 aa (ac (ab (kPm aa aa (kPv (du runUnderlying209 aa aa aa) aa (kPm aa aa ?_)))))
 apply dD (tp:=10) (t:=5) (σ1:=[(5,_),(0,_),(1,_)]) 5 rfl (aC rfl)
 ·intro hg1
  refine ak aa (ai isAgg141 aa aa) (.on aa aa (ae hg1)) aa aa (ak aa (aj aa) (.on aa aa (ae hg1)) aa aa (aw aa (ar call185 aa) ((False.elim (by cases hg1):∀ w,Holds B (row c3 [.slice none 0 0] 141::Fr) w→Calls Tryz.prog 185 [.slice none 0 0,.pointer none].toArray w (a8 B (row c3 [.slice none 0 0] 141::Fr) (.bool true)))) (.on aa aa (ae hg1)) aa aa ?_))
  refine ak aa (bj aa) (.on aa aa (ae hg1)) aa aa (kPv (ax aa hg1 aa) aa ?_)
  exact aV aa (aC aa) (cQ hg1)
 ·intro hg1
  refine ao aa (.on aa aa (ag hg1)) aa (ao aa (.on aa aa (ag hg1)) aa (ao aa (.on aa aa (ag hg1)) aa (ao aa (.on aa aa (ag hg1)) aa (kPv (aG aa hg1 aa) aa ?_))))
  exact aV aa (aC aa) (cR hg1)
 refine ad (bG aa (rfl) (aq ?_))
 exact cP results184 (fun w hw=>⟨rfl,hw⟩)
theorem rn(B:World)(Fr:List HP)(bm br n:Nat)(c:Cfg)(hn:n≤1000):
 ∀ w,Holds B (eD bm br n c::eC br n::Fr) w→Calls Tryz.prog 131 [ptr bm].toArray w (a8 B (eD bm br n c::eC br n::Fr) (.slice none 0 0)):=by
 refine ap func131 aa ntmps131 aa (ac (ab (kPa aa aa (ad (ac (ab (kPb (cg zeroValue141 aa) aa fun b3=>(ad (ac (ab (kPv (dt aa aa) aa ?_)))))))))))
 refine kPa aa aa (ad (ac (ac (ab (kPf zC isAgg141 aa aa aa aa (kPv (bB aa runUnderlying141 ⟨_,rfl⟩ rfl) aa (kPm aa aa (ad (aF (cy (ι:=Nat) [17,16,4,3,2,0] (fun k=>(k≤n)) (fun k=>[(18,i64 k)]) (fun k=>row b3 [.slice none 0 0] 141::eD bm br n c::eC br n::Fr) (fun k=>n - k) (0) (Nat.zero_le _) (fun a w st=>st.to ⟨rfl,trivial⟩ (fun hh=>hh)) ?_))))))))))
 rintro k hk0
 try simp only at hk0 ⊢
 refine bZ (σ':=[(18,i64 k),(17,_),(16,_),(4,_),(3,_),(2,_),(0,_)]) (aC aa) (ac (ab (kPv (al aa aa aa) aa (ad (ac ?_)))))
 refine aZ aa (fun h19=> ?_) (fun h19=> ?_)
 ·have hk:k<n:=by simpa using h19
  refine aq (ac (aF (ac (ab (kPv (cj runUnderlying141 sizeOf209 aa aa (by omega) (by omega)) aa ?_)))))
  refine kPv (bM (v:= .pointer none) isAgg209 (show SlR B _ (Value.slice (some (⟨br,0,none⟩:Addr)) n n) (List.replicate n (Value.pointer none)) from SlR.row (b:=br) (by simp) (by simp)) aa (by simp[List.getElem?_replicate,hk])) aa ?_
  refine kPa aa aa (ad (ab (kPm aa aa (kPm aa aa ?_))))
  refine aw aa (kw call184 aa aa) (yV B _ b3) .free aa aa ?_
  refine ad (am [18,17,16,4,3,2,0] rfl (ab (kPv (aL aa aa) aa (kPm aa aa (ad ?_)))))
  exact fun a w st_=>⟨k+1,by omega,by omega,st_.to (aC aa) (fun hh=>hh)⟩
 ·skip
  refine bz (ac (ac (ab (kPf tL isAgg141 aa aa aa aa (kPv (bB aa runUnderlying141 ⟨_,rfl⟩ rfl) aa (kPm aa aa (ad (am [31,30,29,4,3,2] rfl (aF (cy (ι:=Nat) [30,29,4,3,2] (fun k2=>(k2≤0)) (fun k2=>[(31,i64 k2)]) (fun k2=>row b3 [.slice none 0 0] 141::eD bm br n c::eC br n::Fr) (fun k2=>0) (0) (Nat.zero_le _) (fun a w st=>st.to ⟨rfl,trivial⟩ (fun hh=>hh)) ?_))))))))))
  rintro k2 hk20
  try simp only at hk20 ⊢
  refine bZ (σ':=[(31,i64 k2),(30,_),(29,_),(4,_),(3,_),(2,_)]) (aC aa) (ac (ab (kPv (al aa aa aa) aa (ad (ac (bG aa ((by simp)) (bz (ac (ac (ab (kPa aa aa ?_)))))))))))
  refine ad (aF (cy (ι:=Nat) [4,3,2] (fun k3=>(k3≤0)) (fun k3=>[(9,i64 k3)]) (fun k3=>row b3 [.slice none 0 0] 141::eD bm br n c::eC br n::Fr) (fun k3=>0) (0) (Nat.zero_le _) (fun a w st=>st.to ⟨rfl,trivial⟩ (fun hh=>hh)) ?_))
  rintro k3 hk30
  try simp only at hk30 ⊢
  refine bZ (σ':=[(9,i64 k3),(4,_),(3,_),(2,_)]) (aC aa) (ac (ac (ab (kPm aa aa (kPv (ai isAgg141 aa aa) aa (kPv (bB aa runUnderlying141 ⟨_,rfl⟩ rfl) aa (kPv (al aa aa aa) aa (ad (bG aa ((by simp)) (bz (ac ?_)))))))))))
  refine ab (kPv (ai isAgg141 aa aa) aa (kPa aa aa (ad (am [2] rfl (ay ?_)))))
  exact au results131 aa (fun w hw=>⟨rfl,(hw.dp [0])⟩)
theorem xj(B:World)(Fr:List HP)(bm br n:Nat)(c:Cfg)(hn:n≤1000):
 ∀ w,Holds B (eD bm br n c::eC br n::Fr) w→Calls Tryz.prog 77 [ptr bm].toArray w (a8 B (eD bm br n c::eC br n::Fr) (i64 0)):=by
 refine ap func77 aa ntmps77 aa (ac (ab (kPa aa aa (ad (ac (ab (kPa aa aa (ad (ac (ac (ab ?_)))))))))))
 refine kPm aa aa (aw aa (ar call131 aa) (rn B _ bm br n c hn) .free aa aa ?_)
 refine kPv (bB aa runUnderlying141 ⟨_,rfl⟩ rfl) aa (kPm aa aa (ad (aF (cy (ι:=Nat) [8,7,3,2] (fun k=>(k≤0)) (fun k=>[(9,i64 k)]) (fun k=>eD bm br n c::eC br n::Fr) (fun k=>0) (0) (Nat.zero_le _) (fun a w st=>st.to ⟨rfl,trivial⟩ (fun hh=>hh)) ?_))))
 rintro k hk0
 try simp only at hk0 ⊢
 refine bZ (σ':=[(9,i64 k),(8,_),(7,_),(3,_),(2,_)]) (aC aa) (ac (ab (kPv (al aa aa aa) aa (ad (ac (bG aa ((by simp)) (bz (ac (ab (kPm aa aa (kPa aa aa ?_)))))))))))
 refine ad (ay ?_)
 exact au results77 aa (fun w hw=>⟨rfl,hw⟩)
theorem xk(B:World)(Fr:List HP)(bm br n:Nat)(c:Cfg)(hn:n≤1000):
 ∀ w,Holds B (eD bm br n c::eC br n::Fr) w→Calls Tryz.prog 78 [ptr bm].toArray w (a8 B (eD bm br n c::eC br n::Fr) (i64 0)):=by
 refine ap func78 aa ntmps78 aa (ac (ab (kPa aa aa (ad (ac (ab (kPa aa aa (ad (ac (ac (ab ?_)))))))))))
 refine kPf tL isAgg141 aa aa aa aa (kPv (bB aa runUnderlying141 ⟨_,rfl⟩ rfl) aa (kPm aa aa (ad (aF (cy (ι:=Nat) [10,9,3,2] (fun k=>(k≤0)) (fun k=>[(11,i64 k)]) (fun k=>eD bm br n c::eC br n::Fr) (fun k=>0) (0) (Nat.zero_le _) (fun a w st=>st.to ⟨rfl,trivial⟩ (fun hh=>hh)) ?_)))))
 rintro k hk0
 try simp only at hk0 ⊢
 refine bZ (σ':=[(11,i64 k),(10,_),(9,_),(3,_),(2,_)]) (aC aa) (ac (ab (kPv (al aa aa aa) aa (ad (ac (bG aa ((by simp)) (bz (ac (ab (kPm aa aa (kPa aa aa ?_)))))))))))
 refine ad (ay ?_)
 exact au results78 aa (fun w hw=>⟨rfl,hw⟩)
theorem AP(B:World)(Fr:List HP)(bm br n:Nat)(c:Cfg)(hn:n≤1000)(bh:Nat)(h:HpS)(s:Dev)(hW:dY h s)(hst:h.stats s=⟨0,0,0,0,false⟩)(hck:s.check h.c=0):
 ∀ w,Holds B (dB bh h::aB h.bd s::eD bm br n c::eC br n::Fr) w→Calls Tryz.prog 45 [ptr bm,ptr bh].toArray w (a8 B (dB bh h::aB h.bd s::eD bm br n c::eC br n::Fr) (.bool true)):=by
 refine ap func45 aa ntmps45 aa (ac (ab (kPa aa aa (ad (ac (ab (kPm aa aa (aw aa (ar call50 aa) (qx B _ bh h s hW) .free aa aa ?_))))))))
 rw[hst]
 refine kPb (aD zeroValue106 aa) aa fun b5=>(kPs (az (vs:=_) sizeOf106 aa aa aa aa aa) aa (ad (ac (aN (H':=row b5 [i64 0,i64 0,i64 0,i64 0,.bool false] 106::_) (fun w hh=>hh) (aS [3,3,1,1,0] (cM Tryz.mixed (by kernel_rfl) (by kernel_rfl) ?_))))))
 refine kQv (aE (m:=_) zH aa aa) aa (kQv (ai isAgg3 aa aa) aa (kQm aa aa (kQv (aK aa) aa (kQv (aE (m:=_) zB aa aa) aa (kQv (ai isAgg3 aa aa) aa (kQv (al aa aa aa) aa (kQm aa aa ?_)))))))
 apply na (tp:=21) (t:=15) (σ1:=[(15,_),(5,_),(4,_),(0,_),(1,_)]) 6 rfl (aC rfl)
 ·intro hg1
  refine bg aa (aE (m:=_) zG aa aa) (.on aa aa (ae hg1)) aa (bg aa (ai isAgg3 aa aa) (.on aa aa (ae hg1)) aa (bg aa (aj aa) (.on aa aa (ae hg1)) aa (bF aa (ar call77 aa) (xj B _ bm br n c hn) (.on aa aa (ae hg1)) aa ?_)))
  refine bg aa (al aa aa aa) (.on aa aa (ae hg1)) aa (kQv (ax aa hg1 aa) aa ?_)
  exact eQ aa (aC aa) (cQ hg1)
 ·intro hg1
  refine aW aa (.on aa aa (ag hg1)) aa (aW aa (.on aa aa (ag hg1)) aa (aW aa (.on aa aa (ag hg1)) aa (aW aa (.on aa aa (ag hg1)) aa (aW aa (.on aa aa (ag hg1)) aa (kQv (aG aa hg1 aa) aa ?_)))))
  exact eQ aa (aC aa) (cR hg1)
 refine kQm aa aa ?_
 apply na (tp:=28) (t:=22) (σ1:=[(22,_),(5,_),(4,_),(0,_),(1,_)]) 6 rfl (aC rfl)
 ·intro hg2
  refine bg aa (aE (m:=_) zF aa aa) (.on aa aa (ae hg2)) aa (bg aa (ai isAgg3 aa aa) (.on aa aa (ae hg2)) aa (bg aa (aj aa) (.on aa aa (ae hg2)) aa (bF aa (ar call78 aa) (xk B _ bm br n c hn) (.on aa aa (ae hg2)) aa ?_)))
  refine bg aa (al aa aa aa) (.on aa aa (ae hg2)) aa (kQv (ax aa hg2 aa) aa ?_)
  exact eQ aa (aC aa) (cQ hg2)
 ·intro hg2
  refine aW aa (.on aa aa (ag hg2)) aa (aW aa (.on aa aa (ag hg2)) aa (aW aa (.on aa aa (ag hg2)) aa (aW aa (.on aa aa (ag hg2)) aa (aW aa (.on aa aa (ag hg2)) aa (kQv (aG aa hg2 aa) aa ?_)))))
  exact eQ aa (aC aa) (cR hg2)
 refine kQm aa aa ?_
 apply na (tp:=38) (t:=29) (σ1:=[(29,_),(5,_),(4,_),(0,_),(1,_)]) 9 rfl (aC rfl)
 ·intro hg3
  refine bg aa (aE (m:=_) zE aa aa) (.on aa aa (ae hg3)) aa (bg aa (ai isAgg3 aa aa) (.on aa aa (ae hg3)) aa (bg aa (aj aa) (.on aa aa (ae hg3)) aa (bg aa (aK aa) (.on aa aa (ae hg3)) aa (bg aa (aE (m:=_) zz aa aa) (.on aa aa (ae hg3)) aa (bg aa (ai isAgg142 aa aa) (.on aa aa (ae hg3)) aa (bg aa (bB aa runUnderlying142 ⟨_,rfl⟩ rfl) (.on aa aa (ae hg3)) aa (bg aa (al aa aa aa) (.on aa aa (ae hg3)) aa (kQv (ax aa hg3 aa) aa ?_))))))))
  exact eQ aa (aC aa) (cQ hg3)
 ·intro hg3
  refine aW aa (.on aa aa (ag hg3)) aa (aW aa (.on aa aa (ag hg3)) aa (aW aa (.on aa aa (ag hg3)) aa (aW aa (.on aa aa (ag hg3)) aa (aW aa (.on aa aa (ag hg3)) aa (aW aa (.on aa aa (ag hg3)) aa (aW aa (.on aa aa (ag hg3)) aa (aW aa (.on aa aa (ag hg3)) aa (kQv (aG aa hg3 aa) aa ?_))))))))
  exact eQ aa (aC aa) (cR hg3)
 refine kQm aa aa ?_
 apply na (tp:=47) (t:=39) (σ1:=[(39,_),(4,_),(1,_)]) 8 rfl (aC rfl)
 ·intro hg4
  refine bg aa (aE (m:=_) zD aa aa) (.on aa aa (ae hg4)) aa (bg aa (ai isAgg4 aa aa) (.on aa aa (ae hg4)) aa (bg aa (aj aa) (.on aa aa (ae hg4)) aa (bg aa (aK aa) (.on aa aa (ae hg4)) aa (bg aa (aE (m:=_) zA aa aa) (.on aa aa (ae hg4)) aa (bg aa (ai isAgg4 aa aa) (.on aa aa (ae hg4)) aa (bg aa (zP runUnderlying4 aa aa aa) (.on aa aa (ae hg4)) aa (kQv (ax aa hg4 aa) aa ?_)))))))
  exact eQ aa (aC aa) (cQ hg4)
 ·intro hg4
  refine aW aa (.on aa aa (ag hg4)) aa (aW aa (.on aa aa (ag hg4)) aa (aW aa (.on aa aa (ag hg4)) aa (aW aa (.on aa aa (ag hg4)) aa (aW aa (.on aa aa (ag hg4)) aa (aW aa (.on aa aa (ag hg4)) aa (aW aa (.on aa aa (ag hg4)) aa (kQv (aG aa hg4 aa) aa ?_)))))))
  exact eQ aa (aC aa) (cR hg4)
 refine kQm aa aa ?_
 apply na (tp:=52) (t:=48) (σ1:=[(48,_),(4,_)]) 4 rfl ⟨rfl,rfl,trivial⟩
 ·intro hg5
  refine bg aa (aj aa) (.on aa aa (ae hg5)) aa (bF aa (ar call79 aa) (AH [2,2] [2,2] (uR B _ bh h s hW)) (.on aa aa (ae hg5)) aa ?_)
  refine bg aa (al aa aa aa) (.on aa aa (ae hg5)) aa (kQv (ax aa hg5 aa) aa ?_)
  exact eQ aa ⟨rfl,rfl,trivial⟩ (cQ hg5)
 ·intro hg5
  refine aW aa (.on aa aa (ag hg5)) aa (aW aa (.on aa aa (ag hg5)) aa (aW aa (.on aa aa (ag hg5)) aa (kQv (aG aa hg5 aa) aa ?_)))
  exact eQ aa ⟨rfl,rfl,trivial⟩ (cR hg5)
 refine kQa aa aa (ce (ay ?_))
 exact au results45 aa (fun w hw=>⟨by rw[hck];rfl,((hw.dp [4]).pk [2,2])⟩)
def osz(m:Int→Int)(k:Int):Int:=(unp (m k)).1+1
def orf(m:Int→Int)(k:Int):Int:=(unp (m k)).2.1
theorem ig(m:Int→Int)(k:Int):1≤osz m k∧osz m k≤65∧0≤orf m k∧orf m k+1≤osz m k:=by
 have:=p4 (m k);unfold osz orf;omega
def iy(m:Int→Int):Int→List Int→Int→Prop
 | a,[],e=>a=e
 | a,k::t,e=>k=a∧(unp (m a)).2.2=true∧iy m (a+osz m a) t e
theorem iy.le{m:Int→Int}:∀ {L:List Int} {a e:Int},iy m a L e→a≤e
 | [],a,e,h=>Int.le_of_eq h
 | k::t,a,e,h=>by have:=h.2.2.le;have:=ig m a;omega
theorem iy.mem{m:Int→Int}:∀ {L:List Int} {a e k:Int},iy m a L e→k∈L→a≤k∧k+osz m k≤e∧(unp (m k)).2.2=true
 | [],_,_,_,_,h=>by cases h
 | x::t,a,e,k,h,hk=>by
   obtain⟨rfl,h2,h3⟩:=h
   have:=ig m x
   rcases List.mem_cons.1 hk with rfl | hk
   ·exact⟨Int.le_refl _,h3.le,h2⟩
   ·have:=iy.mem h3 hk;exact⟨by omega,this.2⟩
theorem iy.disj{m:Int→Int}:∀ {L:List Int} {a e k k':Int},iy m a L e→k∈L→k'∈L→k<k'→k+osz m k≤k'
 | [],_,_,_,_,_,h,_,_=>by cases h
 | x::t,a,e,k,k',h,hk,hk',hlt=>by
   obtain⟨rfl,h2,h3⟩:=h
   rcases List.mem_cons.1 hk with e1 | hk2
   ·rcases List.mem_cons.1 hk' with e2 | hk3
    ·omega
    ·subst e1;exact(iy.mem h3 hk3).1
   ·rcases List.mem_cons.1 hk' with e2 | hk3
    ·have:=(iy.mem h3 hk2).1;have:=ig m x;omega
    ·exact iy.disj h3 hk2 hk3 hlt
structure pL(c:Cfg)(b:Blk)(m:Int→Int)(L:List Int):Prop where
 tile:iy m (b.place c 0) L (b.place c b.used)
 names:∀ k∈L,∀ i,0≤i→i<orf m k→m (k+1+i)=0∨m (k+1+i)∈L
 roots:∀ w∈b.rts,w=0∨w∈L
inductive Rch (m:Int→Int) (ws:List Int):Int→Prop
 | word {w:Int}:w∈ws→w≠0→Rch m ws w
 | name {k i:Int}:Rch m ws k→0≤i→i<orf m k→m (k+1+i)≠0→Rch m ws (m (k+1+i))
theorem Cr{c:Cfg}(hc:bx c){b:Blk}(hb:gg c b){m:Int→Int}{L:List Int}(h:pL c b m L){k:Int}(hk:k∈L):c.frm b.act≤k∧k+osz m k≤c.frm b.act+b.used∧24<k∧k<20000:=by
 have h1:=h.tile.mem hk
 have h2:=hb.act;have h3:=hb.used
 have h4:=iE hc (k:=b.act) (by omega)
 have:=ig m k;have:=hc.s1
 have h5:(2 - b.act)*c.space=c.space∨(2 - b.act)*c.space=2*c.space:=by
  rcases (by omega:b.act=0∨b.act=1) with e | e<;>rw[e]
  ·exact .inr (by omega)
  ·exact .inl (by omega)
 unfold Blk.place at h1
 omega
theorem rx{c:Cfg}(hc:bx c){b:Blk}(hb:gg c b){s:Dev}{L:List Int}(h:pL c b s.load L){k:Int}(hk:k∈L):s.objOf c b k=((osz s.load k - 1,orf s.load k,k),0)∧b.has c k=true:=by
 have h1:=h.tile.mem hk
 have h2:=Cr hc hb h hk
 have h5:=ig s.load k
 have hh:b.has c k=true:=by unfold Blk.has;simp;omega
 refine⟨?_,hh⟩
 unfold Dev.objOf
 rw[if_neg (by rw[hh];simp;omega),if_neg (by rw[h1.2.2];unfold osz at h1;simp;omega)]
 unfold osz orf
 simp
def CW(m:Int→Int):Int→List (Int×Int)→Int→Prop
 | a,[],e=>a=e
 | a,q::t,e=>q.2=a∧CW m (a+osz m q.1) t e
def tr(W:List (Int×Int))(w:Int):Int:=(bJ W w).getD 0
structure CI(c:Cfg)(b:Blk)(m0:Int→Int)(L:List Int)(lo:Int)(ws:List Int)(S:bE)(m:Int→Int)(p:Int):Prop where
 cc:S.c=c
 bb:S.b=b
 tt:S.to_=lo
 nd:(S.went.map Prod.fst).Nodup
 inL:∀ q∈S.went,q.1∈L
 offs:CW m0 lo S.went S.free
 out:∀ j,j<lo∨S.free≤j→m j=m0 j
 hd:∀ q∈S.went,m q.2=m0 q.1
 cp:∀ q∈S.went,∀ j,0≤j→j+1<osz m0 q.1→m (q.2+1+j)=if j<orf m0 q.1∧q.2+1+j<p then tr S.went (m0 (q.1+1+j)) else m0 (q.1+1+j)
 dn:∀ q∈S.went,∀ j,0≤j→j<orf m0 q.1→q.2+1+j<p→m0 (q.1+1+j)=0∨m0 (q.1+1+j)∈S.went.map Prod.fst
 rc:∀ q∈S.went,Rch m0 ws q.1
 u:∀ x,0≤m x∧m x<18446744073709551616
section
variable {c:Cfg} {b:Blk} {m0 m:Int→Int} {L ws:List Int} {lo hi p:Int} {S:bE} {J:Dev→Prop} {s:Dev}
end
section
variable {c:Cfg} {b:Blk} {m0 m:Int→Int} {L ws:List Int} {lo hi p:Int} {S:bE} {J:Dev→Prop} {s:Dev}
structure SI(c:Cfg)(b:Blk)(m0:Int→Int)(L:List Int)(lo:Int)(ws:List Int)(S:bE)(s:Dev):Prop where
 ci:CI c b m0 L lo ws S s.load S.scan
 bd:∃ W V,S.went=W++V∧CW m0 lo W S.scan
 td:∃ pre,ws=pre++S.todo∧∀ w∈pre,w=0∨w∈S.went.map Prod.fst
 dn:S.done=false
def Dur(lo hi:Int)(s:Dev):Prop:=∀ i:Nat,lo≤i→i<hi→s.kept i=s.now i∧s.q (i / 8)=none
structure DI(c:Cfg)(b:Blk)(m0:Int→Int)(L:List Int)(lo:Int)(ws:List Int)(S:bE)(s:Dev):Prop where
 ci:CI c b m0 L lo ws S s.load S.free
 ws:∀ w∈ws,w=0∨w∈S.went.map Prod.fst
 dur:Dur lo S.free s
end
theorem yP:((List.range 65).all fun w=>(List.range (w+1)).all fun r=>unp (et w r)==((w:Int),(r:Int),true))=true:=by kernel_rfl
theorem r7{w r:Int}(h:0≤r∧r≤w∧w≤64):unp (et w r)=(w,r,true):=by
 have h1:=yP
 rw[List.all_eq_true] at h1
 have h2:=h1 w.toNat (List.mem_range.2 (by omega))
 rw[List.all_eq_true] at h2
 have h3:=h2 r.toNat (List.mem_range.2 (by omega))
 rw[beq_iff_eq,Int.toNat_of_nonneg (by omega),Int.toNat_of_nonneg (by omega)] at h3
 exact h3
theorem iy.congr{m m':Int→Int}:∀ {L:List Int} {a e:Int},iy m a L e→(∀ k∈L,m' k=m k)→iy m' a L e
 | [],_,_,h,_=>h
 | x::t,a,e,h,hm=>by
   obtain⟨rfl,h2,h3⟩:=h
   have e1:=hm x (List.mem_cons_self ..)
   refine⟨rfl,by rw[e1];exact h2,?_⟩
   rw[show osz m' x=osz m x by unfold osz;rw[e1]]
   exact h3.congr fun k hk=>hm k (List.mem_cons_of_mem _ hk)
theorem iy.snoc{m:Int→Int}:∀ {L:List Int} {a e:Int},iy m a L e→(unp (m e)).2.2=true→iy m a (L++[e]) (e+osz m e)
 | [],a,e,h,h1=>by cases h;exact⟨rfl,h1,rfl⟩
 | x::t,a,e,h,h1=>⟨h.1,h.2.1,h.2.2.snoc h1⟩
structure HL(c:Cfg)(N:Nat)(k0:Nat→Int)(s:Dev):Prop where
 u:U64 s
 lim:s.pow.lim<0
 n:s.n=N
 kept:s.kept=k0
 q:s.q=fun _=>none
 low:∀ x:Nat,(x:Int)<c.active→s.now x=k0 x
structure Fi(c:Cfg)(N:Nat)(k0:Nat→Int)(s:Dev)(out:List Int)(u:Int):Prop where
 h:HL c N k0 s
 act:s.load c.active=0
 used:s.load (c.active+1)=u
 u0:0≤u∧u≤c.space
 tile:iy s.load (c.frm 0) out (c.frm 0+u)
 names:∀ k∈out,∀ i,0≤i→i<orf s.load k→s.load (k+1+i)=0∨s.load (k+1+i)∈out
 roots:∀ i:Nat,(i:Int)<c.roots→s.load (c.root i)=0∨s.load (c.root i)∈out
theorem DD{c:Cfg}(hc:bx c){N:Nat}(hN:(N:Int)=c.words):c.frm 0+c.space≤N∧c.active+2+c.roots≤c.frm 0∧24<c.active∧c.frm 0+c.space≤20000:=by
 have hfb:=iE hc (k:=0) (by omega)
 have h1:=hc.act
 have:=hc.s1;have:=hc.r1;have:=hc.l1
 omega
theorem Cy{c:Cfg}(hc:bx c){N:Nat}(hN:(N:Int)=c.words){s:Dev}(h:Fmt c N s)(hu:U64 s):Fi c N s.kept s [] 0:=by
 have hf0:=DD hc hN
 have hr:=hc.r1
 have hs:=hc.s1
 have hb:∀ x:Int,c.active≤x→x<c.root c.roots→s.load x=0:=fun x h1 h2=>by
  simp only[Cfg.root] at h2
  unfold Dev.load
  split
  ·exact h.st.block x.toNat (by omega) (by simp only[Cfg.root];omega)
  ·rfl
 refine⟨⟨hu,h.lim,h.n,rfl,h.calm.q,fun x _=>by rw[h.calm.kept]⟩,hb _ (by omega) (by simp only[Cfg.root];omega),hb _ (by omega) (by simp only[Cfg.root];omega),by omega,by show c.frm 0=c.frm 0+0;omega,fun _ h=>(by cases h),fun i hi=> .inl (hb _ (by simp only[Cfg.root];omega) (by simp only[Cfg.root];omega))⟩
end Go.Proofs.YtoakdoeajpjgkaaGreatDoor
