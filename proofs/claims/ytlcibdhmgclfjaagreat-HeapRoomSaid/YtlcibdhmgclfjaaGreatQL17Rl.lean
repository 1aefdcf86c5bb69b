/- Part of a law's texts. Conditions: none. -/
import Derived.Test.YtlcibdhmgclfjaaGreatQL17Rk
open Go.Proofs.Tryz
set_option linter.all false
namespace Go.Proofs.YtlcibdhmgclfjaaGreat
open Go
def itl{α ι:Type}(st:α→ι→Bool×ι):List α→ι→Bool×ι
 | [],x=>(true,x)
 | a::t,x=>if (st a x).1=true then itl st t (st a x).2 else (false,(st a x).2)
def lst{ι:Type}(r:Loop)(cd:ι→Code)(y:Bool×ι):Loop:=if y.1=true then r else {r with state:= .done,pending:=some (cd y.2)}
theorem sV(B:World)(H:List HP)(o:du)(bd:Nat):
 ∀ w,Holds B H w→Calls Tryz.prog 173 [iF o,ptr bd].toArray w (Ret B (fun v H'=>∃ b1 b2,v= .func (.func 186) [].toArray [ptr b1,ptr b2].toArray∧H'=row b2 [ptr bd] 28::row b1 [i64 o.1,i64 o.2.1,i64 o.2.2] 105::H) (fun _ _=>False)):=by
 refine au func173 aa ntmps173 aa (ac (ab (aC aa (bx aa) .free aa aa ?_)))
 rintro _ _ ⟨b2,rfl,rfl⟩
 refine aC aa (dA aa aa) .free aa aa ?_
 rintro _ _ ⟨b3,rfl,rfl⟩
 refine kPa aa aa (ad (ac (ab (kPv (dm aa aa) aa (kPa aa aa (ad (az ?_)))))))
 exact ax results173 aa (fun w hw=>⟨_,⟨_,_,rfl,rfl⟩,hw⟩)
theorem AQ(B:World)(l f b1 b2 bd:Nat)(o:du)(ho:mu o)(s:Dev)(ι:Type)(r:Loop)(hrf:r.fn=f)(hrp:r.params.size=2)(I:ι→Prop)(Hx:ι→List HP)(cd:ι→Code)(st:(Int×Int)→ι→Bool×ι)(x0:ι)(h0:I x0)(hround:∀ (p:Int×Int) (x:ι),I x→I (st p x).2∧∀ w,Holds B (blk l (.loop r)::row b2 [ptr bd] 28::row b1 [i64 o.1,i64 o.2.1,i64 o.2.2] 105::aG bd s::Hx x) w→RoundIn (Wd (cxF f)) 0 Tryz.prog l f ((r.params.zip [i64 p.1,i64 p.2].toArray).foldl (fun tmps (t,a)=>tmps.setIfInBounds t a) r.tmps) r.assign r.body w (Ret B (fun rv H'=>rv= .bool (st p x).1∧H'=blk l (.loop (lst r cd (st p x)))::row b2 [ptr bd] 28::row b1 [i64 o.1,i64 o.2.1,i64 o.2.2] 105::aG bd s::Hx (st p x).2) (fun _ _=>False))):
 ∀ w,Holds B (blk l (.loop r)::row b2 [ptr bd] 28::row b1 [i64 o.1,i64 o.2.1,i64 o.2.2] 105::aG bd s::Hx x0) w→Calls Tryz.prog 186 [.func (.yield l) #[] #[],ptr b1,ptr b2].toArray w (Ret B (fun _ H'=>I (itl st (s.objNames o o.2.1.toNat 0) x0).2∧H'=blk l (.loop (lst r cd (itl st (s.objNames o o.2.1.toNat 0) x0)))::row b2 [ptr bd] 28::row b1 [i64 o.1,i64 o.2.1,i64 o.2.2] 105::aG bd s::Hx (itl st (s.objNames o o.2.1.toNat 0) x0).2) (fun _ _=>False)):=by
 refine au func186 aa ntmps186 aa ?_
 have ho1:=ho.w
 have ho2:=ho.r
 have ho3:=ho.at_
 refine ac (ab (kPv (aj (m:=_) fD aa aa) aa (kPv (aj (m:=_) fP aa aa) aa (kPv (ae isAgg3 aa aa) aa (kPm aa aa (ad (aO (dY (ι:=Nat×ι) (fun i=>(i.1:Int)≤o.2.1∧I i.2∧itl st (s.objNames o o.2.1.toNat 0) x0=itl st (s.objNames o (o.2.1.toNat - i.1) i.1) i.2) (fun i=>[(0,.func (.yield l) #[] #[]),(1,ptr b1),(2,ptr b2),(8,i64 o.2.1),(9,i64 i.1)]) (fun i=>blk l (.loop r)::row b2 [ptr bd] 28::row b1 [i64 o.1,i64 o.2.1,i64 o.2.2] 105::aG bd s::Hx i.2) (fun i=>o.2.1.toNat - i.1) (0,x0) ⟨by simp only;omega,h0,rfl⟩ (fun a w st=>st.to ⟨rfl,rfl,rfl,rfl,rfl,trivial⟩ id) ?_))))))))
 rintro⟨k,x⟩ ⟨hk1,hIx,hinv⟩
 simp only at hk1 hIx hinv ⊢
 refine ac (ab (kPv (an aa aa aa) aa (ad (ac ?_))))
 refine aW aa (fun h10=> ?_) (fun h10=> ?_)
 ·have hk:(k:Int)<o.2.1:=by simpa using h10
  refine ay (ac (aO (ac (ab (kPm aa aa (kPa aa aa (ad (ac (ab (kPv (ae isAgg28 aa aa) aa (kPv (aj (m:=_) lY aa aa) aa ?_)))))))))))
  refine kPv (ae isAgg3 aa aa) aa (kPv (aS aa aa) aa (kPm aa aa (kPv (aS aa aa) aa (aE aa (aA call71 aa) (bU (q:=aG) (fun Fr=>cH _ Fr _ _ _)) .free aa aa ?_))))
  refine kPv (bP runUnderlying26 runUnderlying3 aa) aa (kPa aa aa (ad (ao [5,4,9,8,0,1,2] rfl (ac ?_))))
  rcases Bool.eq_false_or_eq_true (((IntKind.i64.wrap (s.load (o.2.2+1+(k:Int)))) !=0)) with hs4 | hs4
  ·skip
   have hto:(IntKind.i64.wrap (s.load (o.2.2+1+(k:Int))))≠0:=by simpa using hs4
   have hnm:s.objNames o (o.2.1.toNat - k) k=((k:Int),(IntKind.i64.wrap (s.load (o.2.2+1+(k:Int)))))::s.objNames o (o.2.1.toNat - (k+1)) ((k:Int)+1):=by
    rw[show o.2.1.toNat - k=(o.2.1.toNat - (k+1))+1 by omega]
    simp only[Dev.objNames]
    rw[if_pos hto]
   refine ab (kPm aa aa (kPv (an aa aa aa) aa (kPm aa aa (aq aa (ap aa) (.on aa aa (ah hs4)) aa aa (aq aa (ap aa) (.on aa aa (ah hs4)) aa aa (aq aa (ap aa) (.on aa aa (ah hs4)) aa aa ?_))))))
   refine iW (f:=f) aa aa (fun w hw=>hw) (by rw[hrp];rfl) hrf (hround ((k:Int),(IntKind.i64.wrap (s.load (o.2.2+1+(k:Int))))) x hIx).2 (.on aa aa (ah hs4)) aa ?_ ?_
   rotate_left
   ·rintro _ _ ⟨⟩
   rintro _ _ ⟨rfl,rfl⟩
   refine aq aa (bF aa) (.on aa aa (ah hs4)) aa aa (kPv (aH aa hs4 aa) aa (ad (ao [28,9,8,0,1,2] rfl ?_)))
   refine aW aa (fun h28=> ?_) (fun h28=> ?_)
   ·have hg:(st ((k:Int),(IntKind.i64.wrap (s.load (o.2.2+1+(k:Int))))) x).1=false:=by simpa using h28
    have hres:itl st (s.objNames o o.2.1.toNat 0) x0=st ((k:Int),(IntKind.i64.wrap (s.load (o.2.2+1+(k:Int))))) x:=by rw[hinv,hnm];simp only[itl];rw[if_neg (by rw[hg];decide)];exact Prod.ext hg.symm aa
    refine az ?_
    exact lK results186 (fun w hh=>⟨_,⟨by rw[hres];exact(hround ((k:Int),(IntKind.i64.wrap (s.load (o.2.2+1+(k:Int))))) x hIx).1,by rw[hres]⟩,hh⟩)
   ·have hg:(st ((k:Int),(IntKind.i64.wrap (s.load (o.2.2+1+(k:Int))))) x).1=true:=by simpa using h28
    have hlr:lst r cd (st ((k:Int),(IntKind.i64.wrap (s.load (o.2.2+1+(k:Int))))) x)=r:=by unfold lst;rw[if_pos hg]
    refine ay (ab (kPv (aS aa aa) aa (kPm aa aa (ad ?_))))
    exact fun a w st_=>⟨(k+1,(st ((k:Int),(IntKind.i64.wrap (s.load (o.2.2+1+(k:Int))))) x).2),⟨by simp only;omega,(hround ((k:Int),(IntKind.i64.wrap (s.load (o.2.2+1+(k:Int))))) x hIx).1,by rw[hinv,hnm];simp only[itl];rw[if_pos hg];rfl⟩,by simp only;omega,st_.to ⟨rfl,rfl,rfl,rfl,rfl,trivial⟩ (fun hh=>by rw[hlr] at hh;exact hh)⟩
  ·skip
   have hto:(IntKind.i64.wrap (s.load (o.2.2+1+(k:Int))))=0:=by simpa using hs4
   have hnm:s.objNames o (o.2.1.toNat - k) k=s.objNames o (o.2.1.toNat - (k+1)) ((k:Int)+1):=by
    rw[show o.2.1.toNat - k=(o.2.1.toNat - (k+1))+1 by omega]
    simp only[Dev.objNames]
    rw[if_neg (by omega)]
   refine ab (kPm aa aa (kPv (an aa aa aa) aa (kPm aa aa (ar aa (.on aa aa (ai hs4)) aa (ar aa (.on aa aa (ai hs4)) aa (ar aa (.on aa aa (ai hs4)) aa (ar aa (.on aa aa (ai hs4)) aa (ar aa (.on aa aa (ai hs4)) aa (kPv (aL aa hs4 aa) aa (ad (ao [28,9,8,0,1,2] rfl ?_)))))))))))
   refine cf aa (rfl) (ay (ab (kPv (aS aa aa) aa (kPm aa aa (ad ?_)))))
   exact fun a w st_=>⟨(k+1,x),⟨by simp only;omega,hIx,by rw[hinv,hnm];rfl⟩,by simp only;omega,st_.to ⟨rfl,rfl,rfl,rfl,rfl,trivial⟩ id⟩
 ·have hk:¬ (k:Int)<o.2.1:=by simpa using h10
  refine bT ?_
  exact cS results186 (fun w hh=>⟨_,⟨by rw[hinv,show o.2.1.toNat - k=0 by omega];exact hIx,by rw[hinv,show o.2.1.toNat - k=0 by omega];rfl⟩,hh⟩)
theorem E3{α ι:Type}{st:α→ι→Bool×ι}{a:α}{x:ι}:itl st [a] x=st a x:=by
 simp only[itl]
 split
 ·rename_i h;exact Prod.ext h.symm aa
 ·rename_i h;exact Prod.ext (Bool.eq_false_iff.2 h).symm aa
theorem CU{α ι:Type}{st:α→ι→Bool×ι}{a:α}{t:List α}{x:ι}(h:(st a x).1=false):itl st (a::t) x=st a x:=by
 simp only[itl]
 rw[if_neg (by rw[h];decide)]
 exact Prod.ext h.symm aa
theorem yl{s:Dev}{c:Cfg}{b:Blk}{a:Int}:0≤(s.objOf c b a).1.1∧(s.objOf c b a).1.1≤64:=by
 have h:=sE (s.load a)
 unfold Dev.objOf
 split
 ·decide
 split
 ·decide
 ·exact⟨h.1,h.2.1⟩
theorem AR{a:Int}(h:0≤a∧a≤1000000):mu (0,0,a):=⟨⟨Int.le_refl 0,(by decide:(0:Int)≤64)⟩,⟨Int.le_refl 0,Int.le_refl 0⟩,h⟩
theorem vn{s:Dev}{c:Cfg}{b:Blk}{at_:Int}(h:b.place c b.used≤at_):∀ f,s.objs c b f at_=[]
 | 0=>rfl
 | f+1=>by simp only[Dev.objs];rw[if_pos h]
theorem p8(B:World)(H:List HP)(bd:Nat)(c:Cfg)(b:Blk)(sv:Value)(hsv:aV sv=true):
 ∀ w,Holds B H w→Calls Tryz.prog 136 [ptr bd,eO c,mW b sv].toArray w (Ret B (fun v H'=>∃ b3 b4 b5,v= .func (.func 170) [].toArray [ptr b5,ptr b4,ptr b3].toArray∧H'=row b5 [i64 b.act,i64 b.used,sv] 95::row b4 [i64 c.log,i64 c.roots,i64 c.space] 40::row b3 [ptr bd] 28::H) (fun _ _=>False)):=by
 refine au func136 aa ntmps136 aa (ac (ab (aC aa (dA aa aa) .free aa aa ?_)))
 rintro _ _ ⟨b3,rfl,rfl⟩
 refine aC aa (bx aa) .free aa aa ?_
 rintro _ _ ⟨b4,rfl,rfl⟩
 refine aC aa (bx aa) .free aa aa ?_
 rintro _ _ ⟨b5,rfl,rfl⟩
 refine kPa aa aa (ad (ac (ab (kPv (dm aa aa) aa (kPa aa aa (ad (ao [6] rfl (az ?_))))))))
 exact ax results136 aa (fun w hw=>⟨_,⟨_,_,_,rfl,rfl⟩,hw⟩)
theorem uM(B:World)(E:List HP)(l f b3 b4 b5 bd:Nat)(c:Cfg)(hc:bC c)(b:Blk)(sv:Value)(hb:fg c b)(hsv:aV sv=true)(s:Dev)(ι:Type)(r:Loop)(hrf:r.fn=f)(hrp:r.params.size=2)(I:ι→Prop)(Hx:ι→List HP)(cd:ι→Code)(st:(du×Int)→ι→Bool×ι)(x0:ι)(h0:I x0)(hround:∀ (p:du×Int) (x:ι),mu p.1→I x→I (st p x).2∧∀ (E:List HP) w,Holds B (blk l (.loop r)::row b5 [i64 b.act,i64 b.used,sv] 95::row b4 [i64 c.log,i64 c.roots,i64 c.space] 40::row b3 [ptr bd] 28::aG bd s::(Hx x++E)) w→RoundIn (Wd (cxF f)) 0 Tryz.prog l f ((r.params.zip [iF p.1,i64 p.2].toArray).foldl (fun tmps (t,a)=>tmps.setIfInBounds t a) r.tmps) r.assign r.body w (Ret B (fun rv H'=>rv= .bool (st p x).1∧H'=blk l (.loop (lst r cd (st p x)))::row b5 [i64 b.act,i64 b.used,sv] 95::row b4 [i64 c.log,i64 c.roots,i64 c.space] 40::row b3 [ptr bd] 28::aG bd s::(Hx (st p x).2++E)) (fun _ _=>False))):
 ∀ w,Holds B (blk l (.loop r)::row b5 [i64 b.act,i64 b.used,sv] 95::row b4 [i64 c.log,i64 c.roots,i64 c.space] 40::row b3 [ptr bd] 28::aG bd s::(Hx x0++E)) w→Calls Tryz.prog 170 [.func (.yield l) #[] #[],ptr b5,ptr b4,ptr b3].toArray w (Ret B (fun _ H'=>I (itl st (s.objs c b (b.used.toNat+1) (b.place c 0)) x0).2∧H'=blk l (.loop (lst r cd (itl st (s.objs c b (b.used.toNat+1) (b.place c 0)) x0)))::row b5 [i64 b.act,i64 b.used,sv] 95::row b4 [i64 c.log,i64 c.roots,i64 c.space] 40::row b3 [ptr bd] 28::aG bd s::(Hx (itl st (s.objs c b (b.used.toNat+1) (b.place c 0)) x0).2++E)) (fun _ _=>False)):=by
 refine au func170 aa ntmps170 aa ?_
 have hb1:=hb.act
 have hb2:=hb.used
 have hcs:=hc.s2
 have hfb:=gE hc (k:=b.act) (by omega)
 have hpl:=yi hc hb hb2
 have hp0:b.place c 0=c.frm b.act+0:=rfl
 have hp1:b.place c b.used=c.frm b.act+b.used:=rfl
 refine ac (cK Tryz.mixed (by kernel_rfl) (by kernel_rfl) ?_)
 refine kQv (am isAgg95 sizeOf95 aa aa) aa ?_
 refine kQv (am isAgg40 sizeOf40 aa aa) aa ?_
 refine bH aa (aA call112 aa) (je _ _ c hc b sv hb hsv _ (by omega)) .free aa ?_
 refine kQv (am isAgg95 sizeOf95 aa aa) aa ?_
 refine kQv (am isAgg40 sizeOf40 aa aa) aa ?_
 refine kQv (aj (m:=_) fj aa aa) aa (kQv (ae isAgg3 aa aa) aa (bH aa (aA call112 aa) (je _ _ c hc b sv hb hsv _ (by omega)) .free aa ?_))
 refine kQa aa aa (kQa aa aa (bR (ao [6,5,0,1,2,3] rfl (aO (dY (ι:=Int×Nat×ι) (fun i=>I i.2.2∧(0≤i.1∧i.1≤100000)∧b.place c b.used - i.1<i.2.1∧itl st (s.objs c b (b.used.toNat+1) (b.place c 0)) x0=itl st (s.objs c b i.2.1 i.1) i.2.2) (fun i=>[(0,.func (.yield l) #[] #[]),(1,ptr b5),(2,ptr b4),(3,ptr b3),(5,i64 i.1),(6,i64 (b.place c b.used))]) (fun i=>blk l (.loop r)::row b5 [i64 b.act,i64 b.used,sv] 95::row b4 [i64 c.log,i64 c.roots,i64 c.space] 40::row b3 [ptr bd] 28::aG bd s::(Hx i.2.2++E)) (fun i=>i.2.1) (b.place c 0,b.used.toNat+1,x0) ⟨h0,by simp only;omega,by simp only;omega,rfl⟩ (fun a w st=>st.to ⟨rfl,rfl,rfl,rfl,rfl,rfl,trivial⟩ id) ?_)))))
 rintro⟨a,n,x⟩ ⟨hIx,ha1,ha2,hinv⟩
 simp only at hIx ha1 ha2 hinv ⊢
 refine ac (ac (ab (kPm aa aa (kPm aa aa (kPv (an aa aa aa) aa (ad ?_))))))
 refine aW aa (fun h19=> ?_) (fun h19=> ?_)
 ·have hk:a<b.place c b.used:=by simpa using h19
  obtain⟨n,rfl⟩:∃ m,n=m+1:=⟨n - 1,by omega⟩
  refine ay (aO (ac (ab (kPv (ae isAgg28 aa aa) aa (kPv (am isAgg40 sizeOf40 aa aa) aa ?_)))))
  refine kPv (am isAgg95 sizeOf95 aa aa) aa ?_
  refine kPm aa aa (aE aa (aA call122 aa) (bU (q:=aG) (fun Fr=>lL _ Fr _ _ c hc b sv hb hsv a (by omega))) .free aa aa ?_)
  refine kPm aa aa (kPv (aB aa aa) aa (kPv (aB aa aa) aa (aC aa (aN zeroValue105 aa) .free aa aa ?_)))
  rintro _ _ ⟨b7,rfl,rfl⟩
  refine aD aa (aI (vs:=_) sizeOf105 aa aa aa aa aa) .free aa ?_
  rintro _ _ rfl
  refine kPa aa aa (ad (ao [8,7,6,5,0,1,2,3] rfl (ac (ac (ab (kPm aa aa (kPv (an aa aa aa) aa (ad ?_))))))))
  refine aW aa (fun h29=> ?_) (fun h29=> ?_)
  ·have he:(s.objOf c b a).2≠0:=by simpa using h29
   have hob:s.objs c b (n+1) a=[((0,0,a),(s.objOf c b a).2)]:=by
    simp only[Dev.objs]
    rw[if_neg (by omega),if_pos he]
   have ho1:0≤(s.objOf c b a).1.1∧(s.objOf c b a).1.1≤64:=yl
   refine ab (kPm aa aa (kPv (aZ aa (z7 _ aa)) aa (aD aa (aI (vs:=_) sizeOf105 aa aa aa aa aa) .free aa ?_)))
   rintro _ _ rfl
   refine ad (ac (ac (ab (kPm aa aa (kPv (am isAgg105 sizeOf105 aa aa) aa ?_)))))
   refine kPm aa aa ?_
   first | refine iW (f:=f) (r:=r) (H1:=row b5 [i64 b.act,i64 b.used,sv] 95::row b4 [i64 c.log,i64 c.roots,i64 c.space] 40::row b3 [ptr bd] 28::aG bd s::(Hx x++(row b7 [i64 (s.objOf c b a).1.1,i64 (s.objOf c b a).1.2.1,i64 (s.objOf c b a).1.2.2] 105::E))) aa aa (fun w hh=>hh.perm (List.perm_middle (l₁ :=blk l (.loop r)::row b5 [i64 b.act,i64 b.used,sv] 95::row b4 [i64 c.log,i64 c.roots,i64 c.space] 40::row b3 [ptr bd] 28::aG bd s::Hx x)).symm) (by rw[hrp];rfl) hrf ((hround (s.objOf c b a) x (iX hc hb he) hIx).2 (row b7 [i64 (s.objOf c b a).1.1,i64 (s.objOf c b a).1.2.1,i64 (s.objOf c b a).1.2.2] 105::E)) .free aa ?_ ?_ | refine iW (f:=f) (r:=r) (H1:=row b5 [i64 b.act,i64 b.used,sv] 95::row b4 [i64 c.log,i64 c.roots,i64 c.space] 40::row b3 [ptr bd] 28::aG bd s::(Hx x++(row b7 [i64 0,i64 0,i64 a] 105::E))) aa aa (fun w hh=>hh.perm (List.perm_middle (l₁ :=blk l (.loop r)::row b5 [i64 b.act,i64 b.used,sv] 95::row b4 [i64 c.log,i64 c.roots,i64 c.space] 40::row b3 [ptr bd] 28::aG bd s::Hx x)).symm) (by rw[hrp];rfl) hrf ((hround ((0,0,a),(s.objOf c b a).2) x (AR (by omega)) hIx).2 (row b7 [i64 0,i64 0,i64 a] 105::E)) .free aa ?_ ?_
   rotate_left
   ·rintro _ _ ⟨⟩
   rintro _ _ ⟨rfl,rfl⟩
   first | refine aK (H':=row b7 [i64 (s.objOf c b a).1.1,i64 (s.objOf c b a).1.2.1,i64 (s.objOf c b a).1.2.2] 105::blk l (.loop (lst r cd (st (s.objOf c b a) x)))::row b5 [i64 b.act,i64 b.used,sv] 95::row b4 [i64 c.log,i64 c.roots,i64 c.space] 40::row b3 [ptr bd] 28::aG bd s::(Hx (st (s.objOf c b a) x).2++E)) (fun w hh=>hh.perm (List.perm_middle (l₁ :=blk l (.loop (lst r cd (st (s.objOf c b a) x)))::row b5 [i64 b.act,i64 b.used,sv] 95::row b4 [i64 c.log,i64 c.roots,i64 c.space] 40::row b3 [ptr bd] 28::aG bd s::Hx (st (s.objOf c b a) x).2))) ?_ | refine aK (H':=row b7 [i64 0,i64 0,i64 a] 105::blk l (.loop (lst r cd (st ((0,0,a),(s.objOf c b a).2) x)))::row b5 [i64 b.act,i64 b.used,sv] 95::row b4 [i64 c.log,i64 c.roots,i64 c.space] 40::row b3 [ptr bd] 28::aG bd s::(Hx (st ((0,0,a),(s.objOf c b a).2) x).2++E)) (fun w hh=>hh.perm (List.perm_middle (l₁ :=blk l (.loop (lst r cd (st ((0,0,a),(s.objOf c b a).2) x)))::row b5 [i64 b.act,i64 b.used,sv] 95::row b4 [i64 c.log,i64 c.roots,i64 c.space] 40::row b3 [ptr bd] 28::aG bd s::Hx (st ((0,0,a),(s.objOf c b a).2) x).2))) ?_
   refine kPv (bF aa) aa (kPm aa aa ?_)
   apply gl (tp:=40) (t:=37) (σ1:=[(37,_),(7,_),(6,_),(5,_),(0,_),(1,_),(2,_),(3,_)]) 3 rfl (aF rfl)
   ·intro hg1
    refine aq aa (ap aa) (.on aa aa (ah hg1)) aa aa (aq aa (an aa aa aa) (.on aa aa (ah hg1)) aa aa (kPv (aL aa hg1 aa) aa ?_))
    exact ba aa (aF aa) (eZ hg1)
   ·intro hg1
    refine ar aa (.on aa aa (ai hg1)) aa (ar aa (.on aa aa (ai hg1)) aa (kPv (aH aa hg1 aa) aa ?_))
    exact ba aa (aF aa) (eY hg1)
   refine ad ?_
   refine aW aa (fun h40=> ?_) (fun h40=> ?_)
   ·try simp only[decide_eq_true_eq,decide_eq_false_iff_not,Bool.not_eq_true',Bool.not_eq_false',Bool.or_eq_true,Bool.and_eq_true,Bool.and_eq_false_iff,Bool.or_eq_false_iff,beq_iff_eq,bne_iff_ne,beq_eq_false_iff_ne,bne_eq_false_iff_eq,ge_iff_le,gt_iff_lt,ne_eq] at h40
    refine az ?_
    exact lK results170 (fun w hh=>⟨_,⟨by rw[hinv,hob,E3];exact(hround ((0,0,a),(s.objOf c b a).2) x (AR (by omega)) hIx).1,by rw[hinv,hob,E3]⟩,hh.tail⟩)
   ·have h40':=h40
    have hg:(st (s.objOf c b a) x).1=true∨(s.objOf c b a).2≠0:=by first | exact .inr he | (left;simpa [he] using h40)
    have hlr:(st (s.objOf c b a) x).1=true→lst r cd (st (s.objOf c b a) x)=r:=fun hg=>by unfold lst;rw[if_pos hg]
    refine ay (ab (kPm aa aa (kPv (aj (m:=_) fD aa aa) aa (kPv (am isAgg38 sizeOf38 aa aa) aa ?_))))
    refine aE aa (aA call114 aa) (fB _ _ _ _ (by omega)) .free aa aa ?_
    refine kPv (aS aa aa) aa (kPa aa aa (ad (ao [5,6,0,1,2,3] rfl ?_)))
    exact absurd (by simp at h40;exact h40.2) he
  ·have he:(s.objOf c b a).2=0:=by simpa using h29
   have hob:s.objs c b (n+1) a=s.objOf c b a::s.objs c b n (a+((s.objOf c b a).1.1+1)):=by
    simp only[Dev.objs]
    rw[if_neg (by omega),if_neg (by omega)]
   have ho:=iX hc hb he
   have ho1:=ho.w
   have ho2:=ho.r
   have ho3:=ho.at_
   refine ay (ac (ac (ab (kPm aa aa (kPv (am isAgg105 sizeOf105 aa aa) aa ?_)))))
   refine kPm aa aa ?_
   first | refine iW (f:=f) (r:=r) (H1:=row b5 [i64 b.act,i64 b.used,sv] 95::row b4 [i64 c.log,i64 c.roots,i64 c.space] 40::row b3 [ptr bd] 28::aG bd s::(Hx x++(row b7 [i64 (s.objOf c b a).1.1,i64 (s.objOf c b a).1.2.1,i64 (s.objOf c b a).1.2.2] 105::E))) aa aa (fun w hh=>hh.perm (List.perm_middle (l₁ :=blk l (.loop r)::row b5 [i64 b.act,i64 b.used,sv] 95::row b4 [i64 c.log,i64 c.roots,i64 c.space] 40::row b3 [ptr bd] 28::aG bd s::Hx x)).symm) (by rw[hrp];rfl) hrf ((hround (s.objOf c b a) x (iX hc hb he) hIx).2 (row b7 [i64 (s.objOf c b a).1.1,i64 (s.objOf c b a).1.2.1,i64 (s.objOf c b a).1.2.2] 105::E)) .free aa ?_ ?_ | refine iW (f:=f) (r:=r) (H1:=row b5 [i64 b.act,i64 b.used,sv] 95::row b4 [i64 c.log,i64 c.roots,i64 c.space] 40::row b3 [ptr bd] 28::aG bd s::(Hx x++(row b7 [i64 0,i64 0,i64 a] 105::E))) aa aa (fun w hh=>hh.perm (List.perm_middle (l₁ :=blk l (.loop r)::row b5 [i64 b.act,i64 b.used,sv] 95::row b4 [i64 c.log,i64 c.roots,i64 c.space] 40::row b3 [ptr bd] 28::aG bd s::Hx x)).symm) (by rw[hrp];rfl) hrf ((hround ((0,0,a),(s.objOf c b a).2) x (AR (by omega)) hIx).2 (row b7 [i64 0,i64 0,i64 a] 105::E)) .free aa ?_ ?_
   rotate_left
   ·rintro _ _ ⟨⟩
   rintro _ _ ⟨rfl,rfl⟩
   first | refine aK (H':=row b7 [i64 (s.objOf c b a).1.1,i64 (s.objOf c b a).1.2.1,i64 (s.objOf c b a).1.2.2] 105::blk l (.loop (lst r cd (st (s.objOf c b a) x)))::row b5 [i64 b.act,i64 b.used,sv] 95::row b4 [i64 c.log,i64 c.roots,i64 c.space] 40::row b3 [ptr bd] 28::aG bd s::(Hx (st (s.objOf c b a) x).2++E)) (fun w hh=>hh.perm (List.perm_middle (l₁ :=blk l (.loop (lst r cd (st (s.objOf c b a) x)))::row b5 [i64 b.act,i64 b.used,sv] 95::row b4 [i64 c.log,i64 c.roots,i64 c.space] 40::row b3 [ptr bd] 28::aG bd s::Hx (st (s.objOf c b a) x).2))) ?_ | refine aK (H':=row b7 [i64 0,i64 0,i64 a] 105::blk l (.loop (lst r cd (st ((0,0,a),(s.objOf c b a).2) x)))::row b5 [i64 b.act,i64 b.used,sv] 95::row b4 [i64 c.log,i64 c.roots,i64 c.space] 40::row b3 [ptr bd] 28::aG bd s::(Hx (st ((0,0,a),(s.objOf c b a).2) x).2++E)) (fun w hh=>hh.perm (List.perm_middle (l₁ :=blk l (.loop (lst r cd (st ((0,0,a),(s.objOf c b a).2) x)))::row b5 [i64 b.act,i64 b.used,sv] 95::row b4 [i64 c.log,i64 c.roots,i64 c.space] 40::row b3 [ptr bd] 28::aG bd s::Hx (st ((0,0,a),(s.objOf c b a).2) x).2))) ?_
   refine kPv (bF aa) aa (kPm aa aa ?_)
   apply gl (tp:=40) (t:=37) (σ1:=[(37,_),(7,_),(6,_),(5,_),(0,_),(1,_),(2,_),(3,_)]) 3 rfl (aF rfl)
   ·intro hg2
    refine aq aa (ap aa) (.on aa aa (ah hg2)) aa aa (aq aa (an aa aa aa) (.on aa aa (ah hg2)) aa aa (kPv (aL aa hg2 aa) aa ?_))
    exact ba aa (aF aa) (eZ hg2)
   ·intro hg2
    refine ar aa (.on aa aa (ai hg2)) aa (ar aa (.on aa aa (ai hg2)) aa (kPv (aH aa hg2 aa) aa ?_))
    exact ba aa (aF aa) (eY hg2)
   refine ad ?_
   refine aW aa (fun h40=> ?_) (fun h40=> ?_)
   ·try simp only[decide_eq_true_eq,decide_eq_false_iff_not,Bool.not_eq_true',Bool.not_eq_false',Bool.or_eq_true,Bool.and_eq_true,Bool.and_eq_false_iff,Bool.or_eq_false_iff,beq_iff_eq,bne_iff_ne,beq_eq_false_iff_ne,bne_eq_false_iff_eq,ge_iff_le,gt_iff_lt,ne_eq] at h40
    refine az ?_
    exact lK results170 (fun w hh=>⟨_,⟨by rw[hinv,hob,CU (by simpa [he] using h40)];exact(hround (s.objOf c b a) x (iX hc hb he) hIx).1,by rw[hinv,hob,CU (by simpa [he] using h40)]⟩,hh.tail⟩)
   ·have h40':=h40
    have hg:(st (s.objOf c b a) x).1=true∨(s.objOf c b a).2≠0:=by first | exact .inr he | (left;simpa [he] using h40)
    have hlr:(st (s.objOf c b a) x).1=true→lst r cd (st (s.objOf c b a) x)=r:=fun hg=>by unfold lst;rw[if_pos hg]
    refine ay (ab (kPm aa aa (kPv (aj (m:=_) fD aa aa) aa (kPv (am isAgg38 sizeOf38 aa aa) aa ?_))))
    refine aE aa (aA call114 aa) (fB _ _ _ _ (by omega)) .free aa aa ?_
    refine kPv (aS aa aa) aa (kPa aa aa (ad (ao [5,6,0,1,2,3] rfl ?_)))
    exact fun a_ w st_=>⟨(_,n,(st (s.objOf c b a) x).2),⟨(hround (s.objOf c b a) x (iX hc hb he) hIx).1,by simp only;omega,by simp only;omega,by rw[hinv,hob];simp only[itl];rw[if_pos (hg.resolve_right (by omega))]⟩,by simp only;omega,st_.to ⟨rfl,rfl,rfl,rfl,rfl,rfl,trivial⟩ (fun hh=>by have hh:=hh.tail;rw[hlr (hg.resolve_right (by omega))] at hh;exact hh)⟩
 ·have hk:¬ a<b.place c b.used:=by simpa using h19
  refine bT ?_
  exact cS results170 (fun w hh=>⟨_,⟨by rw[hinv,vn (by omega)];exact hIx,by rw[hinv,vn (by omega)];rfl⟩,hh⟩)
theorem fQ{s:Dev}{c:Cfg}(hc:bC c):(s.block c).1.rts.length≤16:=by
 have:=hc.r2
 unfold Dev.block
 split
 ·exact Nat.zero_le _
 ·rw[bu];omega
theorem gG{s:Dev}{c:Cfg}(hu:U64 s):∀ x∈(s.block c).1.rts,0≤x∧x<18446744073709551616:=by
 intro x hx
 unfold Dev.block at hx
 split at hx
 ·cases hx
 ·obtain⟨i,_,rfl⟩:=List.mem_map.1 hx
  exact hu.load _
theorem nB{ι:Type}{r:Loop}{cd:ι→Code}{y:Bool×ι}(h:r.state≠ .busy):(lst r cd y).state≠ .busy:=by
 unfold lst;split
 ·exact h
 ·simp
theorem A8{ι:Type}{r:Loop}{cd:ι→Code}{y:Bool×ι}(h:(lst r cd y).pending=none):y.1=true:=by
 unfold lst at h;split at h
 ·assumption
 ·cases h
theorem nz{ι:Type}{r:Loop}{cd:ι→Code}{y:Bool×ι}{c:Code}(hr:r.pending=none)(h:(lst r cd y).pending=some c):y.1=false∧c=cd y.2:=by
 unfold lst at h;split at h
 ·rw[hr] at h;cases h
 ·rename_i h1;exact⟨by simpa using h1,by simpa using h.symm⟩
def stS(p:du×Int)(x:List (Int×du)×Int):Bool×List (Int×du)×Int:=if p.2≠0 then (false,(x.1,p.2)) else (true,(mset x.1 p.1.2.2 p.1,x.2))
def Dev.startsI(s:Dev)(c:Cfg)(b:Blk):Bool×List (Int×du)×Int:=itl stS (s.objs c b (b.used.toNat+1) (b.place c 0)) ([],0)
def Dev.starts(s:Dev)(c:Cfg)(b:Blk):List (Int×du)×Int:=(s.startsI c b).2
theorem yA{α ι:Type}{st:α→ι→Bool×ι}{I:ι→Prop}(h:∀ a x,I x→(st a x).1=true→I (st a x).2):∀ (l:List α) (x:ι),I x→(itl st l x).1=true→I (itl st l x).2
 | [],x,hx,_=>hx
 | a::t,x,hx,h1=>by
   unfold itl at h1 ⊢
   split at h1
   ·rename_i ha;rw[if_pos ha];exact yA h t _ (h a x hx ha) h1
   ·cases h1
theorem zg{s:Dev}{c:Cfg}{b:Blk}(h:(s.startsI c b).1=true):(s.starts c b).2=0:=
 yA (I:=fun x=>x.2=0) (fun a x hx h=>by
  unfold stS at h ⊢;split at h
  ·cases h
  ·rename_i h1;rw[if_neg h1];exact hx) _ _ aa h
theorem x8:∀ (l:List (du×Int)) (x:List (Int×du)×Int),(itl stS l x).1=false→¬ (itl stS l x).2.2=0
 | [],x,h=>by cases h
 | a::t,x,h=>by
   unfold itl at h ⊢
   split at h
   ·rename_i ha;rw[if_pos ha];exact x8 t _ h
   ·rename_i ha;rw[if_neg ha]
    unfold stS at ha ⊢
    split at ha
    ·rename_i h1;rw[if_pos h1];exact h1
    ·exact absurd aa ha
theorem wK{s:Dev}{c:Cfg}{b:Blk}(h:(s.startsI c b).1=false):¬ (s.starts c b).2=0:=x8 _ _ h
theorem pZ(B:World)(Fr:List HP)(bd:Nat)(s:Dev)(c:Cfg)(hc:bC c)(b:Blk)(sv:Value)(hb:fg c b)(hsv:aV sv=true):
 ∀ w,Holds B (aG bd s::Fr) w→Calls Tryz.prog 133 [ptr bd,eO c,mW b sv].toArray w (Ret B (fun rv H'=>∃ mb,rv= .tuple #[.map (some mb),i64 (s.starts c b).2]∧H'=bJ .i64 iF mb (s.starts c b).1::aG bd s::Fr) (fun _ _=>False)):=by
 refine go func133 aa ntmps133 aa (ac (ab (aC aa (bx aa) .free aa aa ?_)))
 rintro _ _ ⟨b4,rfl,rfl⟩
 refine aC aa (bx aa) .free aa aa ?_
 rintro _ _ ⟨b5,rfl,rfl⟩
 refine aC aa (cA zeroValue176 aa) .free aa aa ?_
 rintro _ _ ⟨b6,rfl,rfl⟩
 refine aC aa (cA zeroValue33 aa) .free aa aa ?_
 rintro _ _ ⟨b7,rfl,rfl⟩
 refine ad (ac (ab (aC aa (eM .i64 iF) .free aa aa ?_)))
 rintro _ _ ⟨mb,rfl,rfl⟩
 refine aC aa (cA zeroValue176 aa) .free aa aa ?_
 rintro _ _ ⟨b8,rfl,rfl⟩
 refine aD aa (aR sizeOf176 aa aa aa aa) .free aa ?_
 rintro _ _ rfl
 refine ad (ac (ac (ab (kPm aa aa (kPv (am isAgg40 sizeOf40 aa aa) aa ?_)))))
 refine kPv (am isAgg95 sizeOf95 aa aa) aa ?_
 refine aQ aa (aA call136 aa) (p8 _ _ bd c b sv hsv) .free aa aa ?_
 rintro _ _ ⟨c3,c4,c5,rfl,rfl⟩
 refine ad (ao [15,8,7,6] rfl (aO (nL aa call170 ?_)))
 intro l m tmps hts hkn w hh
 have hk6:=hkn 6 _ rfl
 have hk7:=hkn 7 _ rfl
 have hk8:=hkn 8 _ rfl
 refine(uM B (blk m (.deferred (some []))::row b5 [i64 b.act,i64 b.used,sv] 95::row b4 [i64 c.log,i64 c.roots,i64 c.space] 40::Fr) l 133 c3 c4 c5 bd c hc b sv hb hsv s (List (Int×du)×Int) _ aa aa (fun x=>True) (fun x=>[bJ .i64 iF mb x.1,row b6 [if x.2=0 then .map none else .map (some mb)] 176,row b7 [i64 x.2] 33,row b8 [.map (some mb)] 176]) (fun _=> .ret) stS ([],0) trivial ?_ w (hh.pk [0,1,1,1,7,2,3,2,1])).mono (Ret.mono ?_ fun _ _ h=>h.elim)
 ·intro p x _ _
  refine⟨trivial,fun E=> ?_⟩
  simp only[List.cons_append,List.nil_append]
  refine jd (n:=27) (σ:=[(16,iF p.1),(17,i64 p.2),(6,ptr b6),(7,ptr b7),(8,ptr b8)]) func133 (by simp[ii,hts]) (KnA.knows (by simp[KnA,ii,hts];exact⟨(Array.getElem?_eq_some_iff.1 hk6).2,(Array.getElem?_eq_some_iff.1 hk7).2,(Array.getElem?_eq_some_iff.1 hk8).2⟩)) aa ?_
  refine ac (ab (aC aa (aN zeroValue105 aa) .free aa aa ?_))
  rintro _ _ ⟨b9,rfl,rfl⟩
  refine aD aa (aI (vs:=[i64 p.1.1,i64 p.1.2.1,i64 p.1.2.2]) sizeOf105 aa aa aa aa aa) .free aa ?_
  rintro _ _ rfl
  refine ad (ab (kPa aa aa (ad (aJ [1] (mS (aO (ac (ac (ab (kPm aa aa (kPv (an aa aa aa) aa ?_)))))))))))
  refine ad ?_
  refine aW aa (fun h19=> ?_) (fun h19=> ?_)
  ·have h19':p.2≠0:=by simpa using h19
   refine ac (ab (kPv (ae isAgg176 aa aa) aa (kPm aa aa (aD aa (aR sizeOf176 aa aa aa aa) .free aa ?_))))
   rintro _ _ rfl
   refine aD aa (aR sizeOf33 aa aa aa aa) .free aa ?_
   rintro _ _ rfl
   refine ad (ao [9,6,7,8] rfl (az ?_))
   have hst:stS p x=(false,(x.1,p.2)):=by unfold stS;rw[if_pos h19']
   exact DP fun w hh=>⟨_,⟨by rw[hst],rfl⟩,by rw[hst];rw[if_neg h19'];exact(hh.dp [1])⟩
  ·have h19':p.2=0:=by simpa using h19
   refine ay (ab (kPv (ae isAgg176 aa aa) aa (kPv (aj (m:=_) lY aa aa) aa (kPv (ae isAgg3 aa aa) aa (kPv (am isAgg105 sizeOf105 aa aa) aa ?_)))))
   refine aD aa (ip (enc:=iF) (u:=p.1) runUnderlying176 runUnderlying3 aa aa aa aa) .free aa ?_
   rintro _ _ rfl
   refine ad (ao [6,7] rfl ?_)
   have hst:stS p x=(true,(mset x.1 p.1.2.2 p.1,x.2)):=by unfold stS;rw[if_neg (by omega)]
   exact nH fun w hh=>⟨_,⟨by rw[hst],rfl⟩,by rw[hst];exact(hh.dp [1])⟩
 rintro _ _ ⟨_,rfl⟩
 simp only[List.cons_append,List.nil_append]
 refine⟨_,_,fun w hh=>hh,nB (by simp[ii]),fun hp=> ?_,fun c' hc'=> ?_⟩
 rotate_left
 ·obtain⟨h1,rfl⟩:=nz rfl hc'
  refine az ?_
  exact yf results133 (.at 9 .nil) (.aV aa isAgg176 aa) (.aV aa isAgg33 aa) fun w hh=>⟨_,⟨mb,by have hb:=wK h1;unfold Dev.starts Dev.startsI at hb ⊢;rw[if_neg hb],rfl⟩,((hh.dp [0,0,0,0,2,2,2,2,2,2]).pk [1])⟩
 have hy:=zg (s:=s) (c:=c) (b:=b) (A8 hp)
 refine ac (ab (kPv (ae isAgg176 aa aa) aa (aD aa (aR sizeOf176 aa aa aa aa) .free aa ?_)))
 rintro _ _ rfl
 refine aD aa (aR sizeOf33 aa aa aa aa) .free aa ?_
 rintro _ _ rfl
 refine ad (az ?_)
 exact yf results133 (.at 9 (.nil)) (.aV aa isAgg176 aa) (.aV aa isAgg33 aa) (fun w hh=>⟨_,⟨mb,by rw[hy],rfl⟩,((hh.dp [0,0,0,0,2,2,2,2,2,2]).pk [1])⟩)
abbrev pA(o:du):List Value:=[i64 o.1,i64 o.2.1,i64 o.2.2]
theorem uz:m3 3 pA:=⟨fun _=>rfl,fun _=>rfl⟩
theorem ow(o:Option Int):sr i64 (i64 0) o=i64 (o.getD 0):=by cases o<;>rfl
abbrev gJ:=List (Int×Unit)×List du
def Dev.see(s:Dev)(c:Cfg)(b:Blk)(x:gJ)(v:Int):gJ:=
 if (bi x.1 v).isSome=true∨b.has c v=false then x
 else if (s.objOf c b v).2=0 then (mset x.1 v (),x.2++[(s.objOf c b v).1]) else x
def Dev.namesOf(s:Dev)(o:du):List Int:=(s.objNames o o.2.1.toNat 0).map fun p=>IntKind.u64.wrap p.2
def Dev.reachL(s:Dev)(c:Cfg)(b:Blk):Nat→gJ→List du
 | 0,_=>[]
 | f+1,x=>match x.2 with
   | []=>[]
   | o::t=>o::s.reachL c b f ((s.namesOf o).foldl (s.see c b) (x.1,t))
def Dev.reach(s:Dev)(c:Cfg)(b:Blk)(ws:List Int):List du:=s.reachL c b (b.used.toNat+1) (ws.foldl (s.see c b) ([],[]))
structure r6(s:Dev)(c:Cfg)(b:Blk)(x:gJ):Prop where
 nd:(x.1.map Prod.fst).Nodup
 rng:∀ k∈x.1.map Prod.fst,c.frm b.act≤k∧k<c.frm b.act+b.used
 obj:∀ o∈x.2,mu o
theorem Ct{s:Dev}{c:Cfg}{b:Blk}:r6 s c b ([],[]):=⟨List.nodup_nil,fun _ h=>(by cases h),fun _ h=>(by cases h)⟩
theorem dO{α:Type}{l:List (Int×α)}{k:Int}{a:α}(h:bi l k=none):mset l k a=l++[(k,a)]:=by
 induction l with
 | nil=>rfl
 | cons p t ih=>
   unfold bi at h
   split at h
   ·cases h
   ·rename_i hp;unfold mset;rw[if_neg hp,ih h];rfl
theorem DK{s:Dev}{c:Cfg}(hc:bC c){b:Blk}(hb:fg c b){x:gJ}(h:r6 s c b x)(v:Int):r6 s c b (s.see c b x v):=by
 unfold Dev.see
 split
 ·exact h
 split
 ·rename_i h1 h2
  have h3:bi x.1 v=none:=by cases hm:bi x.1 v with
   | none=>rfl
   | some _=>exact absurd (.inl (by rw[hm];rfl)) h1
  have h4:b.has c v=true:=by cases hm:b.has c v with
   | true=>rfl
   | false=>exact absurd (.inr hm) h1
  have h5:=jX hc hb h4
  rw[dO h3]
  refine⟨?_,fun k hk=> ?_,fun o ho=> ?_⟩
  ·rw[List.map_append,List.nodup_append]
   exact⟨h.nd,by simp,fun a ha b' hb'=>by simp at hb';subst hb';intro e;subst e;exact i0 h3 ha⟩
  ·rw[List.map_append,List.mem_append] at hk
   rcases hk with hk | hk
   ·exact h.rng k hk
   ·simp at hk;subst hk;omega
  ·rcases List.mem_append.1 ho with ho | ho
   ·exact h.obj o ho
   ·rw[List.mem_singleton.1 ho];exact iX hc hb h2
 ·exact h
theorem kh:∀ (n:Nat) (a:Int) (l:List Int),l.Nodup→(∀ k∈l,a≤k∧k<a+n)→l.length≤n
 | 0,a,l,_,h=>by
   cases l with
   | nil=>exact Nat.le_refl 0
   | cons x t=>have:=h x (List.mem_cons_self ..);omega
 | n+1,a,l,hn,h=>by
   have h1:=kh n a (l.erase (a+n)) (hn.erase _) fun k hk=>by
    have h2:=h k (List.mem_of_mem_erase hk)
    have h3:k≠a+n:=fun e=>by subst e;exact(List.Nodup.not_mem_erase hn) hk
    omega
   have h4:l.length≤(l.erase (a+n)).length+1:=by rw[List.length_erase];split<;>omega
   omega
theorem nh{s:Dev}{c:Cfg}{b:Blk}(hb:fg c b){x:gJ}(h:r6 s c b x):x.1.length≤b.used.toNat:=by
 have h1:=hb.used
 have:=kh b.used.toNat (c.frm b.act) _ h.nd fun k hk=>by have:=h.rng k hk;omega
 simpa using this
def AA(b:Blk)(x:gJ):Nat:=b.used.toNat+x.2.length - x.1.length
theorem AC{s:Dev}{c:Cfg}{b:Blk}(x:gJ)(v:Int):(s.see c b x v).2.length+x.1.length=x.2.length+(s.see c b x v).1.length:=by
 unfold Dev.see
 split
 ·omega
 split
 ·rename_i h1 h2
  have h3:bi x.1 v=none:=by cases hm:bi x.1 v with
   | none=>rfl
   | some _=>exact absurd (.inl (by rw[hm];rfl)) h1
  rw[dO h3];simp;omega
 ·omega
theorem tz{s:Dev}{c:Cfg}{b:Blk}:∀ (l:List Int) (x:gJ),(l.foldl (s.see c b) x).2.length+x.1.length=x.2.length+(l.foldl (s.see c b) x).1.length
 | [],_=>rfl
 | v::t,x=>by
   have h1:=tz (s:=s) (c:=c) (b:=b) t (s.see c b x v)
   have h2:=AC (s:=s) (c:=c) (b:=b) x v
   rw[List.foldl_cons];omega
theorem AB(B:World)(Fr:List HP)(c1 c2 c3 c4 c5 mr bd:Nat)(s:Dev)(c:Cfg)(hc:bC c)(b:Blk)(sv:Value)(hb:fg c b)(hsv:aV sv=true)(x:gJ)(hxl:x.2.length≤1000000)(v:Int)(hv:0≤v∧v<18446744073709551616):
 ∀ w,Holds B (row c1 [.map (some mr)] 218::row c2 [i64 b.act,i64 b.used,sv] 95::row c3 [i64 c.log,i64 c.roots,i64 c.space] 40::row c4 [ptr bd] 28::lq 219 105 3 pA c5 x.2::bJ .u64 cF mr x.1::aG bd s::Fr) w→Calls Tryz.prog 172 [w64 v,ptr c1,ptr c2,ptr c3,ptr c4,ptr c5].toArray w (Ret B (fun _ H'=>H'=row c1 [.map (some mr)] 218::row c2 [i64 b.act,i64 b.used,sv] 95::row c3 [i64 c.log,i64 c.roots,i64 c.space] 40::row c4 [ptr bd] 28::lq 219 105 3 pA c5 (s.see c b x v).2::bJ .u64 cF mr (s.see c b x v).1::aG bd s::Fr) (fun _ _=>False)):=by
 refine au func172 aa ntmps172 aa (ac (ac (ab (kPv (ae isAgg218 aa aa) aa (kPm aa aa (kPv ((fE runUnderlying218 runUnderlying26 zeroValue149 aa aa).eq (yw _)) aa (kPm aa aa (kPv (aB aa aa) aa (kPv (aB aa aa) aa (aC aa (aN zeroValue149 aa) .free aa aa ?_))))))))))
 rintro _ _ ⟨b7,rfl,rfl⟩
 refine aD aa (aI (vs:=[]) sizeOf149 aa aa aa aa aa) .free aa ?_
 rintro _ _ rfl
 refine kPa aa aa (ad (ao [8,0,1,2,3,4,5] rfl (ac (ab (kPm aa aa (kPm aa aa ?_))))))
 apply gl (tp:=24) (t:=18) (σ1:=[(18,_),(0,_),(1,_),(2,_),(3,_),(4,_),(5,_)]) 6 rfl (aF rfl)
 ·intro hg1
  refine aq aa (am isAgg95 sizeOf95 aa aa) (.on aa aa (ah hg1)) aa aa ?_
  refine aq aa (am isAgg40 sizeOf40 aa aa) (.on aa aa (ah hg1)) aa aa ?_
  refine aq aa (ap aa) (.on aa aa (ah hg1)) aa aa (aE aa (aA call135 aa) (rq _ _ c hc b sv hb hsv _ hv) (.on aa aa (ah hg1)) aa aa ?_)
  refine aq aa (bF aa) (.on aa aa (ah hg1)) aa aa (kPv (aL aa hg1 aa) aa ?_)
  exact ba aa (aF aa) (eZ hg1)
 ·intro hg1
  refine ar aa (.on aa aa (ai hg1)) aa (ar aa (.on aa aa (ai hg1)) aa (ar aa (.on aa aa (ai hg1)) aa (ar aa (.on aa aa (ai hg1)) aa (ar aa (.on aa aa (ai hg1)) aa (kPv (aH aa hg1 aa) aa ?_)))))
  exact ba aa (aF aa) (eY hg1)
 refine ad ?_
 refine aW aa (fun h24=> ?_) (fun h24=> ?_)
 ·have h1:(bi x.1 v).isSome=true∨b.has c v=false:=by simpa using h24
  have hres:s.see c b x v=x:=by unfold Dev.see;rw[if_pos h1]
  refine az ?_
  exact lK results172 (fun w hh=>⟨_,rfl,by rw[hres];exact(hh.dp [0])⟩)
 ·have h1:¬((bi x.1 v).isSome=true∨b.has c v=false):=by simpa using h24
  have hh0:b.has c v=true:=by cases hm:b.has c v with
   | true=>rfl
   | false=>exact absurd (.inr hm) h1
  have hvb:=jX hc hb hh0
  refine ay (ac (ab (kPv (ae isAgg28 aa aa) aa (kPv (am isAgg40 sizeOf40 aa aa) aa ?_))))
  refine kPv (am isAgg95 sizeOf95 aa aa) aa ?_
  refine kPm aa aa (kPv (bP runUnderlying26 runUnderlying3 aa) aa (aE aa (aA call122 aa) (bU (q:=aG) (fun Fr=>lL _ Fr _ _ c hc b sv hb hsv v (by omega))) .free aa aa ?_))
  refine kPm aa aa (kPv (aB aa aa) aa (kPv (aB aa aa) aa (aC aa (aN zeroValue105 aa) .free aa aa ?_)))
  rintro _ _ ⟨b9,rfl,rfl⟩
  refine aD aa (aI (vs:=_) sizeOf105 aa aa aa aa aa) .free aa ?_
  rintro _ _ rfl
  refine kPa aa aa (ad (ao [10,9,0,1,5] rfl (ac (ab (kPm aa aa (kPv (an aa aa aa) aa (ad ?_)))))))
  refine aW aa (fun h35=> ?_) (fun h35=> ?_)
  ·have h2:(s.objOf c b v).2=0:=by simpa using h35
   have hres:s.see c b x v=(mset x.1 v (),x.2++[(s.objOf c b v).1]):=by unfold Dev.see;rw[if_neg h1,if_pos h2]
   refine ac (ab (kPv (ae isAgg218 aa aa) aa (kPm aa aa (kPv (aZ aa (pV)) aa (aD aa (ip (enc:=cF) (u:=()) runUnderlying218 runUnderlying26 aa aa aa aa) .free aa ?_)))))
   rintro _ _ rfl
   refine ad (ao [9,5] rfl (ab (aJ [6] (pM fun rv hrv=>(kPv (ae isAgg219 aa aa) aa (kPv (am isAgg105 sizeOf105 aa aa) aa ?_))))))
   refine aC aa (iP uz (v:=(s.objOf c b v).1) runUnderlying219 sizeOf105 zeroValue105 ⟨⟨by decide,by decide⟩,rfl⟩ rfl aa) .free aa aa ?_
   rintro _ _ ⟨b41,rfl,rfl⟩
   refine aJ [2] (aC aa (dj uz (ys:=[(s.objOf c b v).1]) aa aa runUnderlying219 runUnderlying219 ⟨_,rfl⟩ sizeOf105 zeroValue105 aa D5 aa aa (SlM.row (b:=b41) aa aa) (Nat.succ_pos _) (by simp;omega)) .free aa aa ?_)
   rintro rv2 _ ⟨hrv2,rfl⟩
   refine aD aa (aR sizeOf219 aa aa (by first | rfl | assumption) rfl) .free rfl ?_
   rintro _ _ rfl
   refine ad ?_
   exact cS results172 (fun w hh=>⟨_,rfl,by rw[hres];exact(gX hrv2 ((hh.dp [1,2,2]).pk [1])).pk [1,1,1,1]⟩)
  ·have h2:¬ (s.objOf c b v).2=0:=by simpa using h35
   have hres:s.see c b x v=x:=by unfold Dev.see;rw[if_neg h1,if_neg h2]
   refine ay ?_
   exact cS results172 (fun w hh=>⟨_,rfl,by rw[hres];exact(hh.dp [0,0])⟩)
theorem ra{α ι:Type}{f:ι→α→ι}:∀ (l:List α) (x:ι),itl (fun p x=>(true,f x p)) l x=(true,l.foldl f x)
 | [],_=>rfl
 | a::t,x=>by unfold itl;rw[if_pos rfl];exact ra t _
theorem CT{α ι:Type}{st:α→ι→Bool×ι}{a:α}{t:List α}{x:ι}(h:(st a x).1=true):itl st (a::t) x=itl st t (st a x).2:=by
 conv=>lhs;unfold itl
 rw[if_pos h]
theorem D2(v:Int):0≤IntKind.u64.wrap v∧IntKind.u64.wrap v<18446744073709551616:=by
 simp[IntKind.wrap,IntKind.bits,IntKind.signed]
 omega
theorem qJ{s:Dev}{c:Cfg}{b:Blk}{x:gJ}(h:x.2=[]):∀ n,s.reachL c b n x=[]
 | 0=>rfl
 | n+1=>by unfold Dev.reachL;rw[h]
theorem zc(B:World)(E:List HP)(l f b1 b2 b3 b4 bd:Nat)(c:Cfg)(hc:bC c)(b:Blk)(sv:Value)(hb:fg c b)(hsv:aV sv=true)(s:Dev)(q:Option Addr)(cap:Nat)(ws:List Int)(hws:∀ v∈ws,0≤v∧v<18446744073709551616)(hwn:ws.length≤1000000)(hwq:∀ i,i<ws.length→∃ b off,q=some ⟨b,off,none⟩)(ι:Type)(r:Loop)(hrf:r.fn=f)(hrp:r.params.size=1)(I:ι→Prop)(Hx:ι→List HP)(cd:ι→Code)(st:du→ι→Bool×ι)(y0:ι)(h0:I y0)(hwl:SlR B (Hx y0++E) (.slice q ws.length cap) (ws.map w64))(hround:∀ (p:du) (x:ι),mu p→I x→I (st p x).2∧∀ (E:List HP) w,Holds B (blk l (.loop r)::aG bd s::(Hx x++E)) w→RoundIn (Wd (cxF f)) 0 Tryz.prog l f ((r.params.zip [iF p].toArray).foldl (fun tmps (t,a)=>tmps.setIfInBounds t a) r.tmps) r.assign r.body w (Ret B (fun rv H'=>rv= .bool (st p x).1∧H'=blk l (.loop (lst r cd (st p x)))::aG bd s::(Hx (st p x).2++E)) (fun _ _=>False))):
 ∀ w,Holds B (blk l (.loop r)::row b1 [i64 b.act,i64 b.used,sv] 95::row b2 [i64 c.log,i64 c.roots,i64 c.space] 40::row b3 [ptr bd] 28::row b4 [.slice q ws.length cap] 25::aG bd s::(Hx y0++E)) w→Calls Tryz.prog 171 [.func (.yield l) #[] #[],ptr b1,ptr b2,ptr b3,ptr b4].toArray w (Ret B (fun _ H'=>I (itl st (s.reach c b ws) y0).2∧H'=blk l (.loop (lst r cd (itl st (s.reach c b ws) y0)))::aG bd s::(Hx (itl st (s.reach c b ws) y0).2++E)) (fun _ _=>False)):=by
 refine go func171 aa ntmps171 aa ?_
 have hbu:=hb.used
 have hcs:=hc.s2
 refine ac (ab (aC aa (eM .u64 cF) .free aa aa ?_))
 rintro _ _ ⟨mr,rfl,rfl⟩
 refine aC aa (cA zeroValue218 aa) .free aa aa ?_
 rintro _ _ ⟨b6,rfl,rfl⟩
 refine aD aa (aR sizeOf218 aa aa (by first | rfl | assumption) rfl) .free rfl ?_
 rintro _ _ rfl
 refine ad (ac (ab (aC aa (cA zeroValue219 aa) .free aa aa ?_)))
 rintro _ _ ⟨b7,rfl,rfl⟩
 refine aK (fun w hh=>uP (α:=du) (T:=105) (m:=3) (enc:=pA) hh) (ad (ac (ab (kPv (dm aa aa) aa (aC aa (cA zeroValue220 aa) .free aa aa ?_)))))
 rintro _ _ ⟨b8,rfl,rfl⟩
 refine aD aa (aR sizeOf220 aa aa (by first | rfl | assumption) rfl) .free rfl ?_
 rintro _ _ rfl
 refine ad (ac (ac (ab (kPv (ae isAgg25 aa aa) aa (kPv (bY aa runUnderlying25 ⟨_,rfl⟩ rfl) aa (kPm aa aa (ad (aO (cR (ι:=Nat×gJ) [17,16,8,7,0,3] (fun (k,x)=>(k≤ws.length)∧(x=(ws.take k).foldl (s.see c b) ([],[]))∧(r6 s c b x)∧(x.2.length≤x.1.length)) (fun (k,x)=>[(18,i64 k)]) (fun (k,x)=>row b6 [.map (some mr)] 218::row b1 [i64 b.act,i64 b.used,sv] 95::row b2 [i64 c.log,i64 c.roots,i64 c.space] 40::row b3 [ptr bd] 28::lq 219 105 3 pA b7 x.2::bJ .u64 cF mr x.1::aG bd s::row b8 [.func (.func 172) #[] #[ptr b6,ptr b1,ptr b2,ptr b3,ptr b7]] 220::blk l (.loop r)::row b4 [.slice q ws.length cap] 25::(Hx y0++E)) (fun (k,x)=>ws.length - k) (0,([],[])) (⟨Nat.zero_le _,rfl,Ct,Nat.le_refl _⟩) (fun a w st=>st.to ⟨rfl,trivial⟩ (fun hh=>(hh.pk [2,4,4,4,1,1,3]))) ?_)))))))))
 rintro⟨k,x⟩ ⟨hk0,hxe,hxw,hxl⟩
 try simp only at hk0 hxe hxw hxl ⊢
 refine cg (σ':=[(18,i64 k),(17,_),(16,_),(8,_),(7,_),(0,_),(3,_)]) (aF aa) (ac (ab (kPv (an aa aa aa) aa (ad (ac ?_)))))
 refine aW aa (fun h19=> ?_) (fun h19=> ?_)
 ·have hk:k<ws.length:=by simp at h19;omega
  obtain⟨bq,oq,rfl⟩:=hwq k hk
  have hsl:=nh hb hxw
  refine ay (ac (aO (ac (ab (kPv (bZ runUnderlying25 sizeOf26 aa aa (by omega) (by omega)) aa ?_)))))
  refine kPv (bX (v:=w64 ws[k]) isAgg26 (hwl.up) aa (by rw[Int.toNat_natCast,List.getElem?_map,List.getElem?_eq_getElem hk];rfl)) aa ?_
  refine kPa aa aa (ad (ab (kPv (ae isAgg220 aa aa) aa (kPm aa aa ?_))))
  refine aY aa (ku call172 aa aa) (AB B _ b6 b1 b2 b3 b7 mr bd s c hc b sv hb hsv x (by omega) ws[k] (hws _ (List.getElem_mem hk))) .free aa aa ?_ ?_
  rotate_left
  ·rintro _ _ ⟨⟩
  rintro _ _ rfl
  have hm1:=AC (s:=s) (c:=c) (b:=b) x ws[k]
  refine ad (ao [18,17,16,8,7,0,3] rfl (ab (kPv (aS aa aa) aa (kPm aa aa (ad ?_)))))
  exact fun a w st_=>⟨(k+1,(s.see c b x ws[k])),⟨by omega,by rw[hxe,List.take_succ_eq_append_getElem hk,List.foldl_append];rfl,DK hc hb hxw _,by simp only;omega⟩,by simp only;omega,st_.to (aF aa) (fun hh=>hh)⟩
 ·have hk:¬ k<ws.length:=by simp at h19;omega
  obtain rfl:k=ws.length:=by omega
  rw[List.take_length] at hxe
  refine bT (aO (vN (ι:=gJ×ι×Nat×List Nat) [8,7,0,3] (fun (x,y,n,ms)=>(r6 s c b x)∧(x.2.length≤x.1.length)∧(I y)∧(AA b x<n)∧(itl st (s.reach c b ws) y0=itl st (s.reachL c b n x) y)) (fun (x,y,n,ms)=>xg ms) (fun (x,y,n,ms)=>[]) (fun (x,y,n,ms)=>blk l (.loop r)::aG bd s::row b6 [.map (some mr)] 218::row b1 [i64 b.act,i64 b.used,sv] 95::row b2 [i64 c.log,i64 c.roots,i64 c.space] 40::row b3 [ptr bd] 28::lq 219 105 3 pA b7 x.2::bJ .u64 cF mr x.1::row b8 [.func (.func 172) #[] #[ptr b6,ptr b1,ptr b2,ptr b3,ptr b7]] 220::row b4 [.slice q ws.length cap] 25::ie ms::(Hx y++E)) (fun (x,y,n,ms)=>n) (x,y0,b.used.toNat+1,[]) (⟨hxw,hxl,h0,by unfold AA;omega,by rw[hxe];rfl⟩) (fun a w st=>st.to trivial (fun hh=>((xf (hh.pk [8,6])).pk [1,1,1,1,1,1,1,1,1,1]))) ?_))
  rintro⟨x,y,n,ms⟩ ⟨hxw,hxl,hIy,hn,hinv⟩
  try simp only at hxw hxl hIy hn hinv ⊢
  refine cg (σ':=[(8,_),(7,_),(0,_),(3,_)]) (aF aa) (ac (ac (aJ [6] (pM fun rv hrv=>(aJ [1] (cI fun q2 cap2 hq2 hqi=> ?_))))))
  subst hq2
  refine ab (kPv (ae isAgg219 aa aa) aa (kPv (bY aa runUnderlying219 ⟨_,rfl⟩ rfl) aa (kPv (an aa aa aa) aa (ad ?_))))
  refine aW aa (fun h28=> ?_) (fun h28=> ?_)
  ·obtain⟨x1,x2⟩:=x
   obtain⟨o,t,rfl⟩:∃ o t,x2=o::t:=by
    cases x2 with
    | nil=>simp at h28
    | cons o t=>exact⟨o,t,rfl⟩
   obtain⟨bq2,oq2,rfl⟩:=hqi 0 (Nat.succ_pos _)
   have ho:mu o:=hxw.obj o (List.mem_cons_self ..)
   obtain⟨n,rfl⟩:∃ m,n=m+1:=⟨n - 1,by omega⟩
   have hrl:s.reachL c b (n+1) (x1,o::t)=o::s.reachL c b n ((s.namesOf o).foldl (s.see c b) (x1,t)):=rfl
   have hIy2:=(hround o y ho hIy).1
   simp only at hrv hxl ⊢
   refine ay (aO (ac (ab (kPv (ae isAgg219 aa aa) aa (kPv (tE (m:=oq2+0*3) runUnderlying219 sizeOf105 aa aa (by decide) (by simp only[List.length_cons];omega) aa) aa (kPv (rL (i:=0) isAgg105 sizeOf105 (p9 uz 0 aa) aa aa) aa (aC aa (aN zeroValue105 aa) .free aa aa ?_)))))))
   rintro _ _ ⟨b11,rfl,rfl⟩
   refine aD aa (aI (vs:=_) sizeOf105 aa aa aa aa aa) .free aa ?_
   rintro _ _ rfl
   refine ad (ac (ab (kPv (ae isAgg219 aa aa) aa (aJ [1] (aC aa (uD uz (v:=o) (xs:=t) runUnderlying219 sizeOf105 aa aa) .free aa aa ?_)))))
   rintro rv3 _ ⟨hrv3,rfl⟩
   refine aD aa (aR sizeOf219 aa aa (by first | rfl | assumption) rfl) .free rfl ?_
   rintro _ _ rfl
   refine ad (ao [11,8,7,0,3] rfl (ac (ac (aJ [2,0] (aK (fun w hh=>gX hrv3 hh) (aJ [2,2,1,1,1,1,1] (ab (kPm aa aa (kPv (am isAgg105 sizeOf105 aa aa) aa ?_)))))))))
   refine iW (f:=f) (r:=r) (H1:=aG bd s::(Hx y++([row b11 [i64 o.1,i64 o.2.1,i64 o.2.2] 105,row b6 [.map (some mr)] 218,row b1 [i64 b.act,i64 b.used,sv] 95,row b2 [i64 c.log,i64 c.roots,i64 c.space] 40,row b3 [ptr bd] 28,lq 219 105 3 pA b7 t,bJ .u64 cF mr x1,row b8 [.func (.func 172) #[] #[ptr b6,ptr b1,ptr b2,ptr b3,ptr b7]] 220,row b4 [.slice q ws.length cap] 25,ie ms]++E))) aa aa (fun w hh=>(Holds.hop [row b11 [i64 o.1,i64 o.2.1,i64 o.2.2] 105,row b6 [.map (some mr)] 218,row b1 [i64 b.act,i64 b.used,sv] 95,row b2 [i64 c.log,i64 c.roots,i64 c.space] 40,row b3 [ptr bd] 28,lq 219 105 3 pA b7 t,bJ .u64 cF mr x1,row b8 [.func (.func 172) #[] #[ptr b6,ptr b1,ptr b2,ptr b3,ptr b7]] 220,row b4 [.slice q ws.length cap] 25,ie ms] (Hx y) hh)) (by rw[hrp];rfl) hrf ((hround o y ho hIy).2 ([row b11 [i64 o.1,i64 o.2.1,i64 o.2.2] 105,row b6 [.map (some mr)] 218,row b1 [i64 b.act,i64 b.used,sv] 95,row b2 [i64 c.log,i64 c.roots,i64 c.space] 40,row b3 [ptr bd] 28,lq 219 105 3 pA b7 t,bJ .u64 cF mr x1,row b8 [.func (.func 172) #[] #[ptr b6,ptr b1,ptr b2,ptr b3,ptr b7]] 220,row b4 [.slice q ws.length cap] 25,ie ms]++E)) .free aa ?_ ?_
   rotate_left
   ·rintro _ _ ⟨⟩
   rintro _ _ ⟨rfl,rfl⟩
   refine aK (H':=blk l (.loop (lst r cd (st o y)))::aG bd s::([row b11 [i64 o.1,i64 o.2.1,i64 o.2.2] 105,row b6 [.map (some mr)] 218,row b1 [i64 b.act,i64 b.used,sv] 95,row b2 [i64 c.log,i64 c.roots,i64 c.space] 40,row b3 [ptr bd] 28,lq 219 105 3 pA b7 t,bJ .u64 cF mr x1,row b8 [.func (.func 172) #[] #[ptr b6,ptr b1,ptr b2,ptr b3,ptr b7]] 220,row b4 [.slice q ws.length cap] 25,ie ms]++(Hx (st o y).2++E))) (fun w hh=>Holds.hop (Hx (st o y).2) [row b11 [i64 o.1,i64 o.2.1,i64 o.2.2] 105,row b6 [.map (some mr)] 218,row b1 [i64 b.act,i64 b.used,sv] 95,row b2 [i64 c.log,i64 c.roots,i64 c.space] 40,row b3 [ptr bd] 28,lq 219 105 3 pA b7 t,bJ .u64 cF mr x1,row b8 [.func (.func 172) #[] #[ptr b6,ptr b1,ptr b2,ptr b3,ptr b7]] 220,row b4 [.slice q ws.length cap] 25,ie ms] hh) ?_
   simp only[List.cons_append,List.nil_append]
   refine kPv (bF aa) aa (ad ?_)
   refine aW aa (fun h37=> ?_) (fun h37=> ?_)
   ·have hg:(st o y).1=false:=by simpa using h37
    refine az ?_
    exact wU results171 (vz 11) (fun w hh=>⟨_,⟨by rw[hinv,hrl,CU hg];exact hIy2,by rw[hinv,hrl,CU hg]⟩,(hh.dp [2,2,2,2,2,2,2,2,2])⟩)
   ·have hg:(st o y).1=true:=by simpa using h37
    refine ay (ac (ab (kPv (am isAgg105 sizeOf105 aa aa) aa ?_)))
    refine kPv (ae isAgg28 aa aa) aa (aQ aa (aA call173 aa) (sV _ _ o bd) .free aa aa ?_)
    rintro _ _ ⟨n1,n2,rfl,rfl⟩
    refine ad (ao [40,8,7,0,3] rfl (aO (nL aa call186 ?_)))
    intro l2 m tmps hts hkn w hh
    have hk8:=hkn 8 _ rfl
    have hlr:lst r cd (st o y)=r:=by unfold lst;rw[if_pos hg]
    have hh2:=((hh.dp [6]).pk [0,1,1,2,2,2,2,2,2,2,2,1,1,1])
    rw[hlr] at hh2
    refine(AQ B l2 171 n1 n2 bd o ho s gJ _ aa aa (fun x=>x.2.length≤x.1.length∧r6 s c b x) (fun x=>row b6 [.map (some mr)] 218::row b1 [i64 b.act,i64 b.used,sv] 95::row b2 [i64 c.log,i64 c.roots,i64 c.space] 40::row b3 [ptr bd] 28::lq 219 105 3 pA b7 x.2::bJ .u64 cF mr x.1::row b8 [.func (.func 172) #[] #[ptr b6,ptr b1,ptr b2,ptr b3,ptr b7]] 220::blk l (.loop r)::row b4 [.slice q ws.length cap] 25::ie ms::blk m (.deferred (some []))::(Hx (st o y).2++E)) (fun _=> .ret) (fun (p:Int×Int) (x:gJ)=>(true,s.see c b x (IntKind.u64.wrap p.2))) (x1,t) ?_ ?_ w hh2).mono (Ret.mono ?_ fun _ _ h=>h.elim)
    ·exact⟨by simp only[List.length_cons] at hxl;simp only;omega,⟨hxw.nd,hxw.rng,fun o' ho'=>hxw.obj o' (List.mem_cons_of_mem _ ho')⟩⟩
    ·rintro p x ⟨hxl,hxw⟩
     have hsl:=nh hb hxw
     have hm1:=AC (s:=s) (c:=c) (b:=b) x (IntKind.u64.wrap p.2)
     refine⟨⟨by simp only;omega,DK hc hb hxw _⟩,?_⟩
     refine jd (n:=47) (σ:=[(41,i64 p.1),(42,i64 p.2),(8,ptr b8)]) func171 (by simp[ii,hts]) (KnA.knows (by simp[KnA,ii,hts];exact(Array.getElem?_eq_some_iff.1 hk8).2)) aa ?_;refine ab ?_;refine kPa aa aa ?_;refine ad ?_;refine mS ?_;refine aO ?_;refine ab ?_;refine kPv (ae isAgg220 aa aa) aa ?_;refine kPm aa aa ?_;refine kPv (bP runUnderlying3 runUnderlying26 aa) aa ?_
     refine aJ [4,4,4,4,4,4,3] ?_
     refine aY aa (ku call172 aa aa) (AB B _ b6 b1 b2 b3 b7 mr bd s c hc b sv hb hsv x (by omega) (IntKind.u64.wrap p.2) (D2 _)) .free aa aa ?_ ?_
     rotate_left
     ·rintro _ _ ⟨⟩
     rintro _ _ rfl
     refine ad (ao [] rfl (aJ [7] ?_))
     exact nH fun w hh=>⟨_,⟨rfl,rfl⟩,(hh.pk [0,7,7,6])⟩
    rintro _ _ ⟨⟨hxl2,hxw2⟩,rfl⟩
    rw[ra] at hxl2 hxw2 ⊢
    have hfe:List.foldl (fun x (p:Int×Int)=>s.see c b x (IntKind.u64.wrap p.2)) (x1,t) (s.objNames o o.2.1.toNat 0)=(s.namesOf o).foldl (s.see c b) (x1,t):=by unfold Dev.namesOf;rw[List.foldl_map]
    rw[hfe] at hxl2 hxw2 ⊢
    have hm2:=tz (s:=s) (c:=c) (b:=b) (s.namesOf o) (x1,t)
    simp only at hxl2 hxw2 hm2
    have hs1:=nh hb hxw2
    have hs2:=nh hb hxw
    simp only at hs1 hs2
    refine⟨_,_,fun w hh=>hh,nB (by simp[ii]),fun hp=> ?_,fun c' hc'=>absurd (nz aa hc').1 (fun h=>Bool.noConfusion h)⟩
    exact fun a w st_=>⟨(_,(st o y).2,n,m::ms),⟨hxw2,hxl2,hIy2,by unfold AA at hn ⊢;simp only[List.length_cons] at hn ⊢;omega,by rw[hinv,hrl,CT hg]⟩,by simp only;omega,st_.to (aF aa) (fun hh=>((vA ((hh.dp [0,0,0]).pk [11,10,8])).pk [1,1,1,1,1,1,1,1,1,1]))⟩
  ·have hxn:x.2=[]:=by
    cases hx2:x.2 with
    | nil=>rfl
    | cons o t=>rw[hx2] at h28;simp at h28
   refine bT ?_
   exact mU results171 (vz 11) (fun w hh=>⟨_,⟨by rw[hinv,qJ hxn];exact hIy,by rw[hinv,qJ hxn];rfl⟩,(hh.dp [0,0,2,2,2,2,2,2,2])⟩)
theorem uN(B:World)(H:List HP)(bd:Nat)(c:Cfg)(b:Blk)(sv:Value)(hsv:aV sv=true)(wv:Value)(hwv:aV wv=true):
 ∀ w,Holds B H w→Calls Tryz.prog 138 [ptr bd,eO c,mW b sv,wv].toArray w (Ret B (fun v H'=>∃ b1 b2 b3 b4,v= .func (.func 171) [].toArray [ptr b1,ptr b2,ptr b3,ptr b4].toArray∧H'=row b4 [wv] 25::row b1 [i64 b.act,i64 b.used,sv] 95::row b2 [i64 c.log,i64 c.roots,i64 c.space] 40::row b3 [ptr bd] 28::H) (fun _ _=>False)):=by
 refine au func138 aa ntmps138 aa (ac (ab (aC aa (dA aa aa) .free aa aa ?_)))
 rintro _ _ ⟨b4,rfl,rfl⟩
 refine aC aa (bx aa) .free aa aa ?_
 rintro _ _ ⟨b5,rfl,rfl⟩
 refine aC aa (bx aa) .free aa aa ?_
 rintro _ _ ⟨b6,rfl,rfl⟩
 refine aC aa (dA aa hwv) .free aa aa ?_
 rintro _ _ ⟨b7,rfl,rfl⟩
 refine kPa aa aa (ad (ac (ab (kPv (dm aa aa) aa (kPa aa aa (ad (ao [8] rfl (az ?_))))))))
 exact ax results138 aa (fun w hw=>⟨_,⟨_,_,_,_,rfl,rfl⟩,hw⟩)
def qy(n:Int)(o:du):Int:=IntKind.i64.wrap (n+(o.1+1))
def Dev.reachSize(s:Dev)(c:Cfg)(b:Blk)(ws:List Int):Int:=(s.reach c b ws).foldl qy 0
theorem p5(B:World)(Fr:List HP)(bd:Nat)(c:Cfg)(hc:bC c)(b:Blk)(sv:Value)(hb:fg c b)(hsv:aV sv=true)(s:Dev)(q:Option Addr)(cap:Nat)(ws:List Int)(hws:∀ v∈ws,0≤v∧v<18446744073709551616)(hwn:ws.length≤1000000)(hwq:∀ i,i<ws.length→∃ b off,q=some ⟨b,off,none⟩)(hwl:SlR B Fr (.slice q ws.length cap) (ws.map w64)):
 ∀ w,Holds B (aG bd s::Fr) w→Calls Tryz.prog 73 [ptr bd,eO c,mW b sv,.slice q ws.length cap].toArray w (bB B (aG bd s::Fr) (i64 (s.reachSize c b ws))):=by
 refine go func73 aa ntmps73 aa (ac (ab (aC aa (bx aa) .free aa aa ?_)))
 rintro _ _ ⟨b5,rfl,rfl⟩
 refine aC aa (bx aa) .free aa aa ?_
 rintro _ _ ⟨b6,rfl,rfl⟩
 refine kPa aa aa (ad (ac (ab (aC aa (cA zeroValue3 aa) .free aa aa ?_))))
 rintro _ _ ⟨b9,rfl,rfl⟩
 refine aD aa (aR sizeOf3 aa aa aa aa) .free aa ?_
 rintro _ _ rfl
 refine ad (ac (ac (ab (kPm aa aa (kPv (am isAgg40 sizeOf40 aa aa) aa ?_)))))
 refine kPv (am isAgg95 sizeOf95 aa aa) aa ?_
 refine kPm aa aa (aQ aa (aA call138 aa) (uN _ _ bd c b sv hsv (.slice q ws.length cap) aa) .free aa aa ?_)
 rintro _ _ ⟨c1,c2,c3,c4,rfl,rfl⟩
 refine ad (ao [15,9,8] rfl (aO (nL aa call171 ?_)))
 intro l m tmps hts hkn w hh
 have hk9:=hkn 9 _ rfl
 refine(zc B (blk m (.deferred (some []))::Fr) l 73 c1 c2 c3 c4 bd c hc b sv hb hsv s q cap ws hws hwn hwq Int _ aa aa (fun x=>True) (fun x=>[row b9 [i64 x] 3]) (fun _=> .ret) (fun o x=>(true,qy x o)) 0 trivial ((hwl.cons _).cons _) ?_ w ((hh.dp [7,7]).pk [0,2,2,2,1,2,1])).mono (Ret.mono ?_ fun _ _ h=>h.elim)
 ·intro o x ho _
  have ho1:=ho.w
  refine⟨trivial,fun E=> ?_⟩
  simp only[List.cons_append,List.nil_append]
  refine jd (n:=23) (σ:=[(16,iF o),(9,ptr b9)]) func73 (by simp[ii,hts]) (KnA.knows (by simp[KnA,ii,hts];exact(Array.getElem?_eq_some_iff.1 hk9).2)) aa ?_;refine ab ?_;refine aC aa (aN zeroValue105 aa) .free aa aa ?_
  rintro _ _ ⟨b10,rfl,rfl⟩
  refine aD aa (aI (vs:=_) sizeOf105 aa aa aa aa aa) .free aa ?_
  rintro _ _ rfl
  refine ad (aJ [1] (mS (aO (cD 5 Tryz.mixed (by kernel_rfl) (by kernel_rfl) ?_))))
  refine kQv (ae isAgg3 aa aa) aa (kQv (aj (m:=_) fD aa aa) aa (kQv (am isAgg38 sizeOf38 aa aa) aa ?_))
  refine bH aa (aA call114 aa) (fB _ _ _ _ (by omega)) .free aa ?_
  refine kQv (oP (c:=qy x o) aa aa aa) aa (bR (aD aa (aR sizeOf3 aa aa aa aa) .free aa ?_))
  rintro _ _ rfl
  refine ad (ao [] rfl ?_)
  exact nH fun w hh=>⟨_,⟨rfl,rfl⟩,(hh.dp [1])⟩
 rintro _ _ ⟨_,rfl⟩
 rw[ra]
 simp only[List.cons_append,List.nil_append]
 refine⟨_,_,fun w hh=>hh,nB (by simp[ii]),fun hp=> ?_,fun c' hc'=>absurd (nz aa hc').1 (fun h=>Bool.noConfusion h)⟩
 refine ac (ab (kPv (ae isAgg3 aa aa) aa (kPa aa aa (ad (az ?_)))))
 exact gx results73 aa (.at 3 (.nil)) (fun w hh=>⟨rfl,(hh.dp [0,1,1])⟩)
structure bE where
 bd:Nat
 c:Cfg
 b:Blk
 to_:Int
 scan:Int
 free:Int
 todo:List Int
 went:List (Int×Int)
 done:Bool
abbrev fU(S:bE)(rsv tsv:Value)(mw:Nat):List Value:=[ptr S.bd,i64 S.c.log,i64 S.c.roots,i64 S.c.space,i64 S.b.act,i64 S.b.used,rsv,i64 S.to_,i64 S.scan,i64 S.free,tsv,.map (some mw),.bool S.done]
def fw(x:Nat)(S:bE):HP:=hex fun (p:Value×Value×Nat)=>grp [row x (fU S p.1 p.2.1 p.2.2) 191,dy 0 (p.1,S.b.rts),dy 0 (p.2.1,S.todo),bJ .u64 i64 p.2.2 S.went,pr (aV p.1=true∧aV p.2.1=true)]
theorem kZ{B:World}{n:Nat}{D:List Deferred}{σ:Env}{x:Nat}{S:bE}{Fr:List HP}{K:Act→World→Prop}(h:∀ rsv tsv mw,aV rsv=true→aV tsv=true→GO B n D σ (row x (fU S rsv tsv mw) 191::dy 0 (rsv,S.b.rts)::dy 0 (tsv,S.todo)::bJ .u64 i64 mw S.went::Fr) K):GO B n D σ (fw x S::Fr) K:=fun a w st=>by
 obtain⟨p,hx⟩:=st.holds.hex
 have h2:=(hx.grp.front 4 rfl).pr
 exact h _ _ _ h2.1.1 h2.1.2 a w ⟨st.toStA,h2.2⟩
theorem c7{B:World}{x mw:Nat}{S:bE}{rsv tsv:Value}{Fr:List HP}{w:World}(hr:aV rsv=true)(ht:aV tsv=true)(h:Holds B (row x (fU S rsv tsv mw) 191::dy 0 (rsv,S.b.rts)::dy 0 (tsv,S.todo)::bJ .u64 i64 mw S.went::Fr) w):Holds B (fw x S::Fr) w:=
 Holds.unhex (rsv,tsv,mw) (Holds.ungrp (l:=[row x (fU S rsv tsv mw) 191,dy 0 (rsv,S.b.rts),dy 0 (tsv,S.todo),bJ .u64 i64 mw S.went,pr _]) ((h.unpr ⟨hr,ht⟩).back 4 (by simp)))
def pB:Nat→Int→Int→Int→Dev→Out Unit
 | 0,_,_,_,s=> .ok () s
 | k+1,i,a,f,s=>(s.store (a+i) (s.load (f+i))).then fun _ s'=>pB k (i+1) a f s'
theorem kx(k:Nat)(i a f:Int)(s:Dev):pB (k+1) i a f s=(s.store (a+i) (s.load (f+i))).then fun _ s'=>pB k (i+1) a f s':=rfl
def bE.copied(S:bE)(s:Dev)(w:Int):Out (Int×bE):=
 if (bi S.went w).isSome=true then .ok ((bi S.went w).getD 0,S) s
 else if S.b.has S.c w=false then .ok (0,S) s
 else if (s.objOf S.c S.b w).2≠0 then .ok (0,S) s
 else (pB ((s.objOf S.c S.b w).1.1+1).toNat 0 S.free (s.objOf S.c S.b w).1.2.2 s).then fun _ s'=> .ok (S.free,{S with free:=S.free+((s.objOf S.c S.b w).1.1+1),went:=mset S.went w S.free}) s'
def jG:Nat→Int→bE→Dev→Out bE
 | 0,_,S,s=> .ok S s
 | k+1,i,S,s=>if s.load (S.scan+1+i)=0 then jG k (i+1) S s
   else (S.copied s (s.load (S.scan+1+i))).then fun r s1=>(s1.store (S.scan+1+i) r.1).then fun _ s2=>jG k (i+1) r.2 s2
def keepN:Nat→Int→Int→Dev→Out Unit
 | 0,_,_,s=> .ok () s
 | f+1,i,e,s=>if i<e then (s.flush i).then fun _ s'=>keepN f (i+8) e s' else .ok () s
def bE.keep(S:bE)(s:Dev):Out Unit:=
 (keepN ((S.free - S.to_).toNat+1) S.to_ S.free s).then fun _ s'=>if S.to_<S.free then s'.fence else .ok () s'
def bE.step(S:bE)(s:Dev):Out (Bool×bE):=
 if S.done=true then .ok (true,S) s
 else match S.todo with
  | w::t=>(S.copied s w).then fun r s'=> .ok (false,{r.2 with todo:=t}) s'
  | []=>if S.scan<S.free then
   (jG (unp (s.load S.scan)).2.1.toNat 0 S s).then fun S' s'=> .ok (false,{S' with scan:=S'.scan+((unp (s.load S.scan)).1+1)}) s'
    else (S.keep s).then fun _ s'=> .ok (true,{S with done:=true}) s'
def so:Nat→bE→Dev→Out bE
 | 0,S,s=> .ok S s
 | f+1,S,s=>(S.step s).then fun r s'=>if r.1=true then .ok r.2 s' else so f r.2 s'
def bE.meas(S:bE):Nat:=S.todo.length+(S.free - S.scan).toNat+66*(S.b.used.toNat - S.went.length)+(if S.done=true then 0 else 1)
def bE.run(S:bE)(s:Dev):Out bE:=so (S.meas+1) S s
def bE.block(S:bE):Blk:=⟨1 - S.b.act,S.free - S.to_,S.b.rts.map fun w=>(bi S.went w).getD 0⟩
def dR(bd:Nat)(c:Cfg)(b:Blk)(ws:List Int):bE:=⟨bd,c,b,c.frm (1 - b.act),c.frm (1 - b.act),c.frm (1 - b.act),ws,[],false⟩
structure ev(S:bE):Prop where
 c:bC S.c
 b:fg S.c S.b
 rl:S.b.rts.length≤16
 to_:0≤S.to_∧S.to_≤20000
 scan:S.to_≤S.scan∧S.scan≤400000
 free:S.to_≤S.free∧S.free≤S.to_+65*S.went.length
 nd:(S.went.map Prod.fst).Nodup
 rng:∀ k∈S.went.map Prod.fst,S.c.frm S.b.act≤k∧k<S.c.frm S.b.act+S.b.used
 val:∀ p∈S.went,0≤p.2∧p.2≤1000000
 todo:∀ v∈S.todo,0≤v∧v<18446744073709551616
 rts:∀ v∈S.b.rts,0≤v∧v<18446744073709551616
theorem ev.wl{S:bE}(h:ev S):S.went.length≤S.b.used.toNat:=by
 have h1:=h.b.used
 have:=kh S.b.used.toNat (S.c.frm S.b.act) _ h.nd fun k hk=>by have:=h.rng k hk;omega
 simpa using this
theorem ev.fb{S:bE}(h:ev S):S.free≤300000:=by
 have h1:=h.wl;have h2:=h.b.used;have h3:=h.c.s2;have h4:=h.free;have h5:=h.to_;omega
theorem ev.vb{S:bE}(h:ev S)(w:Int):0≤(bi S.went w).getD 0∧(bi S.went w).getD 0≤1000000:=by
 cases hm:bi S.went w with
 | none=>exact⟨Int.le_refl 0,by decide⟩
 | some v=>exact h.val _ (qZ hm)
theorem n4{S:bE}(h:ev S){s s':Dev}{w:Int}{r:Int×bE}(e:S.copied s w= .ok r s'):ev r.2∧(0≤r.1∧r.1≤1000000)∧r.2.scan=S.scan∧r.2.todo=S.todo∧r.2.done=S.done∧r.2.b=S.b∧r.2.bd=S.bd∧r.2.c=S.c∧r.2.to_=S.to_∧S.free≤r.2.free∧r.2.free - S.free+66*(S.b.used.toNat - r.2.went.length:Nat)≤66*(S.b.used.toNat - S.went.length:Nat):=by
 have hwl:=h.wl;have hfb:=h.fb;have hto:=h.to_;have hfr:=h.free
 unfold bE.copied at e
 split at e
 ·cases e;exact⟨h,h.vb w,rfl,rfl,rfl,rfl,rfl,rfl,rfl,Int.le_refl _,by simp only;omega⟩
 rename_i h1
 split at e
 ·cases e;exact⟨h,⟨Int.le_refl 0,by simp only;omega⟩,rfl,rfl,rfl,rfl,rfl,rfl,rfl,Int.le_refl _,by simp only;omega⟩
 rename_i h2
 split at e
 ·cases e;exact⟨h,⟨Int.le_refl 0,by simp only;omega⟩,rfl,rfl,rfl,rfl,rfl,rfl,rfl,Int.le_refl _,by simp only;omega⟩
 obtain⟨_,s1,_,e⟩:=aM e
 cases e
 have h3:bi S.went w=none:=by cases hm:bi S.went w with
  | none=>rfl
  | some _=>exact absurd (by rw[hm];rfl) h1
 have h4:S.b.has S.c w=true:=by cases hm:S.b.has S.c w with
  | true=>rfl
  | false=>exact absurd hm h2
 have h5:=jX h.c h.b h4
 have h6:=yl (s:=s) (c:=S.c) (b:=S.b) (a:=w)
 have hnk:w∉S.went.map Prod.fst:=i0 h3
 have hnd:((S.went++[(w,S.free)]).map Prod.fst).Nodup:=by
  rw[List.map_append,List.nodup_append]
  exact⟨h.nd,by simp,fun a ha b' hb'=>by simp at hb';subst hb';intro e;subst e;exact hnk ha⟩
 have hrng:∀ k∈(S.went++[(w,S.free)]).map Prod.fst,S.c.frm S.b.act≤k∧k<S.c.frm S.b.act+S.b.used:=fun k hk=>by
  rw[List.map_append,List.mem_append] at hk
  rcases hk with hk | hk
  ·exact h.rng k hk
  ·simp at hk;subst hk;omega
 have hl2:=kh S.b.used.toNat (S.c.frm S.b.act) _ hnd fun k hk=>by have:=hrng k hk;have:=h.b.used;omega
 simp only[List.length_map,List.length_append,List.length_cons,List.length_nil] at hl2
 refine⟨⟨h.c,h.b,h.rl,h.to_,h.scan,?_,by rw[dO h3];exact hnd,by rw[dO h3];exact hrng,fun p hp=> ?_,h.todo,h.rts⟩,⟨by simp only;omega,by simp only;omega⟩,rfl,rfl,rfl,rfl,rfl,rfl,rfl,by simp only;omega,?_⟩
 ·rw[dO h3];simp only[List.length_append,List.length_cons,List.length_nil];omega
 ·rw[dO h3] at hp
  rcases List.mem_append.1 hp with hp | hp
  ·exact h.val p hp
  ·rw[List.mem_singleton.1 hp];simp only;omega
 ·rw[dO h3];simp only[List.length_append,List.length_cons,List.length_nil];omega
theorem we:∀ (k:Nat) (i a f:Int) (s s':Dev),U64 s→pB k i a f s= .ok () s'→U64 s'∧s'.n=s.n
 | 0,_,_,_,s,s',h,e=>by cases e;exact⟨h,rfl⟩
 | k+1,i,a,f,s,s',h,e=>by
   unfold pB at e
   obtain⟨_,s1,e1,e⟩:=aM e
   have h1:=cQ h (h.load _) e1
   have h2:=we k _ _ _ s1 s' h1.1 e
   exact⟨h2.1,h2.2.trans h1.2⟩
theorem lm{S:bE}{s s':Dev}{w:Int}{r:Int×bE}(hu:U64 s)(e:S.copied s w= .ok r s'):U64 s'∧s'.n=s.n:=by
 unfold bE.copied at e
 split at e
 ·cases e;exact⟨hu,rfl⟩
 split at e
 ·cases e;exact⟨hu,rfl⟩
 split at e
 ·cases e;exact⟨hu,rfl⟩
 obtain⟨_,s1,e1,e⟩:=aM e
 cases e;exact we _ _ _ _ _ _ hu e1
theorem rS(B:World)(Fr:List HP)(x:Nat)(S:bE)(hS:ev S)(s:Dev)(hu:U64 s)(v:Int)(hv:0≤v∧v<18446744073709551616):
 ∀ w,Holds B (fw x S::aG S.bd s::Fr) w→Calls Tryz.prog 157 [ptr x,w64 v].toArray w (Ret B (fun rv H'=>∃ r s',S.copied s v= .ok r s'∧rv=i64 r.1∧H'=fw x r.2::aG S.bd s'::Fr) (fun c H'=>∃ s',S.copied s v= .off s'∧c=dN∧H'=aG S.bd s'::Fr)):=by
 refine au func157 aa ntmps157 aa (kZ fun rsv tsv mw hrsv htsv=> ?_)
 have hfb:=hS.fb
 have hfr:=hS.free
 have hto:=hS.to_
 refine ac (ab (kPa aa aa (ad (ac (ac (ab (kPm aa aa (kPv (ak aa) aa (kPv (aj (m:=_) nQ aa aa) aa (kPv (ae isAgg189 aa aa) aa (kPm aa aa ?_)))))))))))
 refine kPv ((fE runUnderlying189 runUnderlying26 zeroValue3 aa aa).eq (congrArg (fun v=>Value.tuple #[v,.bool _]) (ow _))) aa (kPm aa aa (kPv (aB aa aa) aa (kPv (aB aa aa) aa (kPa aa aa (kPa aa aa (ad (ao [6,5,4,0,1] rfl (ac (ab (kPm aa aa (ad ?_)))))))))))
 refine aW aa (fun h20=> ?_) (fun h20=> ?_)
 ·have h1:(bi S.went v).isSome=true:=by simpa using h20
  have hres:S.copied s v= .ok ((bi S.went v).getD 0,S) s:=by unfold bE.copied;rw[if_pos h1]
  refine ac (ab (kPm aa aa (kPa aa aa (ad (az ?_)))))
  exact ax results157 aa (fun w hh=>⟨_,⟨_,_,hres,rfl,rfl⟩,c7 hrsv htsv hh⟩)
 ·have h1:¬ (bi S.went v).isSome=true:=by simpa using h20
  refine ay (ac (ac (cK Tryz.mixed (by kernel_rfl) (by kernel_rfl) ?_)))
  refine kQm aa aa (kQv (ak aa) aa (kQv (aj (m:=_) nS aa aa) aa (kQv (am isAgg95 sizeOf95 aa aa) aa ?_)))
  refine kQm aa aa (kQv (ak aa) aa (kQv (aj (m:=_) vX aa aa) aa (kQv (am isAgg40 sizeOf40 aa aa) aa ?_)))
  refine kQm aa aa (bH aa (aA call135 aa) (rq _ _ S.c hS.c S.b rsv hS.b hrsv _ hv) .free aa ?_)
  refine kQv (bF aa) aa (bR (ao [32,4,0,1] rfl ?_))
  refine aW aa (fun h32=> ?_) (fun h32=> ?_)
  ·have h2:S.b.has S.c v=false:=by simpa using h32
   have hres:S.copied s v= .ok (0,S) s:=by unfold bE.copied;rw[if_neg h1,if_pos h2]
   refine ac (ab (kPa aa aa (ad (az ?_))))
   exact ax results157 aa (fun w hh=>⟨_,⟨_,_,hres,rfl,rfl⟩,c7 hrsv htsv hh⟩)
  ·have hh0:S.b.has S.c v=true:=by simpa using h32
   have h2:¬ S.b.has S.c v=false:=by rw[hh0];decide
   have hvb:=jX hS.c hS.b hh0
   refine ay (ac ?_)
   refine lb (.br [0,1,2,3,4,5,6,7,8,9,10,11,12,13] 14 (.fin [15,16,17,18,19,20]) 18 (.fin [14,15,16,17,19,20])) [14,18,19] [0,1,2,3,4,5,6,7,8,9,10,11,12,13,15,16,17] [18,19] [row x (fU S rsv tsv mw) 191] [4,0,1] (G:=Nat) (fun b7=>[(7,ptr b7),(8,i64 (s.objOf S.c S.b v).2)]) (fun b7=>row b7 [i64 (s.objOf S.c S.b v).1.1,i64 (s.objOf S.c S.b v).1.2.1,i64 (s.objOf S.c S.b v).1.2.2] 105::row x (fU S rsv tsv mw) 191::dy 0 (rsv,S.b.rts)::dy 0 (tsv,S.todo)::bJ .u64 i64 mw S.went::aG S.bd s::Fr) Tryz.mixed (by kernel_rfl) ?_ ?_
   ·skip
    refine wF (al aa aa aa (ap aa) .free aa (al aa aa aa (ak aa) .free aa (al aa aa aa (aj (m:=_) iH aa aa) .free aa (al aa aa aa (ae isAgg28 aa aa) .free aa (al aa aa aa (ap aa) .free aa (al aa aa aa (ak aa) .free aa (al aa aa aa (aj (m:=_) vX aa aa) .free aa (al aa aa aa (am isAgg40 sizeOf40 aa aa) .free aa ?_))))))))
    refine al aa aa aa (ap aa) .free aa (al aa aa aa (ak aa) .free aa (al aa aa aa (aj (m:=_) nS aa aa) .free aa (al aa aa aa (am isAgg95 sizeOf95 aa aa) .free aa ?_)))
    refine al aa aa aa (ap aa) .free aa ?_
    have hvb:=jX hS.c hS.b hh0
    refine al aa aa aa (dh runUnderlying26 runUnderlying3 aa (gh (by omega))) .free aa (cJ ?_)
    refine qg aa aa ?_ ?_
    ·skip
     refine aE aa (aA call122 aa) (bU (q:=aG) (fun Fr=>lL _ Fr _ _ S.c hS.c S.b rsv hS.b hrsv v (by omega))) .free aa aa ?_
     refine ad (uV aa (jE (al aa aa aa (ap aa) .free aa (al aa aa aa (aB aa aa) .free aa (al aa aa aa (aB aa aa) .free aa (aU aa aa (aC aa (aN zeroValue105 aa) .free aa aa ?_)))))))
     rintro _ _ ⟨b7,rfl,rfl⟩
     refine ad (cN (aU aa aa (aD aa (aI (vs:=_) sizeOf105 aa aa aa aa aa) .free aa ?_)))
     rintro _ _ rfl
     refine ad (cN (aT aa aa aa (bK aa) .free aa (cJ ?_)))
     exact fun a w st_=>⟨b7,st_.to (aF aa) (fun hh=>hh)⟩
    ·skip
     refine aC aa (aN zeroValue105 aa) .free aa aa ?_
     rintro _ _ ⟨b7,rfl,rfl⟩
     refine ad (tP (jE (aU aa aa (aE aa (aA call122 aa) (bU (q:=aG) (fun Fr=>lL _ Fr _ _ S.c hS.c S.b rsv hS.b hrsv v (by omega))) .free aa aa ?_))))
     refine ad (c9 aa (al aa aa aa (ap aa) .free aa (al aa aa aa (aB aa aa) .free aa (al aa aa aa (aB aa aa) .free aa (aU aa aa (aD aa (aI (vs:=_) sizeOf105 aa aa aa aa aa) .free aa ?_))))))
     rintro _ _ rfl
     refine ad (cN (aT aa aa aa (bK aa) .free aa (cJ ?_)))
     exact fun a w st_=>⟨b7,st_.to (aF aa) (fun hh=>hh)⟩
   intro b7
   refine cg (σ':=[(7,ptr b7),(8,i64 (s.objOf S.c S.b v).2),(4,_),(0,_),(1,_)]) (aF aa) (ac (ac (ab (kPm aa aa (kPv (an aa aa aa) aa (ad ?_))))))
   refine aW aa (fun h52=> ?_) (fun h52=> ?_)
   ·have h3:(s.objOf S.c S.b v).2≠0:=by simpa using h52
    have hres:S.copied s v= .ok (0,S) s:=by unfold bE.copied;rw[if_neg h1,if_neg h2,if_pos h3]
    refine ac (ab (kPa aa aa (ad (az ?_))))
    exact ax results157 aa (fun w hh=>⟨_,⟨_,_,hres,rfl,rfl⟩,c7 hrsv htsv (hh.dp [0])⟩)
   ·have h3:¬ (s.objOf S.c S.b v).2≠0:=by simpa using h52
    have ho:=iX hS.c hS.b (a:=v) (s:=s) (by omega)
    have ho1:=ho.w
    have ho3:=ho.at_
    have hcp:S.copied s v=(pB ((s.objOf S.c S.b v).1.1+1).toNat 0 S.free (s.objOf S.c S.b v).1.2.2 s).then fun _ s'=> .ok (S.free,{S with free:=S.free+((s.objOf S.c S.b v).1.1+1),went:=mset S.went v S.free}) s':=by unfold bE.copied;rw[if_neg h1,if_neg h2,if_neg h3]
    refine ay (ac (ab (kPm aa aa (kPv (ak aa) aa (kPv (aj (m:=_) ju aa aa) aa (kPv (ae isAgg3 aa aa) aa (kPa aa aa (ad (ao [9,7,4,0,1] rfl (ac (ac ?_)))))))))))
    refine ab (kPv (aj (m:=_) fD aa aa) aa (kPv (am isAgg38 sizeOf38 aa aa) aa ?_))
    refine aE aa (aA call114 aa) (fB _ _ _ _ (by omega)) .free aa aa ?_
    refine kPm aa aa (ad (aO ?_))
    refine cR (ι:=Nat×Dev) [59,9,7,4,0,1] (fun (i,sI)=>((i:Int)≤(s.objOf S.c S.b v).1.1+1)∧(pB ((s.objOf S.c S.b v).1.1+1).toNat 0 S.free (s.objOf S.c S.b v).1.2.2 s=pB (((s.objOf S.c S.b v).1.1+1).toNat - i) i S.free (s.objOf S.c S.b v).1.2.2 sI)) (fun (i,sI)=>[(60,i64 i)]) (fun (i,sI)=>row b7 [i64 (s.objOf S.c S.b v).1.1,i64 (s.objOf S.c S.b v).1.2.1,i64 (s.objOf S.c S.b v).1.2.2] 105::row x (fU S rsv tsv mw) 191::dy 0 (rsv,S.b.rts)::dy 0 (tsv,S.todo)::bJ .u64 i64 mw S.went::aG S.bd sI::Fr) (fun (i,sI)=>((s.objOf S.c S.b v).1.1+1).toNat - i) (0,s) (⟨by first | omega | (simp only;omega),rfl⟩) (fun a w st=>st.to ⟨rfl,trivial⟩ (fun hh=>hh)) ?_
    rintro⟨i,sI⟩ ⟨hi0,hinv⟩
    try simp only at hi0 hinv ⊢
    refine cg (σ':=[(60,i64 i),(59,_),(9,_),(7,_),(4,_),(0,_),(1,_)]) (aF aa) (ac (ab (kPv (an aa aa aa) aa (ad (ac ?_)))))
    refine aW aa (fun h61=> ?_) (fun h61=> ?_)
    ·have hi:(i:Int)<(s.objOf S.c S.b v).1.1+1:=by simpa using h61
     refine ay (ac (aO (ac (ab (kPm aa aa (kPa aa aa (ad (cD 16 Tryz.mixed (by kernel_rfl) (by kernel_rfl) ?_))))))))
     refine kQm aa aa (kQv (ak aa) aa (kQv (aj (m:=_) iH aa aa) aa (kQv (ae isAgg28 aa aa) aa (kQm aa aa (kQm aa aa (kQv (aS aa aa) aa (kQm aa aa (kQv (ak aa) aa (kQv (aj (m:=_) iH aa aa) aa (kQv (ae isAgg28 aa aa) aa (kQv (aj (m:=_) lY aa aa) aa ?_)))))))))))
     refine kQv (ae isAgg3 aa aa) aa (kQm aa aa (kQv (aS aa aa) aa (bH aa (aA call71 aa) (bU (q:=aG) (fun Fr=>cH _ Fr _ _ _)) .free aa ?_)))
     refine bR ?_
     refine aY aa (aA call120 aa) (da (fun Fr=>cZ _ Fr _ _ _ _)) .free aa aa ?_ ?_
     rotate_left
     ·rintro _ _ ⟨s9,⟨hm9,rfl⟩,rfl⟩
      exact bz fun w hh=>⟨_,⟨s9,by rw[hcp,hinv,show((s.objOf S.c S.b v).1.1+1).toNat - i=(((s.objOf S.c S.b v).1.1+1).toNat - (i+1))+1 by omega,kx,hm9];rfl,rfl,rfl⟩,(hh.dp [0,0,0,0,0])⟩
     rintro _ _ ⟨s1,⟨e1,hm1,rfl⟩,rfl⟩
     refine ad (ao [60,59,9,7,4,0,1] rfl (ab (kPv (aS aa aa) aa (kPm aa aa (ad ?_)))))
     exact fun a w st_=>⟨(i+1,s1),⟨by first | omega | (simp only;omega),by rw[hinv,show((s.objOf S.c S.b v).1.1+1).toNat - i=(((s.objOf S.c S.b v).1.1+1).toNat - (i+1))+1 by omega,kx,hm1];rfl⟩,by first | omega | (simp only;omega),st_.to (aF aa) (fun hh=>hh)⟩
    ·have hi:¬ (i:Int)<(s.objOf S.c S.b v).1.1+1:=by simpa using h61
     refine bT (ac (cD 10 Tryz.mixed (by kernel_rfl) (by kernel_rfl) ?_))
     refine kQm aa aa (kQv (ak aa) aa (kQv (aj (m:=_) ju aa aa) aa (kQv (ae isAgg3 aa aa) aa (kQv (aj (m:=_) fD aa aa) aa (kQv (am isAgg38 sizeOf38 aa aa) aa ?_)))))
     refine bH aa (aA call114 aa) (fB _ _ _ _ (by omega)) .free aa ?_
     refine kQv (aS aa aa) aa (kQv (ak aa) aa (kQv (aj (m:=_) ju aa aa) aa (bR (aD aa (aR sizeOf3 aa aa aa aa) .free aa ?_))))
     rintro _ _ rfl
     refine ad (ao [9,4,0,1] rfl (ac (ab (kPm aa aa (kPv (ak aa) aa (kPv (aj (m:=_) nQ aa aa) aa (kPv (ae isAgg189 aa aa) aa (kPm aa aa (kPm aa aa (aD aa (ip (enc:=i64) runUnderlying189 runUnderlying26 aa aa aa aa) .free aa ?_))))))))))
     rintro _ _ rfl
     refine ad (ao [9,4] rfl (ac (ab (kPm aa aa (kPa aa aa (ad (az ?_)))))))
     exact ax results157 aa (fun w hh=>⟨_,⟨_,_,by rw[hcp,hinv,show((s.objOf S.c S.b v).1.1+1).toNat - i=0 by omega];rfl,rfl,rfl⟩,c7 (S:={S with free:=S.free+((s.objOf S.c S.b v).1.1+1),went:=mset S.went v S.free}) hrsv htsv (hh.dp [0])⟩)
end Go.Proofs.YtlcibdhmgclfjaaGreat
