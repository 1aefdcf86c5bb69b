/- Part of a law's texts. Conditions: none. -/
import Derived.Test.YtoakdoeajpjgkaaGreatDoorQL18Wk
open Go.Proofs.Tryz
set_option linter.all false
namespace Go.Proofs.YtoakdoeajpjgkaaGreatDoor
open Go
theorem AT{l:List UInt8}{c:UInt8}(h:¬ Lib.indexByte l c<0):∃ i:Nat,Lib.indexByte l c=i∧i<l.length:=by
 rcases i7 l c with h1 | h1
 ·omega
 ·exact h1
theorem vE{c:UInt8}{N:Nat}:∀ (k:Nat) (l:List UInt8),l.length≤k→l.length≤N→∀ p∈spl c l,p.length≤N
 | 0,l,h,_,p,hp=>by
   obtain rfl:=List.eq_nil_of_length_eq_zero (Nat.le_zero.1 h)
   simp[spl] at hp;subst hp;exact Nat.zero_le _
 | k+1,l,h,hN,p,hp=>by
   rcases i7 l c with h1 | ⟨i,h1,h2⟩
   ·rw[n8 h1] at hp;rw[List.mem_singleton.1 hp];exact hN
   ·rw[lN h1] at hp
    rcases List.mem_cons.1 hp with rfl | hp
    ·rw[List.length_take];omega
    ·exact vE k (l.drop (i+1)) (by rw[List.length_drop];omega) (by rw[List.length_drop];omega) p hp
theorem Aw(B:World)(Fr:List HP)(s:List UInt8):
 ∀ w,Holds B Fr w→Calls Tryz.prog 51 [str s,.string ⟨#[10]⟩,i64 0].toArray w (Ret B (fun v H'=>∃ b1 b2 b3,v= .func (.func 94) [].toArray [ptr b2,ptr b1,ptr b3].toArray∧H'=row b3 [i64 0] 3::row b2 [.string ⟨#[10]⟩] 9::row b1 [str s] 9::Fr) (fun _ _=>False)):=by
 refine ap func51 aa ntmps51 aa (ac (ab (kPb (dF aa aa) aa fun b3=>(kPb (dF aa aa) aa fun b4=>(kPb (dF aa aa) aa fun b5=>(kPa aa aa (ad (ac (ab (kPv (dt aa aa) aa (kPa aa aa ?_)))))))))))
 refine ad (am [6] rfl (ay ?_))
 exact au results51 aa (fun w hw=>⟨_,⟨_,_,_,rfl,rfl⟩,hw⟩)
theorem yp(B:World)(Fr:List HP)(s:List UInt8):
 ∀ w,Holds B Fr w→Calls Tryz.prog 26 [str s,.string ⟨#[10]⟩].toArray w (Ret B (fun v H'=>∃ b1 b2 b3,v= .func (.func 94) [].toArray [ptr b2,ptr b1,ptr b3].toArray∧H'=row b3 [i64 0] 3::row b2 [.string ⟨#[10]⟩] 9::row b1 [str s] 9::Fr) (fun _ _=>False)):=by
 refine ap func26 aa ntmps26 aa (ac (ab (kPa aa aa (ad (ac (ab (kPm aa aa (kPm aa aa (aJ aa (ar call51 aa) (Aw _ _ s) .free aa aa ?_)))))))))
 rintro _ _ ⟨b1,b2,b3,rfl,rfl⟩
 refine kPa aa aa (ad (ay ?_))
 exact au results26 aa (fun w hw=>⟨_,⟨_,_,_,rfl,rfl⟩,hw⟩)
theorem yq(B:World)(E:List HP)[cV E B](l f b1 b2 b3 N:Nat)(s:List UInt8)(hs:s.length≤N)(hN:N≤1000000)(ι:Type)(r:Loop)(hrf:r.fn=f)(hrp:r.params.size=1)(I:ι→Prop)(Hx:ι→List HP)(cd:ι→Code)(st:List UInt8→ι→Bool×ι)(x0:ι)(h0:I x0)(hround:∀ (p:List UInt8) (x:ι),p.length≤N→I x→I (st p x).2∧∀ (E:List HP) [cV E B] w,Holds B (blk l (.loop r)::(Hx x++E)) w→RoundIn (Wd (cxF f)) 0 Tryz.prog l f ((r.params.zip [str p].toArray).foldl (fun tmps (t,a)=>tmps.setIfInBounds t a) r.tmps) r.assign r.body w (Ret B (fun rv H'=>rv= .bool (st p x).1∧H'=blk l (.loop (lst r cd (st p x)))::(Hx (st p x).2++E)) (fun _ _=>False))):
 ∀ w,Holds B (row b1 [str s] 9::row b2 [.string ⟨#[10]⟩] 9::row b3 [i64 0] 3::blk l (.loop r)::(Hx x0++E)) w→Calls Tryz.prog 94 [.func (.yield l) #[] #[],ptr b2,ptr b1,ptr b3].toArray w (Ret B (fun _ H'=>I (itl st (spl 10 s) x0).2∧H'=blk l (.loop (lst r cd (itl st (spl 10 s) x0)))::(Hx (itl st (spl 10 s) x0).2++E)) (fun _ _=>False)):=by
 refine ap func94 aa ntmps94 aa (ac (ac (ab (kPv (ai isAgg9 aa aa) aa (kPv (iH aa runUnderlying9 aa) aa (kPv (al aa aa aa) aa (ad (bG aa (rfl) (aq (ac (aF ?_)))))))))))
 refine cy (ι:=List UInt8×ι) [0,1,2,3] (fun (q,x)=>(q.length≤s.length)∧(I x)∧(itl st (spl 10 s) x0=itl st (spl 10 q) x)) (fun (q,x)=>[]) (fun (q,x)=>row b1 [str q] 9::row b2 [.string ⟨#[10]⟩] 9::row b3 [i64 0] 3::blk l (.loop r)::(Hx x++E)) (fun (q,x)=>q.length) (s,x0) (⟨Nat.le_refl _,h0,rfl⟩) (fun a w st=>st.to trivial (fun hh=>hh)) ?_
 rintro⟨q,x⟩ ⟨hq,hIx,hinv⟩
 try simp only at hq hIx hinv ⊢
 refine bZ (σ':=[(0,_),(1,_),(2,_),(3,_)]) (aC aa) (aF (ac (ab (kPv (ai isAgg9 aa aa) aa (kPv (ai isAgg9 aa aa) aa (aw aa (ar call41 aa) (Ax _ q 10) .free aa aa ?_))))))
 refine kPa aa aa (ad (ac (ac (ab (kPm aa aa (kPv (al aa aa aa) aa (ad ?_)))))))
 refine aZ aa (fun h33=> ?_) (fun h33=> ?_)
 ·have hneg:Lib.indexByte q 10= -1:=rt (by simpa using h33)
  refine bz (ab (kPm aa aa (kPv (ai isAgg9 aa aa) aa ?_)))
  refine fR (f:=f) (r:=r) (H1:=Hx x++(row b1 [str q] 9::row b2 [.string ⟨#[10]⟩] 9::row b3 [i64 0] 3::E)) aa aa (fun w hh=>hh.perm (vQ (Hx x) E)) (by rw[hrp];rfl) hrf ((hround q x (by omega) hIx).2 (row b1 [str q] 9::row b2 [.string ⟨#[10]⟩] 9::row b3 [i64 0] 3::E)) .free aa ?_ ?_
  rotate_left
  ·rintro _ _ ⟨⟩
  rintro _ _ ⟨rfl,rfl⟩
  refine aN (fun w hh=>hh.perm (vQ (Hx (st q x).2) E).symm) (ad (am [] rfl ?_))
  exact cP results94 (fun w hh=>⟨_,⟨by rw[hinv,n8 hneg,AS];exact(hround q x (by omega) hIx).1,by rw[hinv,n8 hneg,AS]⟩,(hh.dp [0,0,0])⟩)
 ·obtain⟨i,hi,hil⟩:=AT (show ¬ Lib.indexByte q 10<0 by simpa using h33)
  rw[hi]
  refine aq (ac (ab (kPv (ai isAgg9 aa aa) aa (kPm aa aa (kPv (ai isAgg3 aa aa) aa (kPv (iQ aa aa (show IntKind.i64.wrap ((i:Int)+0)=i by rw[Int.add_zero];exact fN (by omega))) aa (kPv (mM runUnderlying9 aa aa (by omega) (by omega)) aa (kPa aa aa (ad (am [8,7,0,1,2,3] rfl (ac ?_)))))))))))
  refine ac (ab (kPm aa aa (kPm aa aa ?_)))
  refine fR (f:=f) (r:=r) (H1:=Hx x++(row b1 [str q] 9::row b2 [.string ⟨#[10]⟩] 9::row b3 [i64 0] 3::E)) aa aa (fun w hh=>hh.perm (vQ (Hx x) E)) (by rw[hrp];rfl) hrf ((hround (q.take i) x (by rw[List.length_take];omega) hIx).2 (row b1 [str q] 9::row b2 [.string ⟨#[10]⟩] 9::row b3 [i64 0] 3::E)) .free aa ?_ ?_
  rotate_left
  ·rintro _ _ ⟨⟩
  rintro _ _ ⟨rfl,rfl⟩
  refine aN (fun w hh=>hh.perm (vQ (Hx (st (q.take i) x).2) E).symm) (kPv (bj aa) aa (ad ?_))
  refine aZ aa (fun h42=> ?_) (fun h42=> ?_)
  ·have hg:(st (q.take i) x).1=false:=by simpa using h42
   have hres:itl st (spl 10 s) x0=st (q.take i) x:=by rw[hinv,lN hi];exact xu hg
   refine ay ?_
   exact iY results94 (fun w hh=>⟨_,⟨by rw[hres];exact(hround (q.take i) x (by rw[List.length_take];omega) hIx).1,by rw[hres]⟩,(hh.dp [0,0,0])⟩)
  ·have hg:(st (q.take i) x).1=true:=by simpa using h42
   have hlr:lst r cd (st (q.take i) x)=r:=by unfold lst;rw[if_pos hg]
   refine aq (ab (kPv (ai isAgg9 aa aa) aa (kPm aa aa (kPv (ai isAgg9 aa aa) aa (kPv (iH aa runUnderlying9 aa) aa (kPv (iQ aa aa (show IntKind.i64.wrap ((i:Int)+(([10]:List UInt8).length:Int))=((i+1:Nat):Int) by simp only[List.length_cons,List.length_nil];rw[fN (by omega)];omega)) aa (kPv (qO (i:=((i+1:Nat):Int)) runUnderlying9 aa aa (by omega) (by omega)) aa ?_)))))))
   refine kPs (aO sizeOf9 aa aa (by first | rfl | assumption) rfl) rfl ?_;refine ad ?_;refine am [0,1,2,3] rfl ?_
   exact fun a w st_=>⟨(q.drop (i+1),(st (q.take i) x).2),⟨by rw[List.length_drop];omega,(hround (q.take i) x (by rw[List.length_take];omega) hIx).1,by rw[hinv,lN hi];simp only[itl];rw[if_pos hg]⟩,by rw[List.length_drop];omega,st_.to (aC aa) (fun hh=>(by have hh:=hh;rw[hlr] at hh;exact hh))⟩
theorem lI:∀ (l:List UInt8) (st:Option (List UInt8)),(tok l st).length≤l.length+1∧∀ p∈tok l st,p.length≤l.length+(st.getD []).length
 | [],st=>by cases st<;>simp[tok]
 | x::t,st=>by
   have h1:=lI t none
   have h2:=lI t (some (st.getD []++[x]))
   unfold tok
   split
   ·cases st with
    | none=>exact⟨by simp only[List.length_cons];omega,fun p hp=>by have:=h1.2 p hp;simp at this ⊢;omega⟩
    | some c=>
      refine⟨by simp only[List.length_cons];omega,fun p hp=> ?_⟩
      rcases List.mem_cons.1 hp with rfl | hp
      ·simp
      ·have:=h1.2 p hp;simp at this ⊢;omega
   ·exact⟨by simp only[List.length_cons];omega,fun p hp=>by have:=h2.2 p hp;simp at this ⊢;omega⟩
theorem pZ{p:List UInt8}(hp:p.length≤100000)(i:Nat):((tok (bR p) none).getD i []).length≤1000000:=by
 have h:=(lI (bR p) none).2
 have h2:=mj p
 rw[List.getD_eq_getElem?_getD]
 cases e:(tok (bR p) none)[i]? with
 | none=>simp
 | some q=>have:=h q (List.mem_of_getElem? e);simp at this ⊢;omega
theorem vy{p:List UInt8}(hp:p.length≤100000):(tok (bR p) none).length≤1000000:=by
 have h:=(lI (bR p) none).1
 have h2:=mj p
 omega
theorem sK(B:World)(Fr:List HP)[cV Fr B](gl:GL B)(fg:FG B)(s:List UInt8):
 ∀ w,Holds B Fr w→Calls Tryz.prog 14 [str s].toArray w (Ret B (fun rv H'=>∃ sv,aM sv=true∧rv= .tuple #[sv,i64 (cG s).2.1,i64 (cG s).2.2]∧H'=ge 0 (sv,(cG s).1)::Fr) (fun _ _=>False)):=by
 refine eH func14 aa ntmps14 aa (ac (ab (kPb (cg zeroValue24 aa) aa fun b2=>(kPb (cg zeroValue3 aa) aa fun b3=>(kPb (cg zeroValue36 aa) aa fun b4=>(ad (wt (ac (ac (ab (kPm aa aa ?_)))))))))))
 refine kPv (iH aa runUnderlying9 aa) aa (kPv (al aa aa aa) aa (ad ?_))
 refine aZ aa (fun h13=> ?_) (fun h13=> ?_)
 ·have hsl:65536<s.length:=by simp at h13;omega
  have hres:cG s=([],0,11):=by unfold cG;rw[if_pos hsl]
  refine ac (ab ?_)
  refine kPs (aO sizeOf24 aa aa (by first | rfl | assumption) rfl) rfl ?_;refine kPs (aO sizeOf3 aa aa aa aa) aa ?_;refine kPs (aO sizeOf36 aa aa aa aa) aa ?_;refine ad ?_;refine ay ?_
  exact q9 results14 (.nil) (.aM aa isAgg24 aa) (.aM aa isAgg3 aa) (.aM aa isAgg36 aa) (fun w hh=>⟨_,⟨.slice none 0 0,rfl,by rw[hres],rfl⟩,by rw[hres];exact fY ((hh.dp [0,0,0]))⟩)
 ·have hsl:s.length≤65536:=by simp at h13;omega
  refine aq (ac (ab (kPb (cg zeroValue24 aa) aa fun b5=>(ad (ac (ab (kPb (cg zeroValue3 aa) aa fun b6=>(kPs (aO sizeOf3 aa aa aa aa) aa (ad (ac (wu ?_)))))))))))
  refine ac (ac (ab (kPm aa aa (aJ aa (ar call26 aa) (yp B _ s) .free aa aa ?_))))
  rintro _ _ ⟨c1,c2,c3,rfl,rfl⟩
  refine ad (aF (kO aa call94 ?_))
  intro l m tmps hts hkn w hh
  have hk2:=hkn 2 _ rfl
  have hk3:=hkn 3 _ rfl
  have hk4:=hkn 4 _ rfl
  have hk5:=hkn 5 _ rfl
  have hk6:=hkn 6 _ rfl
  refine(yq B (blk m (.deferred (some []))::Fr) l 14 c1 c2 c3 65536 s hsl (by decide) PSt _ aa aa (fun x=>x.2.1.length≤400) (fun x=>[row b6 [i64 x.1] 3,CV b5 x.2.1,row b2 [.slice none 0 0] 24,row b3 [i64 x.2.2.2.1] 3,row b4 [i64 x.2.2.2.2] 36]) (fun _=> .ret) stP p0 (Nat.zero_le _) ?_ w (by have h1:=(hh.pk [6,4,3,2,0,1,3,2,1]);exact(jr aa ((fY h1).pk [1])).pk [1,1,1,1,1])).mono (Ret.mono ?_ fun _ _ h=>h.elim)
  ·intro p x hpl hxl
   refine⟨?_,fun E hE=> ?_⟩
   ·unfold stP;simp only;split
    ·exact hxl
    ·split
     ·exact hxl
     ·split
      ·exact hxl
      ·simp only[List.length_append,List.length_cons,List.length_nil];omega
   simp only[List.cons_append,List.nil_append]
   refine gL (n:=42) (σ:=[(16,str p),(2,ptr b2),(3,ptr b3),(4,ptr b4),(5,ptr b5),(6,ptr b6)]) func14 (by simp[fL,hts]) (KnA.knows (by simp[KnA,fL,hts];exact⟨(Array.getElem?_eq_some_iff.1 hk2).2,(Array.getElem?_eq_some_iff.1 hk3).2,(Array.getElem?_eq_some_iff.1 hk4).2,(Array.getElem?_eq_some_iff.1 hk5).2,(Array.getElem?_eq_some_iff.1 hk6).2⟩)) aa ?_
   refine ab (kPa aa aa (ad (ki (aF (ac (ab (kPv (ai isAgg3 aa aa) aa (kPv (iQ aa aa aa) aa (kPs (aO sizeOf3 aa aa aa aa) aa (ad (ac ?_)))))))))))
   refine ab (kPm aa aa (aJ aa (ar call27 aa) (yd _ _ p (by omega)) .free aa aa ?_))
   rintro sv _ rfl
   refine kPa aa aa (ad (ac (ac (nG fun q cap hq hcap hqi=> ?_))))
   subst hq
   refine ab (kPm aa aa (kPv (bB aa runUnderlying50 ⟨_,rfl⟩ rfl) aa (kPv (al aa aa aa) aa (ad (am [23,8,2,3,4,5,6] rfl ?_)))))
   refine aZ aa (fun h23=> ?_) (fun h23=> ?_)
   ·have hws:(tok (bR p) none)=[]:=List.eq_nil_of_length_eq_zero (by simp at h23;simpa using h23)
    refine bz ?_
    have hst:stP p x=(true,IntKind.i64.wrap (x.1+1),x.2.1,x.2.2):=by unfold stP;simp only;rw[if_pos hws]
    refine aS [1] ?_
    exact kh fun w hh=>⟨_,⟨by rw[hst],rfl⟩,by rw[hst];exact(hh.dp [1])⟩
   ·have hws:¬ (tok (bR p) none)=[]:=fun e=>by simp[e] at h23
    refine aq (ac (ac (aS [3] (wo fun rv hrv=>(aS [1] (rB fun rs hrs=>(lY fun q2 cap2 hq2 hqi2=> ?_)))))))
    subst hq2
    have hrl:rs.length=x.2.1.length:=by rw[←hrs.1,List.length_map]
    refine ab (kPv (ai isAgg24 aa aa) aa (kPv (bB aa runUnderlying24 ⟨_,rfl⟩ rfl) aa (kPv (al aa aa aa) aa (ad ?_))))
    refine aZ aa (fun h26=> ?_) (fun h26=> ?_)
    ·have h400:x.2.1.length=400:=by simp at h26;omega
     refine ac (cI [0,1,2,3] [1,2,3] [0] [1] [row b6 ([i64 x.1].set 0 (i64 (IntKind.i64.wrap (x.1+1)))) 3] Tryz.mixed (by kernel_rfl) ?_)
     refine an aa aa aa (ai isAgg3 aa aa) .free aa (aT aa aa ?_)
     refine kPs (aO sizeOf24 aa aa (by first | rfl | assumption) rfl) rfl ?_;refine ad ?_;refine cL ?_;refine aT aa aa ?_;refine kPs (aO sizeOf3 aa aa aa aa) aa ?_;refine ad ?_
     refine c6 aa (aT aa aa (kPs (aO sizeOf36 aa aa aa aa) aa (ad (c6 aa (cF (ay ?_))))))
     have hst:stP p x=(false,IntKind.i64.wrap (x.1+1),x.2.1,[],IntKind.i64.wrap (x.1+1),11):=by unfold stP;simp only;rw[if_neg hws,if_pos (by omega)]
     refine aS [4] ?_
     exact wp fun w hh=>⟨_,⟨by rw[hst],rfl⟩,by rw[hst];exact(by have h1:=((hh.dp [4]).pk [1,1,1]);exact(jr hrv ((fx hrs h1).pk [1])).pk [1,1])⟩
    ·have h400:¬ x.2.1.length=400:=by simp at h26;omega
     refine aq (ac ?_)
     obtain⟨bq,oq,rfl⟩:=hqi (by cases h:(tok (bR p) none) with | nil=>exact absurd h hws | cons a t=>simp)
     have hwl0:0<(tok (bR p) none).length:=by cases h:(tok (bR p) none) with | nil=>exact absurd h hws | cons a t=>simp
     refine ab (kPm aa aa (aS [3] (aJ aa (ar call28 aa) (y3 B _ gl fg (tok (bR p) none) (by omega) (vy (by omega)) (pZ (by omega)) _ _ _ hcap (j1 0 aa)) .free aa aa ?_)))
     rintro _ _ ⟨sv9,hsv9,rfl,rfl⟩
     refine kPm aa aa (kPv (aA aa aa) aa (kPv (aA aa aa) aa (kPb (aD zeroValue32 aa) aa fun b9=>(kPs (az (vs:=[i64 (cH (tok (bR p) none)).1.1,sv9]) sizeOf32 aa aa aa (show([i64 (cH (tok (bR p) none)).1.1,sv9]:List Value).all aM=true by simp only[List.all_cons,List.all_nil,hsv9];rfl) aa) aa (kPa aa aa (ad (am [10,9,2,3,4,5,6] rfl (ac (ac (ab (kPm aa aa ?_)))))))))))
     refine kPv (al aa aa aa) aa (ad ?_)
     refine aZ aa (fun h34=> ?_) (fun h34=> ?_)
     ·have he0:(cH (tok (bR p) none)).2≠0:=by simpa using h34
      refine ac (cI [0,1,2,3,4] [2,3,4] [0,1] [2,3] [row b6 ([i64 x.1].set 0 (i64 (IntKind.i64.wrap (x.1+1)))) 3] Tryz.mixed (by kernel_rfl) ?_)
      refine an aa aa aa (ai isAgg3 aa aa) .free aa (an aa aa aa (aj aa) .free aa (aT aa aa ?_))
      refine kPs (aO sizeOf24 aa aa (by first | rfl | assumption) rfl) rfl ?_;refine ad ?_;refine cL ?_;refine aT aa aa ?_
      refine kPs (aO sizeOf3 aa aa aa aa) aa (ad (cL (aT aa aa (kPs (aO sizeOf36 aa aa aa aa) aa (ad (c6 aa (cF (ay ?_))))))))
      have hst:stP p x=(false,IntKind.i64.wrap (x.1+1),x.2.1,[],IntKind.i64.wrap (x.1+1),(cH (tok (bR p) none)).2):=by unfold stP;simp only;rw[if_neg hws,if_neg (by omega),if_pos he0]
      refine aS [6] ?_
      exact wp fun w hh=>⟨_,⟨by rw[hst],rfl⟩,by rw[hst];exact(by have h1:=((hh.dp [1,1,1]).pk [1,1,1]);exact(jr hrv ((fx hrs h1).pk [1])).pk [1,1])⟩
     ·have he0:(cH (tok (bR p) none)).2=0:=by simpa using h34
      refine aq (aS [1] (tz fun q3 c3 hq3=> ?_))
      subst hq3
      refine ab (kPv (ai isAgg24 aa aa) aa (kPv (ah isAgg32 sizeOf32 aa aa) aa ?_))
      refine kPb (lB nn (v:=((cH (tok (bR p) none)).1.1,(q3,(cH (tok (bR p) none)).1.2.length,c3),(cH (tok (bR p) none)).1.2)) runUnderlying24 sizeOf32 zeroValue32 ⟨⟨by decide,by decide⟩,rfl⟩ rfl aa) aa fun b39=>(aS [4,0] (cK aa (ga nn (ys:=[((cH (tok (bR p) none)).1.1,(q3,(cH (tok (bR p) none)).1.2.length,c3),(cH (tok (bR p) none)).1.2)]) aa aa runUnderlying24 runUnderlying24 ⟨_,rfl⟩ sizeOf32 zeroValue32 aa BH aa aa (SlM.row (b:=b39) aa aa) (Nat.succ_pos _) (by simp;omega)) .free aa aa ?_))
      rintro rv2 _ ⟨hrv2,rfl⟩
      refine kPs (aO sizeOf24 aa aa (by first | rfl | assumption) rfl) rfl ?_;refine ad ?_;refine am [2,3,4] rfl ?_
      have hst:stP p x=(true,IntKind.i64.wrap (x.1+1),x.2.1++[(cH (tok (bR p) none)).1],x.2.2):=by unfold stP;simp only;rw[if_neg hws,if_neg (by omega),if_neg (by simpa using he0)]
      refine aS [7] ?_
      exact kh fun w hh=>⟨_,⟨by rw[hst],rfl⟩,by rw[hst];exact(by have h1:=((hh.dp [2,3,3]).pk [3,2,1,1]);have h2:=qh (t:=((cH (tok (bR p) none)).1.1,(q3,(cH (tok (bR p) none)).1.2.length,c3),(cH (tok (bR p) none)).1.2)) h1;exact(jr hrv2 ((fx (hrs.push aa) (h2.pk [1])).pk [1])).pk [1,1])⟩
  rintro _ _ ⟨_,rfl⟩
  simp only[List.cons_append,List.nil_append]
  refine⟨_,_,fun w hh=>hh,j9 (by simp[fL]),fun hp=> ?_,fun c' hc'=> ?_⟩
  rotate_left
  ·obtain⟨h1,rfl⟩:=j8 rfl hc'
   refine ay ?_
   have hres:cG s=(itl stP (spl 10 s) p0).2.2.2:=by unfold cG;rw[if_neg (by omega),if_neg (by rw[h1];decide)]
   have hbad:=qY _ _ h1
   exact q9 results14 (.at 6 .nil) (.aM aa isAgg24 aa) (.aM aa isAgg3 aa) (.aM aa isAgg36 aa) fun w hh=>⟨_,⟨.slice none 0 0,rfl,by rw[hres],rfl⟩,by rw[hres,hbad];exact fY ((hh.dp [0,0,0,0,0,0,0]))⟩
  have hres:cG s=((itl stP (spl 10 s) p0).2.2.1,0,0):=by unfold cG;rw[if_neg (by omega),if_pos (ta hp)]
  refine aS [2] (wo fun rv hrv=>(ac (ab (kPv (ai isAgg24 aa aa) aa ?_))))
  refine kPs (aO sizeOf24 aa aa (by first | rfl | assumption) rfl) rfl ?_;refine kPs (aO sizeOf3 aa aa aa aa) aa ?_;refine kPs (aO sizeOf36 aa aa aa aa) aa ?_;refine ad ?_;refine am [4,3,2] rfl ?_;refine ay ?_
  exact q9 results14 (.at 7 (.nil)) (.aM aa isAgg24 aa) (.aM aa isAgg3 aa) (.aM aa isAgg36 aa) (fun w hh=>⟨_,⟨rv,hrv,by rw[hres],rfl⟩,by rw[hres];exact(hh.dp [0,1,1,1,1,1,1])⟩)
def LF(B:World):Prop:=∃ b off cap,B.cell? ⟨0,0,none⟩=some (.slice (some ⟨b,off,none⟩) 18 cap)∧rY B (some ⟨b,off,none⟩) 18 2 (fun k=>[str (fw k),i64 (fm k)])
def k7(w:List UInt8):Nat→Int×Nat
 | 0=>(-1,0)
 | k+1=>if fw k=w then ((k:Int),fm k) else k7 w k
set_option maxRecDepth 10000 in
theorem Cu:∀ j,j<18→∀ k,k<18→fw j=fw k→j=k:=by decide
theorem iN{w:List UInt8}:∀ {f k:Nat} {j m:Nat},fU w f k=some (j,m)→k≤j∧j<k+f∧fw j=w∧m=fm j
 | 0,_,_,_,h=>by cases h
 | f+1,k,j,m,h=>by
   unfold fU at h
   split at h
   ·rename_i h1;cases h;exact⟨Nat.le_refl _,by omega,h1,rfl⟩
   ·have:=iN h;exact⟨by omega,by omega,this.2.2⟩
theorem k8{w:List UInt8}:∀ {f k:Nat},fU w f k=none→∀ j,k≤j→j<k+f→fw j≠w
 | 0,_,_,j,h1,h2=>by omega
 | f+1,k,h,j,h1,h2=>by
   unfold fU at h
   split at h
   ·cases h
   ·rename_i h3
    by_cases e:j=k
    ·subst e;exact h3
    ·exact k8 h j (by omega) (by omega)
theorem tf{w:List UInt8}{j:Nat}(hj:j<18)(h:fw j=w):∀ n,j<n→n≤18→k7 w n=((j:Int),fm j)
 | 0,h1,_=>absurd h1 (Nat.not_lt_zero _)
 | n+1,h1,h2=>by
   unfold k7
   split
   ·rename_i h3
    rw[Cu n (by omega) j hj (h3.trans h.symm)]
   ·rename_i h3
    exact tf hj h n (by rcases Nat.lt_succ_iff_lt_or_eq.1 h1 with h4 | h4;exact h4;subst h4;exact absurd h h3) (by omega)
theorem o8{w:List UInt8}:∀ n,(∀ j,j<n→fw j≠w)→k7 w n=(-1,0)
 | 0,_=>rfl
 | n+1,h=>by
   unfold k7
   rw[if_neg (h n (Nat.lt_succ_self n))]
   exact o8 n fun j hj=>h j (by omega)
theorem qp(w:List UInt8):(∃ k,k<18∧gz w=some (k,fm k)∧k7 w 18=((k:Int),fm k))∨(gz w=none∧k7 w 18=(-1,0)):=by
 cases h:gz w with
 | none=>exact .inr ⟨rfl,o8 18 fun j hj=>k8 h j (Nat.zero_le _) (by omega)⟩
 | some p=>
   obtain⟨k,m⟩:=p
   obtain⟨_,h2,h3,h4⟩:=iN h
   exact .inl ⟨k,by omega,by rw[h4],tf (by omega) h3 18 (by omega) (Nat.le_refl _)⟩
theorem wR(l:List UInt8):(spl 32 (dJ 9 [32] l)).filter (fun x=>x !=[])=tok l none:=by
 rw[mF l none (fun _ h=>by cases h)]
 have:=oa 32 (dJ 9 [32] l)
 cases e:spl 32 (dJ 9 [32] l) with
 | nil=>exact absurd e this
 | cons p r=>simp
theorem oB(l:List UInt8):(dJ 9 [32] l).length=l.length:=by
 induction l with
 | nil=>rfl
 | cons x t ih=>
   show((if x=9 then [32] else [x])++dJ 9 [32] t).length=_
   rw[List.length_append,ih]
   split<;>simp<;>omega
theorem nC(c:UInt8):∀ l:List UInt8,(spl c l).length≤l.length+1
 | []=>by simp[spl]
 | x::t=>by
   have:=nC c t
   unfold spl
   split
   ·simp;omega
   ·split
    ·rename_i e;rw[e] at this;simp at this ⊢;omega
    ·simp
theorem m5{l:List (List UInt8)}{j:Nat}(h:j<l.length):(l.take (j+1)).filter (fun x=>x !=[])=(l.take j).filter (fun x=>x !=[])++if l[j]=[] then [] else [l[j]]:=by
 rw[List.take_succ_eq_append_getElem h,List.filter_append]
 congr 1
 by_cases e:l[j]=[]
 ·rw[if_pos e];simp[e]
 ·rw[if_neg e];simp[e]
theorem B5{B:World}(H:List HP)(l:List UInt8):∀ w,Holds B H w→Calls Tryz.prog 38 [str l,.int .u8 35].toArray w (a8 B H (i64 (Lib.indexByte l 35))):=Ay H l 35
theorem lW{l:List (List UInt8)}{p:List UInt8}{x:PSt}(h:(stP p x).1=false):itl stP (p::l) x=stP p x:=xu h
theorem uP{l:List (List UInt8)}{p:List UInt8}{x:PSt}(h:(stP p x).1=true):itl stP (p::l) x=itl stP l (stP p x).2:=by
 rw[itl,if_pos h]
theorem jz{s:List UInt8}{y:List Cmd×Int×Int}{a:Int}{o:List Cmd}(hs:s.length≤65536)(h:itl stP (spl 10 s) p0=(false,a,o,y)):cG s=y:=by
 unfold cG;rw[if_neg (by omega),if_neg (by rw[h];simp),h]
theorem qd{s:List UInt8}{y:List Cmd×Int×Int}{a:Int}{o:List Cmd}(hs:s.length≤65536)(h:itl stP (spl 10 s) p0=(true,a,o,y)):cG s=(o,0,0):=by
 unfold cG;rw[if_neg (by omega),if_pos (by rw[h]),h]
theorem xp(B:World)(Fr:List HP)[cV Fr B](gl:GL B)(lf:LF B)(s:List UInt8):
 ∀ w,Holds B Fr w→Calls Tryz.prog 20 [str s].toArray w (Ret B (fun rv H'=>∃ sv,aM sv=true∧rv= .tuple #[sv,i64 (cG s).2.1,i64 (cG s).2.2]∧H'=ge 0 (sv,(cG s).1)::Fr) (fun _ _=>False)):=by
 refine ap func20 aa ntmps20 aa (ac (ab (kPa aa aa (kPa aa aa (kPa aa aa (ad (ac (ac (ab (kPm aa aa (kPv (iH aa runUnderlying9 aa) aa ?_)))))))))))
 refine kPv (al aa aa aa) aa (ad ?_)
 refine aZ aa (fun h22=> ?_) (fun h22=> ?_)
 ·have hsl:65536<s.length:=by simp at h22;omega
  have hres:cG s=([],0,11):=by unfold cG;rw[if_pos hsl]
  refine ac (ab (kPa aa aa (kPa aa aa (kPa aa aa (ad (ay ?_))))))
  exact kX results20 (.tmp aa) (.tmp aa) (.tmp aa) (fun w hh=>⟨_,⟨.slice none 0 0,rfl,by rw[hres],rfl⟩,by rw[hres];exact fY (hh)⟩)
 ·have hsl:s.length≤65536:=by simp at h22;omega
  have hsn:=nC 10 s
  refine aq (ac (ab (kPa aa aa (ad (ac (ac (aN (fun w hh=>fY hh) (ab (kPm aa aa (aJ aa (ar call37 aa) (p6 gl s (by omega) 10) .free aa aa ?_))))))))))
  rintro lv _ rfl
  refine nG fun ql cl hql hcl hqli=> ?_
  subst hql
  obtain⟨bl,ol,rfl⟩:=hqli (List.length_pos_iff.2 (oa _ _))
  refine kPv (bB aa runUnderlying50 ⟨_,rfl⟩ rfl) aa (kPm aa aa (ad (aF (cy (ι:=Nat×Value×List Cmd) [25,24,4,3,2] (fun (i,ov,out)=>(i≤(spl 10 s).length)∧(aM ov=true)∧(out.length≤400)∧(itl stP (spl 10 s) p0=itl stP ((spl 10 s).drop i) ((i:Int),out,[],0,0))) (fun (i,ov,out)=>[(26,i64 i),(5,ov)]) (fun (i,ov,out)=>gm 9 (.slice (some ⟨bl,ol,none⟩) (spl 10 s).length cl) (spl 10 s)::ge 0 (ov,out)::Fr) (fun (i,ov,out)=>(spl 10 s).length - i) (0,.slice none 0 0,[]) (⟨Nat.zero_le _,rfl,Nat.zero_le _,rfl⟩) (fun a w st=>st.to ⟨rfl,rfl,trivial⟩ (fun hh=>hh)) ?_))))
  rintro⟨i,ov,out⟩ ⟨hi0,hov,hol,hinv⟩
  try simp only at hi0 hov hol hinv ⊢
  refine bZ (σ':=[(26,i64 i),(5,ov),(25,_),(24,_),(4,_),(3,_),(2,_)]) (aC aa) (ac (ab (kPv (al aa aa aa) aa (ad (ac ?_)))))
  refine aZ aa (fun h27=> ?_) (fun h27=> ?_)
  ·have hi:i<(spl 10 s).length:=by simp at h27;omega
   obtain⟨p,hp⟩:∃ p,p=(spl 10 s).getD i []:=⟨_,rfl⟩
   have hpd:(spl 10 s).drop i=p::(spl 10 s).drop (i+1):=by rw[hp];exact jg hi
   have hpg:((spl 10 s).map str)[i]? =some (str p):=by rw[hp];exact iU hi
   have hpl:p.length≤65536:=by rw[hp];rw[List.getD_eq_getElem?_getD,List.getElem?_eq_getElem hi];exact vE s.length s (Nat.le_refl _) hsl _ (List.getElem_mem hi)
   have hcl2:=mj p
   clear hp
   refine aq (ac (aF (ac (ab (kPm aa aa (kPv (cj runUnderlying50 sizeOf9 aa aa (by omega) (by omega)) aa (kPv (bM (v:=str p) isAgg9 (j1 0 aa) aa (by rw[Int.toNat_natCast];exact hpg)) aa (kPa aa aa (kPa aa aa (ad ?_))))))))))
   refine Ct (ι:=List UInt8) [6,26,5,25,24,4,3,2] (fun cp=>(cp=bR p)) (fun cp=>[(7,str cp)]) (fun cp=>gm 9 (.slice (some ⟨bl,ol,none⟩) (spl 10 s).length cl) (spl 10 s)::ge 0 (ov,out)::Fr) ?_ ?_
   ·skip
    refine ac (ab (kPm aa aa (aw aa (ar call38 aa) (B5 _ p) .free aa aa ?_)))
    refine kPa aa aa (ad (ac (ab (kPm aa aa (kPv (al aa aa aa) aa (ad (am [34,8,7,6,26,5,25,24,4,3,2] rfl ?_)))))))
    refine aZ aa (fun h34=> ?_) (fun h34=> ?_)
    ·have hge:0≤Lib.indexByte p 35:=by simpa using h34
     obtain⟨hi1,hi2⟩:=zd hge
     refine ab (kPm aa aa (kPm aa aa (kPv (mM runUnderlying9 aa aa hge (by omega)) aa (kPa aa aa (ad ?_)))))
     exact fun a w st_=>⟨_,z6 hge,st_.to (aC aa) (fun hh=>hh)⟩
    ·have hlt:¬ 0≤Lib.indexByte p 35:=by simpa using h34
     refine aq ?_
     exact fun a w st_=>⟨_,(tR (rt hlt)).symm,st_.to (aC aa) (fun hh=>hh)⟩
   rintro cp hcp
   try simp only at hcp ⊢
   refine bZ (σ':=[(7,str cp),(6,_),(26,_),(5,_),(25,_),(24,_),(4,_),(3,_),(2,_)]) (aC aa) (ac ?_)
   subst hcp
   refine ab (kPa aa aa (ad (ac (ac (aN (fun w hh=>lH (T:=9) (m:=1) (enc:=wX) hh) (ab (kPm aa aa (aw aa (ar call23 aa) (yr gl (bR p) (by omega) 9 [32] (by decide) aa) .free aa aa ?_))))))))
   refine aJ aa (ar call37 aa) (p6 gl (dJ 9 [32] (bR p)) (by rw[oB];omega) 32) .free aa aa ?_
   rintro pv _ rfl
   refine nG fun q2 cap2 hq2 hcap2 hqi2=> ?_
   subst hq2
   refine kPv (bB aa runUnderlying50 ⟨_,rfl⟩ rfl) aa (kPm aa aa (ad (aF (cy (ι:=Nat×Value×List (List UInt8)) [41,40,6,26,5,25,24,4,3,2] (fun (j,wv,ws)=>(j≤(spl 32 (dJ 9 [32] (bR p))).length)∧(ws=((spl 32 (dJ 9 [32] (bR p))).take j).filter (fun x=>x !=[]))∧(aM wv=true)∧(ws.length≤j)) (fun (j,wv,ws)=>[(42,i64 j),(9,wv)]) (fun (j,wv,ws)=>gm 9 wv ws::gm 9 (.slice q2 (spl 32 (dJ 9 [32] (bR p))).length cap2) (spl 32 (dJ 9 [32] (bR p)))::gm 9 (.slice (some ⟨bl,ol,none⟩) (spl 10 s).length cl) (spl 10 s)::ge 0 (ov,out)::Fr) (fun (j,wv,ws)=>(spl 32 (dJ 9 [32] (bR p))).length - j) (0,.slice none 0 0,[]) (⟨Nat.zero_le _,rfl,rfl,Nat.le_refl _⟩) (fun a w st=>st.to ⟨rfl,rfl,trivial⟩ (fun hh=>(hh.pk [1]))) ?_))))
   rintro⟨j,wv,ws⟩ ⟨hj0,hws,hwv,hwl⟩
   try simp only at hj0 hws hwv hwl ⊢
   refine bZ (σ':=[(42,i64 j),(9,wv),(41,_),(40,_),(6,_),(26,_),(5,_),(25,_),(24,_),(4,_),(3,_),(2,_)]) (aC aa) (ac (ab (kPv (al aa aa aa) aa (ad (ac ?_)))))
   refine aZ aa (fun h43=> ?_) (fun h43=> ?_)
   ·have hj:j<(spl 32 (dJ 9 [32] (bR p))).length:=by simp at h43;omega
    have hspl2:=nC 32 (dJ 9 [32] (bR p))
    rw[oB] at hspl2
    obtain⟨b2,o2,rfl⟩:=hqi2 (by omega)
    refine aq (ac (aF (ac (ab (kPv (cj runUnderlying50 sizeOf9 aa aa (by omega) (by omega)) aa (kPv (bM (v:=str ((spl 32 (dJ 9 [32] (bR p))).getD j [])) isAgg9 (j1 1 aa) aa (by rw[Int.toNat_natCast];exact iU hj)) aa (kPa aa aa (ad (ac (ab (kPm aa aa ?_)))))))))))
    refine kPv (mO aa aa aa) aa (ad ?_)
    refine aZ aa (fun h47=> ?_) (fun h47=> ?_)
    ·have hne:¬ (spl 32 (dJ 9 [32] (bR p)))[j]=[]:=by intro e;simp[List.getD,hj,e] at h47
     refine ab (kPm aa aa (kPm aa aa (kPb (lB uo (v:=(spl 32 (dJ 9 [32] (bR p))).getD j []) runUnderlying50 sizeOf9 zeroValue9 ⟨⟨by decide,by decide⟩,rfl⟩ rfl aa) aa fun b50=>(aS [1,0] (cK aa (ga uo (ys:=[(spl 32 (dJ 9 [32] (bR p))).getD j []]) aa aa runUnderlying50 runUnderlying50 ⟨_,rfl⟩ sizeOf9 zeroValue9 aa Ds aa aa (SlM.row (b:=b50) aa aa) (Nat.succ_pos _) (by have:=nC 32 (dJ 9 [32] (bR p));rw[oB] at this;simp;omega)) .free aa aa ?_)))))
     rintro wv2 _ ⟨hwv2,rfl⟩
     refine kPa aa aa (ad (am [9,42,41,40,6,26,5,25,24,4,3,2] rfl (ab (kPv (aL aa aa) aa (kPm aa aa (ad ?_))))))
     exact fun a w st_=>⟨(j+1,wv2,ws++[(spl 32 (dJ 9 [32] (bR p))).getD j []]),⟨by first | omega | (simp only;omega),by rw[m5 hj,if_neg hne,hws];simp[List.getD,hj],hwv2,by simp;omega⟩,by first | omega | (simp only;omega),st_.to (aC aa) (fun hh=>(hh.dp [1]))⟩
    ·have hem:(spl 32 (dJ 9 [32] (bR p)))[j]=[]:=by simpa [List.getD,hj] using h47
     refine aq (ab (kPv (aL aa aa) aa (kPm aa aa (ad (am [42,9,41,40,6,26,5,25,24,4,3,2] rfl ?_)))))
     exact fun a w st_=>⟨(j+1,wv,ws),⟨by first | omega | (simp only;omega),by rw[m5 hj,if_pos hem,hws];simp,hwv,by simp only;omega⟩,by first | omega | (simp only;omega),st_.to (aC aa) (fun hh=>hh)⟩
   ·have hj:j=(spl 32 (dJ 9 [32] (bR p))).length:=by simp at h43;omega
    have hww:ws=(tok (bR p) none):=by rw[hws,hj,List.take_length];exact wR _
    subst hww
    have hwn:=vy (p:=p) (by omega)
    refine bz (ac (ac (nG fun q3 cap3 hq3 hcap3 hqi3=> ?_)))
    subst hq3
    refine ab (kPm aa aa (kPv (bB aa runUnderlying50 ⟨_,rfl⟩ rfl) aa (kPv (al aa aa aa) aa (ad ?_))))
    refine aZ aa (fun h55=> ?_) (fun h55=> ?_)
    ·have hwe:(tok (bR p) none)=[]:=List.eq_nil_of_length_eq_zero (by simp at h55;simpa using h55)
     have hst:stP p ((i:Int),out,[],0,0)=(true,(i:Int)+1,out,[],0,0):=by unfold stP;simp only;rw[show IntKind.i64.wrap ((i:Int)+1)=(i:Int)+1 from fN (by omega)];rw[if_pos hwe]
     refine bz (ab (kPv (aL aa aa) aa (kPm aa aa (ad (am [26,5,25,24,4,3,2] rfl ?_)))))
     exact fun a w st_=>⟨(i+1,ov,out),⟨by first | omega | (simp only;omega),hov,hol,by rw[hinv,hpd,uP (by rw[hst]),hst];rfl⟩,by first | omega | (simp only;omega),st_.to (aC aa) (fun hh=>(hh.dp [0,0]))⟩
    ·have hwe:¬ (tok (bR p) none)=[]:=fun e=>by simp[e] at h55
     have hw0:0<(tok (bR p) none).length:=List.length_pos_iff.2 hwe
     refine aq (ac (ac (aS [3] (rB fun rs hrs=>(lY fun q4 cap4 hq4 hqi4=> ?_)))))
     subst hq4
     have hrl:rs.length=out.length:=by rw[←hrs.1,List.length_map]
     obtain⟨b3,o3,rfl⟩:=hqi3 hw0
     refine ab (kPm aa aa (kPv (bB aa runUnderlying24 ⟨_,rfl⟩ rfl) aa (kPv (al aa aa aa) aa (ad (am [58,9,6,26,5,25,24,4,3,2] rfl ?_)))))
     refine aZ aa (fun h58=> ?_) (fun h58=> ?_)
     ·have h400:out.length=400:=by simp at h58;omega
      have hst:stP p ((i:Int),out,[],0,0)=(false,(i:Int)+1,out,[],(i:Int)+1,11):=by unfold stP;simp only;rw[show IntKind.i64.wrap ((i:Int)+1)=(i:Int)+1 from fN (by omega)];rw[if_neg hwe,if_pos h400]
      have hres:cG s=([],(i:Int)+1,11):=jz hsl (by rw[hinv,hpd,lW (by rw[hst]),hst])
      refine ac (ab (kPm aa aa (kPv (aL aa aa) aa (kPa aa aa (kPa aa aa (kPa aa aa (ad (ay ?_))))))))
      exact kX results20 (.tmp aa) (.tmp aa) (.tmp aa) (fun w hh=>⟨_,⟨.slice none 0 0,rfl,by rw[hres],rfl⟩,by rw[hres];exact fY ((hh.dp [0,0,0,0,0]))⟩)
     ·have h400:¬ out.length=400:=by simp at h58;omega
      refine aq (ac (ab (kPv (aQ aa (t8 _ aa)) aa (kPb (aD zeroValue32 aa) aa fun b12=> ?_))))
      refine kPs (az (vs:=_) sizeOf32 aa aa aa (by first | rfl | exact ew (by assumption)) rfl) rfl ?_;refine ad ?_;refine ac ?_;refine ab ?_;refine kPa aa aa ?_;refine ad ?_;refine ac ?_;refine ac ?_
      obtain⟨bf,of_,capf,hlf1,hlf2⟩:=lf
      refine ab (kPv (mh isAgg56 aa hlf1) aa (kPv (bB aa runUnderlying56 ⟨_,rfl⟩ rfl) aa (kPm aa aa (ad (aF (cy (ι:=Nat×Int×Nat) [63,62,12,9,6,26,5,25,24,4,3,2] (fun (k,kd,mn)=>(k≤18)∧(k7 ((tok (bR p) none).getD 0 []) k=(kd,mn))) (fun (k,kd,mn)=>[(64,i64 k),(13,i64 mn)]) (fun (k,kd,mn)=>row b12 [i64 kd,.slice none 0 0] 32::gm 9 (.slice (some ⟨b3,o3,none⟩) (tok (bR p) none).length cap3) (tok (bR p) none)::gF 32 2 crE 0 (.slice q4 rs.length cap4,rs)::grp (rs.map jU)::gm 9 (.slice q2 (spl 32 (dJ 9 [32] (bR p))).length cap2) (spl 32 (dJ 9 [32] (bR p)))::gm 9 (.slice (some ⟨bl,ol,none⟩) (spl 10 s).length cl) (spl 10 s)::Fr) (fun (k,kd,mn)=>18 - k) (0, -1,0) (⟨Nat.zero_le _,rfl⟩) (fun a w st=>st.to ⟨rfl,rfl,trivial⟩ (fun hh=>(hh.pk [0,2]))) ?_))))))
      rintro⟨k,kd,mn⟩ ⟨hk0,hkm⟩
      try simp only at hk0 hkm ⊢
      refine bZ (σ':=[(64,i64 k),(13,i64 mn),(63,_),(62,_),(12,_),(9,_),(6,_),(26,_),(5,_),(25,_),(24,_),(4,_),(3,_),(2,_)]) (aC aa) (ac (ab (kPv (al aa aa aa) aa (ad (ac ?_)))))
      refine aZ aa (fun h65=> ?_) (fun h65=> ?_)
      ·have hk:k<18:=by simp at h65;omega
       refine aq (ac (aF (ac (ab (kPm aa aa (kPv (la (sz:=2) runUnderlying56 sizeOf55 aa aa (by omega) (by omega) aa) aa (kPv (ix (i:=k) (c:=[str (fw k),i64 (fm k)]) (cap:=capf) isAgg55 sizeOf55 (SlN.arg hlf2) aa (by simp[hk])) aa (kPb (aD zeroValue55 aa) aa fun b15=>(kPa aa aa ?_)))))))))
       refine kPs (az (vs:=_) sizeOf55 aa aa aa (by first | rfl | exact ew (by assumption)) rfl) rfl ?_;refine ad ?_;refine ac ?_;refine cM Tryz.mixed (by kernel_rfl) (by kernel_rfl) ?_;refine kQv (aE (m:=_) wB aa aa) aa ?_;refine kQv (ai isAgg9 aa aa) aa ?_;refine kQm aa aa ?_;refine kQv (cj runUnderlying50 sizeOf9 aa aa (by omega) (by omega)) aa ?_
       refine kQv (bM (v:=str ((tok (bR p) none).getD 0 [])) isAgg9 (j1 2 aa) aa (iU hw0)) aa (kQv (mO aa aa aa) aa (ce (am [74,14,15,64,13,63,62,12,9,6,26,5,25,24,4,3,2] rfl ?_)))
       refine aZ aa (fun h74=> ?_) (fun h74=> ?_)
       ·have heq:fw k=((tok (bR p) none).getD 0 []):=by simpa using h74
        refine cI [0,1,2,3,4,5] [4] [1,2] [4] [row b15 (cY [Value.string {data:= #[]},Value.int .i64 0] 0 [str (fw k),i64 (fm k)]) 55] Tryz.mixed (by kernel_rfl) ?_
        refine aP aa aa aa (aj aa) .free aa (an aa aa aa (aE (m:=_) Bi aa aa) .free aa (an aa aa aa (ai isAgg3 aa aa) .free aa (aP aa aa aa (aE (m:=_) iG aa aa) .free aa (aT aa aa (kPs (aO sizeOf29 aa aa aa aa) aa (ad (cL (aP aa aa aa (bD aa) .free aa (cF (am [13,64,63,62,12,9,6,26,5,25,24,4,3,2] rfl (ab ?_)))))))))))
        refine kPv (aL aa aa) aa (kPm aa aa (ad ?_))
        exact fun a w st_=>⟨(k+1,(k:Int),fm k),⟨by first | omega | (simp only;omega),by rw[k7,if_pos heq]⟩,by first | omega | (simp only;omega),st_.to (aC aa) (fun hh=>(hh.dp [0]))⟩
       ·have hne:¬ fw k=((tok (bR p) none).getD 0 []):=by simpa using h74
        refine aq (ab (kPv (aL aa aa) aa (kPm aa aa (ad ?_))))
        exact fun a w st_=>⟨(k+1,kd,mn),⟨by first | omega | (simp only;omega),by rw[k7,if_neg hne];exact hkm⟩,by first | omega | (simp only;omega),st_.to (aC aa) (fun hh=>(hh.dp [0]))⟩
      ·have hk:k=18:=by simp at h65;omega
       subst hk
       refine bz (ac (ac (ab (kPl iG isAgg29 aa aa aa aa (kPv (al aa aa aa) aa (ad ?_))))))
       refine aZ aa (fun h82=> ?_) (fun h82=> ?_)
       ·have hkn:gz ((tok (bR p) none).getD 0 [])=none:=by
         rcases qp ((tok (bR p) none).getD 0 []) with ⟨n,h1,h2,h3⟩ | ⟨h1,_⟩
         ·rw[hkm] at h3;have h4:=congrArg Prod.fst h3;simp at h82 h4;omega
         ·exact h1
        have hst:stP p ((i:Int),out,[],0,0)=(false,(i:Int)+1,out,[],(i:Int)+1,12):=by unfold stP;simp only;rw[show IntKind.i64.wrap ((i:Int)+1)=(i:Int)+1 from fN (by omega)];rw[if_neg hwe,if_neg h400,qk hkn];rfl
        have hres:cG s=([],(i:Int)+1,12):=jz hsl (by rw[hinv,hpd,lW (by rw[hst]),hst])
        refine ac (ab (kPm aa aa (kPv (aL aa aa) aa (kPa aa aa (kPa aa aa (kPa aa aa (ad (am [4,3,2,13,12,9,6,26,5,25,24] rfl (ay ?_)))))))))
        exact kX results20 (.tmp aa) (.tmp aa) (.tmp aa) (fun w hh=>⟨_,⟨.slice none 0 0,rfl,by rw[hres],rfl⟩,by rw[hres];exact fY ((hh.dp [0,0,0,0,0,0]))⟩)
       ·obtain⟨n,hn18,hkd,rfl,rfl⟩:∃ n,n<18∧gz ((tok (bR p) none).getD 0 [])=some (n,fm n)∧kd=(n:Int)∧mn=fm n:=by
         rcases qp ((tok (bR p) none).getD 0 []) with ⟨n,h1,h2,h3⟩ | ⟨_,h1⟩
         ·rw[hkm] at h3;exact⟨n,h1,h2,congrArg Prod.fst h3,congrArg Prod.snd h3⟩
         ·rw[hkm] at h1;have h4:=congrArg Prod.fst h1;simp at h82 h4;omega
        have hfm:=zs n hn18
        refine aq (ac (ac (ab (kPm aa aa (kPv (bB aa runUnderlying50 ⟨_,rfl⟩ rfl) aa (kPm aa aa (kPv (aL aa aa) aa (kPv (al aa aa aa) aa (ad (am [89,12,9,6,26,5,25,24,4,3,2] rfl ?_))))))))))
        refine aZ aa (fun h89=> ?_) (fun h89=> ?_)
        ·have hln:(tok (bR p) none).length≠fm n+1:=by simp at h89;omega
         have hst:stP p ((i:Int),out,[],0,0)=(false,(i:Int)+1,out,[],(i:Int)+1,13):=by unfold stP;simp only;rw[show IntKind.i64.wrap ((i:Int)+1)=(i:Int)+1 from fN (by omega)];rw[if_neg hwe,if_neg h400,qm hkd hln];rfl
         have hres:cG s=([],(i:Int)+1,13):=jz hsl (by rw[hinv,hpd,lW (by rw[hst]),hst])
         refine ac (ab (kPm aa aa (kPv (aL aa aa) aa (kPa aa aa (kPa aa aa (kPa aa aa (ad (ay ?_))))))))
         exact kX results20 (.tmp aa) (.tmp aa) (.tmp aa) (fun w hh=>⟨_,⟨.slice none 0 0,rfl,by rw[hres],rfl⟩,by rw[hres];exact fY ((hh.dp [0,0,0,0,0,0]))⟩)
        ·have hln:(tok (bR p) none).length=fm n+1:=by simp at h89;omega
         refine aq (ac (ac (aN (fun w hh=>eK (T:=25) (enc:=w64) hh) (ab (kPm aa aa (kPv (zJ runUnderlying50 sizeOf9 aa aa hw0 hcap3) aa (kPv (bB aa runUnderlying50 ⟨_,rfl⟩ rfl) aa (kPm aa aa (ad (aF (cy (ι:=Nat×List Int×Value) [94,93,12,6,26,5,25,24,4,3,2] (fun (j,ns,nv)=>(j≤(tok (bR p) none).length - 1)∧(fC ((tok (bR p) none).drop 1)=(fC ((tok (bR p) none).drop (j+1))).map (ns++ ·))∧(ns.length=j)∧(aM nv=true)) (fun (j,ns,nv)=>[(95,i64 j)]) (fun (j,ns,nv)=>cS 0 (nv,ns)::row b12 [i64 n,nv] 32::gm 9 (.slice (some ⟨b3,o3,none⟩) (tok (bR p) none).length cap3) (tok (bR p) none)::gF 32 2 crE 0 (.slice q4 rs.length cap4,rs)::grp (rs.map jU)::gm 9 (.slice q2 (spl 32 (dJ 9 [32] (bR p))).length cap2) (spl 32 (dJ 9 [32] (bR p)))::gm 9 (.slice (some ⟨bl,ol,none⟩) (spl 10 s).length cl) (spl 10 s)::Fr) (fun (j,ns,nv)=>(tok (bR p) none).length - j) (0,[],.slice none 0 0) (⟨Nat.zero_le _,by simp,rfl,rfl⟩) (fun a w st=>st.to ⟨rfl,trivial⟩ (fun hh=>hh)) ?_)))))))))))
         rintro⟨j,ns,nv⟩ ⟨hj0,hns,hnl,hnv⟩
         try simp only at hj0 hns hnl hnv ⊢
         refine bZ (σ':=[(95,i64 j),(94,_),(93,_),(12,_),(6,_),(26,_),(5,_),(25,_),(24,_),(4,_),(3,_),(2,_)]) (aC aa) (ac (ab (kPv (al aa aa aa) aa (ad (ac ?_)))))
         refine aZ aa (fun h96=> ?_) (fun h96=> ?_)
         ·have hj3:j<(tok (bR p) none).length - 1:=by simp at h96;omega
          obtain⟨x3,hx⟩:∃ x3,x3=(tok (bR p) none).getD (j+1) []:=⟨_,rfl⟩
          have hxd:(tok (bR p) none).drop (j+1)=x3::(tok (bR p) none).drop (j+1+1):=by rw[hx];exact jg (by omega)
          have hxg:((tok (bR p) none).map str)[j+1]? =some (str x3):=by rw[hx];exact iU (by omega)
          have hx3:x3.length≤1000000:=by rw[hx];exact pZ (by omega) _
          clear hx
          refine aq (ac (aF (ac (ab (kPv ((cj runUnderlying50 sizeOf9 aa aa (by omega) (by omega)).eq (show _=Value.pointer (some ⟨b3,o3+(j+1),none⟩) by rw[if_neg (by omega),Int.toNat_natCast,Nat.add_assoc,Nat.add_comm 1])) aa (kPv (bM (v:=str x3) isAgg9 (j1 2 aa) aa hxg) aa (kPa aa aa (ad (ac (ab (kPm aa aa ?_)))))))))))
          refine aw aa (ar call39 aa) (xJ B _ x3 hx3) .free aa aa ?_
          refine kPm aa aa (kPv (aA aa aa) aa (kPv (aA aa aa) aa (kPa aa aa (kPa aa aa (ad (am [19,18,95,94,93,12,6,26,5,25,24,4,3,2] rfl (ac (ac (ab (kPm aa aa (kPv (bj aa) aa ?_)))))))))))
          refine ad ?_
          refine aZ aa (fun h105=> ?_) (fun h105=> ?_)
          ·have hnum:num x3=none:=by rw[←nM];simpa using h105
           have hst:stP p ((i:Int),out,[],0,0)=(false,(i:Int)+1,out,[],(i:Int)+1,13):=by unfold stP;simp only;rw[show IntKind.i64.wrap ((i:Int)+1)=(i:Int)+1 from fN (by omega)];rw[if_neg hwe,if_neg h400,o6 hkd hln (by rw[hns,hxd];exact mB hnum)];rfl
           have hres:cG s=([],(i:Int)+1,13):=jz hsl (by rw[hinv,hpd,lW (by rw[hst]),hst])
           refine ac (ab (kPm aa aa (kPv (aL aa aa) aa (kPa aa aa (kPa aa aa (kPa aa aa (ad (ay ?_))))))))
           exact kX results20 (.tmp aa) (.tmp aa) (.tmp aa) (fun w hh=>⟨_,⟨.slice none 0 0,rfl,by rw[hres],rfl⟩,by rw[hres];exact fY ((hh.dp [0,0,0,0,0,0,0]))⟩)
          ·obtain⟨u,hdg⟩:∃ u,pz x3=some u:=Option.isSome_iff_exists.1 (by simpa using h105)
           have hnum:num x3=some u:=by rw[←nM];exact hdg
           rw[hdg]
           refine aq (ab (kPl iF isAgg30 aa aa aa aa (kPm aa aa (kPb (fZ runUnderlying30 sizeOf25 zeroValue25 aa aa aa) aa fun b111=>(aS [1,0] (cK aa (ee aa aa runUnderlying30 runUnderlying30 ⟨_,rfl⟩ sizeOf25 zeroValue25 aa (fun _=>rfl) ia aa aa (by omega)) .free aa aa ?_))))))
           rintro nv9 _ ⟨hnv9,rfl⟩
           refine kPv (aE (m:=_) iF aa aa) aa ?_
           refine kPs (aO sizeOf30 aa aa (by first | rfl | assumption) rfl) rfl ?_;refine ad ?_;refine am [95,94,93,12,6,26,5,25,24,4,3,2] rfl ?_;refine ab ?_;refine kPv (aL aa aa) aa ?_;refine kPm aa aa ?_;refine ad ?_
           exact fun a w st_=>⟨(j+1,ns++[(u:Int)],nv9),⟨by first | omega | (simp only;omega),by rw[hns,hxd,sR hnum],by simp[hnl],hnv9⟩,by first | omega | (simp only;omega),st_.to (aC aa) (fun hh=>hh)⟩
         ·have hj3:j=(tok (bR p) none).length - 1:=by simp at h96;omega
          have hlm:cH (tok (bR p) none)=(((n:Int),ns),0):=rp hkd hln (by rw[hns,List.drop_eq_nil_of_le (by omega)];simp[fC])
          have hst:stP p ((i:Int),out,[],0,0)=(true,(i:Int)+1,out++[((n:Int),ns)],[],0,0):=by unfold stP;simp only;rw[show IntKind.i64.wrap ((i:Int)+1)=(i:Int)+1 from fN (by omega)];rw[if_neg hwe,if_neg h400,hlm];rfl
          refine bz (tz fun q5 c5 hq5=> ?_)
          subst hq5
          refine ab (kPm aa aa (kPv (ah isAgg32 sizeOf32 aa aa) aa ?_))
          refine kPb (lB nn (v:=((n:Int),(q5,ns.length,c5),ns)) runUnderlying24 sizeOf32 zeroValue32 ⟨⟨by decide,by decide⟩,rfl⟩ rfl aa) aa fun b117=>(aS [4,0] (cK aa (ga nn (ys:=[((n:Int),(q5,ns.length,c5),ns)]) aa aa runUnderlying24 runUnderlying24 ⟨_,rfl⟩ sizeOf32 zeroValue32 aa BH aa aa (SlM.row (b:=b117) aa aa) (Nat.succ_pos _) (by simp;omega)) .free aa aa ?_))
          rintro ov2 _ ⟨hov2,rfl⟩
          refine kPa aa aa (ad (am [5,26,25,24,4,3,2] rfl (ab (kPv (aL aa aa) aa (kPm aa aa (ad ?_))))))
          exact fun a w st_=>⟨(i+1,ov2,out++[((n:Int),ns)]),⟨by first | omega | (simp only;omega),hov2,by simp;omega,by rw[hinv,hpd,uP (by rw[hst]),hst];rfl⟩,by first | omega | (simp only;omega),st_.to (aC aa) (fun hh=>by have h1:=((hh.dp [1,2,2,3]).pk [2,1]);have h2:=qh (t:=((n:Int),(q5,ns.length,c5),ns)) h1;exact(fx (hrs.push aa) (h2.pk [1])).pk [1])⟩
  ·have hi:i=(spl 10 s).length:=by simp at h27;omega
   have hres:cG s=(out,0,0):=qd hsl (by rw[hinv,List.drop_eq_nil_of_le (by omega)];rfl)
   refine bz (ac (ab (kPm aa aa (kPa aa aa (kPa aa aa (kPa aa aa (ad (ay ?_))))))))
   exact kX results20 (.tmp aa) (.tmp aa) (.tmp aa) (fun w hh=>⟨_,⟨ov,hov,by rw[hres],rfl⟩,by rw[hres];exact(hh.dp [0])⟩)
abbrev gh(i v:Int)(s:Dev)(S:bC):Out (Int×bC):=S.store s i v
def bC.fresh(S:bC)(f t:Int):bC:={S with ff:=f,ft:=t,seen:=[],dirty:=[]}
def i8(c:Cfg)(b:Blk)(S:bC)(s:Dev):Out (Int×bC):=
 (li gh c b s (S.fresh 0 0)).then fun x s1=>if x.1≠0 then (x.2.abort s1).then fun S2 s2=> .ok (x.1,S2) s2
  else (x.2.commit s1).then fun S2 s2=> .ok (0,S2) s2
def eJ(bd:Nat)(c:Cfg)(S:bC)(s:Dev)(ws:List Int):Out (Option bE×Int×bC):=
 if (s.block c).2≠0 then .ok (none,(s.block c).2,S) s
 else ((eh bd c (s.block c).1 ((s.block c).1.rts++ws)).run s).then fun X s1=>(i8 c X.block S s1).then fun x s2=>
  if x.1≠0 then .ok (none,x.1,x.2) s2 else .ok (some X,0,x.2) s2
theorem qQ{s:Dev}{c:Cfg}(hc:bx c)(h:(s.block c).2=0):0<(s.block c).1.rts.length:=by
 have:=hc.r1
 unfold Dev.block at h ⊢
 split at h
 ·cases h
 ·rename_i h1;rw[if_neg h1];simp only[aX];omega
theorem oT{α:Type}(l:List (Int×α))(k:Int)(a:α):(mset l k a).length≤l.length+1:=by
 induction l with
 | nil=>simp[mset]
 | cons p t ih=>unfold mset;split<;>simp<;>omega
theorem qZ{S S':bC}{s s':Dev}{i v a:Int}(e:S.store s i v= .ok (a,S') s'):S'.dirty.length≤S.dirty.length+1:=by
 have h1:=oT S.dirty (i / 8) ()
 unfold bC.store at e
 split at e
 ·cases e;omega
 ·split at e
  ·obtain⟨x,t,e1,e⟩:=aH e
   split at e
   ·cases e;simp only;omega
   ·obtain⟨y,u,e2,e⟩:=aH e
    cases e;exact h1
  ·obtain⟨y,u,e2,e⟩:=aH e
   cases e;exact h1
theorem jo:∀ (l:List Int) (i:Int) (S S':bC) (s s':Dev) (a:Int),gR gh l i s S= .ok (a,S') s'→S'.dirty.length≤S.dirty.length+l.length
 | [],i,S,S',s,s',a,e=>by cases e;simp
 | v::vs,i,S,S',s,s',a,e=>by
   unfold gR at e
   split at e
   ·have:=jo vs _ _ _ _ _ _ e;simp only[List.length_cons];omega
   ·obtain⟨⟨x,S1⟩,s1,e1,e⟩:=aH e
    have h1:=qZ e1
    split at e
    ·cases e;simp only[List.length_cons];omega
    ·have:=jo vs _ _ _ _ _ _ e;simp only[List.length_cons] at this ⊢;omega
structure Ao(S:bC)(bd:Nat)(c:Cfg)(s:Dev):Prop where
 w:dE S.L
 n:s.n≤1000000
 d:S.L.d=bd
 c:S.L.c=c
theorem wx(B:World)(Fr:List HP)(bs x bd:Nat)(S:bC)(X:bE)(hX:fc X)(hrl0:0<X.b.rts.length)(c:Cfg)(s:Dev)(hu:U64 s)(hK:Ao S bd c s):
 ∀ w,Holds B (fy bs S::eS x X::aB bd s::Fr) w→Calls Tryz.prog 172 [ptr bd,dS c,ptr bs,ptr x].toArray w (Ret B (fun rv H'=>∃ a S' s',i8 c X.block S s= .ok (a,S') s'∧rv=i64 a∧H'=fy bs S'::eS x X::aB bd s'::Fr) (fun ch H'=>∃ s',i8 c X.block S s= .off s'∧ch=dP∧H'=aB bd s'::Fr)):=by
 refine ap func172 aa ntmps172 aa ?_
 have hrl:=hX.rl
 have hbb:=hX.b.act
 have hbf:=hX.free
 have hbw:∀ v∈X.block.rts,0≤v∧v<18446744073709551616:=fun v hv=>by
  obtain⟨u,_,rfl⟩:=List.mem_map.1 hv
  have:=hX.vb u
  omega
 have hfb:=hX.fb
 have hto:=hX.to_
 refine ac (ab (kPb (aY aa) aa fun b5=>(kPa aa aa (ad (ac (ac (ab (kPm aa aa (kPv (aQ aa (wM)) aa (aS [1] (dO aa (ar call83 aa) (jx B _ bs S 0 0) .free aa aa ?_)))))))))))
 refine kPa aa aa (ad (ac (ab (kPm aa aa (kPv (al aa aa aa) aa (ad (bG aa (rfl) (aq (ac (ac (cI [0,1,2,4,5,3,6,7] [3,6] [0,1,4,5] [3] [row b5 [i64 c.log,i64 c.roots,i64 c.space] 134] Tryz.mixed (by kernel_rfl) ?_)))))))))))
 refine an aa aa aa (aj aa) .free aa (an aa aa aa (ah isAgg134 sizeOf134 aa aa) .free aa ?_)
 refine aP aa aa aa (aj aa) .free aa (an aa aa aa (aj aa) .free aa (an aa aa aa (dt aa aa) .free aa (aT aa aa (aS [2] (aJ aa (ar call167 aa) (mQ B _ x X hX) .free aa aa ?_)))))
 rintro _ _ ⟨bsv,hbsv,rfl,rfl⟩
 refine cC fun qb cb hqb hqi=> ?_
 subst hqb
 refine ad (cL (aT aa aa (aS [4,2] ?_)))
 refine aU aa (ar call205 aa) (w8 B _ _ _ bd bs bC (fun b S=>iS b S) _ _ (uq B bd bs c) c (hK.c▸hK.w.c) X.block (by simp only[bE.block];omega) hbw (by simp only[bE.block,List.length_map];omega) (by simp only[bE.block,List.length_map];omega) (.slice qb X.block.rts.length cb) aa (cO 0 aa) s (S.fresh 0 0) ⟨hu,hK.n,⟨hK.w,fun _ h=>(by cases h)⟩,hK.d,hK.c⟩) .free rfl rfl ?_ ?_
 rotate_left
 ·rintro _ _ ⟨s9,hm9,rfl,rfl⟩
  exact ba fun w hh=>⟨_,⟨s9,by unfold i8 li;rw[show gR gh (X.block.act::X.block.used::X.block.rts) c.active s (S.fresh 0 0)= .off s9 from hm9];rfl,rfl,rfl⟩,hh.dp [1,1,1]⟩
 rintro _ _ ⟨a2,S2,s2,hm2,rfl,hok2,rfl⟩
 obtain⟨hu2,hn2,hw2,hd2,hc2⟩:=hok2
 obtain rfl:=hd2
 refine ad (c6 aa (aP aa aa aa (bD aa) .free aa (cF (am [10,8,2] rfl (ac (ab (kPm aa aa (kPv (al aa aa aa) aa (ad ?_)))))))))
 refine aZ aa (fun h25=> ?_) (fun h25=> ?_)
 ·have he:a2≠0:=by simpa using h25
  refine ac (ab (kPm aa aa (aS [1,0] ?_)))
  refine aU aa (ar call206 aa) (ow B _ bs S2 s2 hw2) .free aa aa ?_ ?_
  rotate_left
  ·rintro _ _ ⟨s9,hm9,rfl,rfl⟩
   exact ba fun w hh=>⟨_,⟨s9,by unfold i8;rw[hm2];simp only[aR];rw[if_pos he,hm9];rfl,rfl,rfl⟩,hh.dp [1,1,1]⟩
  rintro _ _ ⟨S3,s3,hm3,rfl,rfl⟩
  refine ad (ac (ab (kPm aa aa (kPa aa aa (ad (ay ?_))))))
  exact au results172 aa (fun w hh=>⟨_,⟨a2,S3,s3,by unfold i8;rw[hm2];simp only[aR];rw[if_pos he,hm3];rfl,rfl,rfl⟩,((hh.dp [2,3]).pk [0,1])⟩)
 ·have he:¬ a2≠0:=by simpa using h25
  refine aq (ac (ab (kPm aa aa (aS [1,0] ?_))))
  refine aU aa (ar call89 aa) (m7 B _ bs S2 s2 hw2 (by have:=jo _ _ _ _ _ _ _ hm2;simp only[bC.fresh,bE.block,List.length_cons,List.length_map,List.length_nil] at this;omega)) .free aa aa ?_ ?_
  rotate_left
  ·rintro _ _ ⟨s9,hm9,rfl,rfl⟩
   exact ba fun w hh=>⟨_,⟨s9,by unfold i8;rw[hm2];simp only[aR];rw[if_neg he,hm9];rfl,rfl,rfl⟩,hh.dp [1,1,1]⟩
  rintro _ _ ⟨S3,s3,hm3,rfl,rfl⟩
  refine kPa aa aa (ad (ay ?_))
  exact au results172 aa (fun w hh=>⟨_,⟨0,S3,s3,by unfold i8;rw[hm2];simp only[aR];rw[if_neg he,hm3];rfl,rfl,rfl⟩,((hh.dp [2,3]).pk [0,1])⟩)
theorem dW{B:World}{σ:Env}{Fr:List HP}{P:Program}{T:TypeId}{enc:Int→Value}{sv:Value}{xs:List Int}{d:Option Tmp}{ty:TypeId}{p:String}{af:Array Edge}{g:Option (Nat×Bool)}{t:TypeId}{x y:Operand}{at_:Array TypeId}{u:TypeId}{ud:TypeDesc}{ys:List Int}{z yv:Value}
 (ha:at_[0]? =some t) (ha':at_[1]? =some u) (ht:∀ w,(underlying t).run P w= .ok (.slice T) w) (hu:∀ w,(underlying u).run P w= .ok ud w) (hud:∃ q,ud= .slice q) (hs:∀ w,(sizeOf T).run P w= .ok 1 w) (hz:∀ w,(zeroValue T).run P w= .ok z w) (hz1:aM z=true) (he1:∀ v,aM (enc v)=true) (hfb:dU P T)
 (hx:evO σ x=some sv) (hy:evO σ y=some yv) (hr:SlR B Fr yv (ys.map enc)) (hn:xs.length+ys.length≤1000000000):
 Chg P B σ (dC T enc 0 (sv,xs)::Fr) ⟨d,.call ⟨.builtin .append, #[x,y],at_⟩,ty,p,af,g⟩ (fun v' H'=>aM v'=true∧H'=dC T enc 0 (v',xs++ys)::Fr):=by
 by_cases h0:0<ys.length
 ·exact kA ha ha' ht hu hud hs hz hz1 he1 hfb hx hy hr h0 hn
 obtain rfl:ys=[]:=List.length_eq_zero_iff.1 (by omega)
 intro a w kn hh
 obtain⟨q,rfl⟩:=hud
 obtain⟨sq,scap,e0,_⟩:=hr.ex
 subst e0
 have hf:(Builtin.firstCells 1 0 (.slice sq 0 scap)).run P w= .ok #[] w:=by
  have:=hr.first (P:=P) (w:=w) hh.tail 0 (Nat.zero_le _)
  simpa using this
 have hsl:∃ q n c,sv= .slice q n c∧n≤c:=by
  rcases fG hh with ⟨_,h2,_⟩ | ⟨bd,pre,rest,k,_,h1,_⟩
  ·exact⟨_,_,_,h2,Nat.le_refl _⟩
  ·exact⟨_,_,_,h1,Nat.le_add_right _ _⟩
 obtain⟨q2,n2,c2,rfl,hc2⟩:=hsl
 refine⟨.value (.slice q2 n2 c2),w,?_,_,.inl aa,_,⟨rfl,rfl⟩,by simpa using hh⟩
 simp only[execOp,resolve,Sem.run_bind,Sem.run_pure,Result.andThen_ok]
 simp only[List.map_nil,List.length_nil] at hy
 cases q2<;>simp[invoke,builtin,Builtin.append_,ha,ha',hu,kn.eval hx,kn.eval hy,ht,hs,Builtin.lenOf,hc2,hf,storeCells]
theorem nB{s s':Dev}{i v a:Int}(e:s.store i v= .ok a s'):s'.n=s.n:=by
 unfold Dev.store at e
 split at e
 ·cases e;rfl
 split at e
 ·cases e
 ·cases e;rfl
theorem nH{s s':Dev}{i a:Int}(e:s.flush i= .ok a s'):s'.n=s.n:=by
 unfold Dev.flush at e
 split at e
 ·cases e;rfl
 split at e
 ·cases e
 ·cases e;rfl
theorem nK{s s':Dev}{a:Unit}(e:s.fence= .ok a s'):s'.n=s.n:=by
 unfold Dev.fence at e
 split at e
 ·cases e
 ·cases e;rfl
theorem Aa:∀ (k:Nat) (i a f:Int) (s s':Dev),pT k i a f s= .ok () s'→s'.n=s.n
 | 0,_,_,_,s,s',e=>by cases e;rfl
 | k+1,i,a,f,s,s',e=>by
   rw[mP] at e
   obtain⟨_,s1,e1,e⟩:=aH e
   exact(Aa k _ _ _ _ _ e).trans (nB e1)
theorem tU{S:bE}{s s':Dev}{w:Int}{r:Int×bE}(e:S.copied s w= .ok r s'):s'.n=s.n:=by
 unfold bE.copied at e
 split at e
 ·cases e;rfl
 split at e
 ·cases e;rfl
 split at e
 ·cases e;rfl
 obtain⟨_,s1,e1,e⟩:=aH e
 cases e
 exact Aa _ _ _ _ _ _ e1
theorem rb:∀ (k:Nat) (i:Int) (S S':bE) (s s':Dev),jR k i S s= .ok S' s'→s'.n=s.n
 | 0,_,S,S',s,s',e=>by cases e;rfl
 | k+1,i,S,S',s,s',e=>by
   rw[ic] at e
   split at e
   ·exact rb k _ _ _ _ _ e
   ·obtain⟨r,s1,e1,e⟩:=aH e
    obtain⟨_,s2,e2,e⟩:=aH e
    exact((rb k _ _ _ _ _ e).trans (nB e2)).trans (tU e1)
theorem wb:∀ (f:Nat) (i e:Int) (s s':Dev) (a:Unit),lV f i e s= .ok a s'→s'.n=s.n
 | 0,_,_,s,s',a,e=>by cases e;rfl
 | f+1,i,e',s,s',a,e=>by
   rw[gA] at e
   split at e
   ·obtain⟨_,s1,e1,e⟩:=aH e
    exact(wb f _ _ _ _ _ e).trans (nH e1)
   ·cases e;rfl
theorem yo{S:bE}{s s':Dev}{r:Bool×bE}(e:S.step s= .ok r s'):s'.n=s.n:=by
 unfold bE.step at e
 split at e
 ·cases e;rfl
 split at e
 ·obtain⟨_,s1,e1,e⟩:=aH e
  cases e;exact tU e1
 ·split at e
  ·obtain⟨_,s1,e1,e⟩:=aH e
   cases e;exact rb _ _ _ _ _ _ e1
  ·obtain⟨_,s1,e1,e⟩:=aH e
   cases e
   unfold bE.keep at e1
   obtain⟨_,s2,e2,e1⟩:=aH e1
   have h2:=wb _ _ _ _ _ _ e2
   split at e1
   ·exact(nK e1).trans h2
   ·cases e1;exact h2
theorem vK{S S':bE}{s s':Dev}(e:S.run s= .ok S' s'):s'.n=s.n:=by
 unfold bE.run at e
 revert e
 generalize S.meas+1=f
 intro e
 induction f generalizing S s with
 | zero=>cases e;rfl
 | succ f ih=>
   rw[iX] at e
   obtain⟨r,s1,e1,e⟩:=aH e
   split at e
   ·cases e;exact yo e1
   ·exact(ih e).trans (yo e1)
theorem tI(B:World)(Fr:List HP)(bs bd:Nat)(S:bC)(c:Cfg)(hc:bx c)(s:Dev)(hu:U64 s)(hK:Ao S bd c s)(q:Option Addr)(cap:Nat)(ws:List Int)(hwn:ws.length≤900000)(hws:∀ v∈ws,0≤v∧v<18446744073709551616)(hwl:SlR B Fr (.slice q ws.length cap) (ws.map w64)):
 ∀ w,Holds B (fy bs S::aB bd s::Fr) w→Calls Tryz.prog 116 [ptr bd,dS c,ptr bs,.slice q ws.length cap].toArray w (Ret B (fun rv H'=>∃ r s',eJ bd c S s ws= .ok r s'∧((r.1=none∧rv= .tuple #[.pointer none,i64 r.2.1]∧H'=fy bs r.2.2::aB bd s'::Fr)∨(∃ x X,r.1=some X∧r.2.1=0∧rv= .tuple #[ptr x,i64 0]∧H'=eS x X::fy bs r.2.2::aB bd s'::Fr))) (fun ch H'=>∃ s',eJ bd c S s ws= .off s'∧ch=dP∧H'=aB bd s'::Fr)):=by
 refine ap func116 aa ntmps116 aa (ac (ab (kPb (aY aa) aa fun b5=>(kPa aa aa (kPa aa aa (ad (ac (ac (ab (kPm aa aa (aw aa (ar call80 aa) (bH (q:=fy) (fun Fr=>mx B Fr bs S)) .free aa aa ?_)))))))))))
 refine ad (bG aa (rfl) (aq (ac (ab (kPm aa aa (kPv (ah isAgg134 sizeOf134 aa aa) aa ?_))))))
 refine aS [2] (aJ aa (ar call117 aa) (fQ _ _ _ _ c hc hu) .free aa aa ?_)
 rintro _ _ ⟨sv,hsv,rfl,rfl⟩
 have hbk:=dA (s:=s) hc hu
 have hrl:=fI (s:=s) hc
 refine kPm aa aa (kPv (aA aa aa) aa (kPv (aA aa aa) aa (kPb (aD zeroValue151 aa) aa fun b10=> ?_)))
 refine kPs (az (vs:=_) sizeOf151 aa aa aa (by first | rfl | exact ew (by assumption)) rfl) rfl ?_;refine kPa aa aa ?_;refine ad ?_;refine am [11,10,9,8,5,0,2,3] rfl ?_;refine ac ?_;refine ac ?_;refine ab ?_;refine kPm aa aa ?_;refine kPv (al aa aa aa) aa ?_;refine ad ?_
 refine aZ aa (fun h23=> ?_) (fun h23=> ?_)
 ·have he:(s.block c).2≠0:=by simpa using h23
  have hres:eJ bd c S s ws= .ok (none,(s.block c).2,S) s:=by unfold eJ;rw[if_pos he]
  refine ac (ab (kPm aa aa (kPa aa aa (kPa aa aa (ad (ay ?_))))))
  exact bS results116 aa aa (fun w hh=>⟨_,⟨_,_,hres,.inl ⟨rfl,rfl,rfl⟩⟩,((hh.dp [0,0,1]).pk [1])⟩)
 ·have he:(s.block c).2=0:=by simpa using h23
  have hrl0:0<(s.block c).1.rts.length:=qQ hc he
  refine aS [1] (cC fun qo co hqo hqoi=> ?_)
  subst hqo
  refine aN (H':=cS 0 (.slice qo (s.block c).1.rts.length co,(s.block c).1.rts)::row b10 [i64 (s.block c).1.act,i64 (s.block c).1.used,.slice qo (s.block c).1.rts.length co] 151::aB bd s::row b5 [i64 c.log,i64 c.roots,i64 c.space] 134::fy bs S::Fr) (fun w hh=>by have h:=hh;exact h) (aq (ac (cI [0,1,2,4,5,7,3,6,8,9,10] [3,6,8,9] [0,1,2,4,5,7] [3,6,8] [row b5 [i64 c.log,i64 c.roots,i64 c.space] 134,row b10 [i64 (s.block c).1.act,i64 (s.block c).1.used,.slice qo (s.block c).1.rts.length co] 151] Tryz.mixed (by kernel_rfl) ?_)))
  refine an aa aa aa (aj aa) .free aa (an aa aa aa (ah isAgg134 sizeOf134 aa aa) .free aa ?_)
  refine an aa aa aa (ah isAgg151 sizeOf151 aa aa) .free aa ?_
  refine an aa aa aa (aE (m:=_) eY aa aa) .free aa (an aa aa aa (ai isAgg30 aa aa) .free aa (an aa aa aa (aj aa) .free aa (aT aa aa (kPb (u7 runUnderlying30 sizeOf25) aa fun b28=>(aN (H':=cS 0 (.slice (some ⟨b28,0,none⟩) 0 0,[])::_) (fun w hh=>gZ (xs:=[]) aa aa hh) (ad (cL (aT aa aa (cK aa (dW (yv:= .slice qo (s.block c).1.rts.length co) (ys:=(s.block c).1.rts) aa aa runUnderlying30 runUnderlying30 ⟨_,rfl⟩ sizeOf25 zeroValue25 aa (fun _=>rfl) ia aa aa (cO 0 aa) (by simp;omega)) .free aa aa ?_)))))))))
  rintro nv2 _ ⟨hnv2,rfl⟩
  refine ad (cL (aT aa aa (cK aa (dW (yv:= .slice q ws.length cap) (ys:=ws) aa aa runUnderlying30 runUnderlying30 ⟨_,rfl⟩ sizeOf25 zeroValue25 aa (fun _=>rfl) ia aa aa hwl.up (by simp;omega)) .free aa aa ?_)))
  rintro nv3 _ ⟨hnv3,rfl⟩
  refine cC fun qn cn hqn0 hqni=> ?_
  subst hqn0
  have hqn:qn=none→(s.block c).1.rts++ws=[]:=fun e=>by
   cases hl:(s.block c).1.rts++ws with
   | nil=>rfl
   | cons a t=>
     obtain⟨b,o,h⟩:=hqni 0 (by show 0<((s.block c).1.rts++ws).length;rw[hl];exact Nat.succ_pos _)
     rw[e] at h;cases h
  refine ad (cL (aT aa aa (aS [1] (aJ aa (ar call133 aa) (rP B _ bd c hc (s.block c).1 hbk (.slice qo (s.block c).1.rts.length co) aa qn cn ((s.block c).1.rts++ws) (by rw[List.length_append];omega) hqn (cO 1 aa)) .free aa aa ?_))))
  rintro _ _ ⟨x,rfl,rfl⟩
  have hX0:fc (eh bd c (s.block c).1 ((s.block c).1.rts++ws)):=lT hc hbk hrl (fH hu) (fun v hv=>by
   rcases List.mem_append.1 hv with hv | hv
   ·exact fH hu v hv
   ·exact hws v hv)
  refine ad (c6 aa (aP aa aa aa (bD aa) .free aa (cF (am [12,9,8,5,0,2] rfl (ac (ab (kPm aa aa (aS [0,2] ?_))))))))
  refine aU aa (ar call135 aa) (wJ B _ x (eh bd c (s.block c).1 ((s.block c).1.rts++ws)) hX0 s hu) .free aa aa ?_ ?_
  rotate_left
  ·rintro _ _ ⟨s9,hm9,rfl,rfl⟩
   exact ba fun w hh=>⟨_,⟨s9,by unfold eJ;rw[if_neg (by omega)];rw[hm9];rfl,rfl,rfl⟩,hh.dp [1,1,1,1]⟩
  rintro _ _ ⟨X,s1,hm1,rfl,rfl⟩
  obtain⟨hX,hu1,hXb,hXbd,hXc,hXto⟩:=oz _ _ _ _ _ hX0 hu hm1
  have hn1:=vK hm1
  refine ad (ac (ac (ab (kPm aa aa (kPv (ah isAgg134 sizeOf134 aa aa) aa ?_)))))
  refine kPm aa aa (kPm aa aa (aS [5,0,0] ?_))
  refine aU aa (ar call172 aa) (wx B _ bs x bd S X hX (by rw[hXb];exact hrl0) c s1 hu1 ⟨hK.w,by rw[hn1];exact hK.n,hK.d,hK.c⟩) .free aa aa ?_ ?_
  rotate_left
  ·rintro _ _ ⟨s9,hm9,rfl,rfl⟩
   exact ba fun w hh=>⟨_,⟨s9,by unfold eJ;rw[if_neg (by omega)];rw[hm1];simp only[aR];rw[hm9];rfl,rfl,rfl⟩,hh.dp [1,1,1]⟩
  rintro _ _ ⟨a2,S2,s2,hm2,rfl,rfl⟩
  refine kPa aa aa (ad (am [13,12,9,8] rfl (ac (ab (kPm aa aa (kPv (al aa aa aa) aa (ad ?_)))))))
  refine aZ aa (fun h43=> ?_) (fun h43=> ?_)
  ·have ha2:a2≠0:=by simpa using h43
   refine ac (ab (kPm aa aa (kPa aa aa (kPa aa aa (ad (ay ?_))))))
   exact bS results116 aa aa (fun w hh=>⟨_,⟨(none,a2,S2),s2,by unfold eJ;rw[if_neg (by omega),hm1];simp only[aR];rw[hm2];simp only[aR];rw[if_pos ha2],.inl ⟨rfl,rfl,rfl⟩⟩,(hh.dp [1,2,2,2])⟩)
  ·have ha2:¬ a2≠0:=by simpa using h43
   refine aq (ac (ab (kPm aa aa (kPa aa aa (kPa aa aa (ad (ay ?_)))))))
   exact bS results116 aa aa (fun w hh=>⟨_,⟨(some X,0,S2),s2,by unfold eJ;rw[if_neg (by omega),hm1];simp only[aR];rw[hm2];simp only[aR];rw[if_neg ha2],.inr ⟨x,X,rfl,rfl,rfl,rfl⟩⟩,((hh.dp [3,3,3]).pk [1])⟩)
theorem nZ{L L':bK}{s s':Dev}(hL:dE L)(e:L.truncate s= .ok L' s'):(U64 s→U64 s')∧s'.n=s.n∧dE L'∧L'.d=L.d∧L'.c=L.c∧L'.n=0:=by
 unfold bK.truncate at e
 split at e
 ·rename_i h;cases e;exact⟨id,rfl,hL,rfl,rfl,h⟩
 obtain⟨_,s1,e1,e⟩:=aH e
 obtain⟨_,s2,e2,e⟩:=aH e
 obtain⟨_,s3,e3,e⟩:=aH e
 cases e
 have h1:=hL.c.l1;have h2:=hL.c.r1
 refine⟨fun hu=> ?_,((nK e3).trans (nH e2)).trans (nB e1),⟨hL.c,by simp only;omega,by simp only;omega,Int.le_refl 0,by simp only;omega⟩,rfl,rfl,rfl⟩
 exact(eN (dG (cu hu (by omega) e1).1 e2).1 e3).1
theorem yJ{c:Cfg}:∀ (k:Nat) (s s':Dev),kT jP c k s= .ok () s'→(U64 s→U64 s')∧s'.n=s.n
 | 0,s,s',e=>by cases e;exact⟨id,rfl⟩
 | k+1,s,s',e=>by
   unfold kT at e
   obtain⟨_,s1,e1,e⟩:=aH e
   unfold jP at e1
   obtain⟨_,s2,e2,e1⟩:=aH e1
   obtain⟨_,s3,e3,e1⟩:=aH e1
   cases e1
   obtain⟨g1,g2⟩:=yJ k s1 s' e
   exact⟨fun hu=>g1 (dG (cu hu (hu.load _) e2).1 e3).1,g2.trans ((nH e3).trans (nB e2))⟩
theorem yg{L L':bK}{s s':Dev}(hL:dE L)(e:L.undo s= .ok L' s'):(U64 s→U64 s')∧s'.n=s.n∧dE L'∧L'.d=L.d∧L'.c=L.c∧L'.n=0:=by
 unfold bK.undo at e
 obtain⟨_,s1,e1,e⟩:=aH e
 obtain⟨_,s2,e2,e⟩:=aH e
 obtain⟨g1,g2⟩:=yJ _ _ _ e1
 obtain⟨h1,h2,h3,h4,h5,h6⟩:=nZ hL e
 have k:(U64 s1→U64 s2)∧s2.n=s1.n:=by
  split at e2
  ·exact⟨fun hu=>(eN hu e2).1,nK e2⟩
  ·cases e2;exact⟨id,rfl⟩
 exact⟨fun hu=>h1 (k.1 (g1 hu)),(h2.trans k.2).trans g2,h3,h4,h5,h6⟩
theorem pn:∀ (l:List Int) (s s':Dev),dy l s= .ok () s'→(U64 s→U64 s')∧s'.n=s.n
 | [],s,s',e=>by cases e;exact⟨id,rfl⟩
 | k::ks,s,s',e=>by
   unfold dy at e
   obtain⟨_,s1,e1,e⟩:=aH e
   obtain⟨g1,g2⟩:=pn ks s1 s' e
   exact⟨fun hu=>g1 (dG hu e1).1,g2.trans (nH e1)⟩
theorem tV{S S':bC}{s s':Dev}(hL:dE S.L)(e:S.commit s= .ok S' s'):(U64 s→U64 s')∧s'.n=s.n∧dE S'.L∧S'.L.d=S.L.d∧S'.L.c=S.L.c∧S'.L.n=0:=by
 unfold bC.commit at e
 obtain⟨_,s1,e1,e⟩:=aH e
 obtain⟨_,s2,e2,e⟩:=aH e
 obtain⟨_,s3,e3,e⟩:=aH e
 cases e
 obtain⟨g1,g2⟩:=pn _ _ _ e1
 obtain⟨h1,h2,h3,h4,h5,h6⟩:=nZ hL e3
 have k:(U64 s1→U64 s2)∧s2.n=s1.n:=by
  split at e2
  ·exact⟨fun hu=>(eN hu e2).1,nK e2⟩
  ·cases e2;exact⟨id,rfl⟩
 exact⟨fun hu=>h1 (k.1 (g1 hu)),(h2.trans k.2).trans g2,h3,h4,h5,h6⟩
theorem BC{S S':bC}{s s':Dev}(hL:dE S.L)(e:S.abort s= .ok S' s'):(U64 s→U64 s')∧s'.n=s.n∧dE S'.L∧S'.L.d=S.L.d∧S'.L.c=S.L.c∧S'.L.n=0:=by
 unfold bC.abort at e
 obtain⟨_,s1,e1,e⟩:=aH e
 cases e
 exact yg hL e1
theorem nV:∀ (l:List Int) (i:Int) (S S':bC) (s s':Dev) (a:Int),(∀ v∈l,0≤v∧v<18446744073709551616)→lE S→U64 s→s.n≤1000000→gR gh l i s S= .ok (a,S') s'→U64 s'∧s'.n=s.n∧dE S'.L∧S'.L.d=S.L.d∧S'.L.c=S.L.c
 | [],i,S,S',s,s',a,_,hS,hu,_,e=>by cases e;exact⟨hu,rfl,hS.L,rfl,rfl⟩
 | v::vs,i,S,S',s,s',a,hv,hS,hu,hn,e=>by
   unfold gR at e
   split at e
   ·exact nV vs _ _ _ _ _ _ (fun v hv'=>hv v (List.mem_cons_of_mem _ hv')) hS hu hn e
   ·obtain⟨⟨x,S1⟩,s1,e1,e⟩:=aH e
    have h1:=ju hS hu hn (hv v (List.mem_cons_self ..)) e1
    have h2:=j2 hS.L e1
    have h3:=n4 e1
    have h4:lE S1:=qW hS hn (by have:=(Am hS.L.c).1;omega) e1 h2
    split at e
    ·cases e;exact⟨h1.1,h1.2,h2,h3.1,h3.2.1⟩
    ·obtain⟨g1,g2,g3,g4,g5⟩:=nV vs _ _ _ _ _ _ (fun v hv'=>hv v (List.mem_cons_of_mem _ hv')) h4 h1.1 (by rw[h1.2];exact hn) e
     exact⟨g1,g2.trans h1.2,g3,g4.trans h3.1,g5.trans h3.2.1⟩
theorem A5{S:bC}(h:dE S.L)(f t:Int):lE (S.fresh f t):=⟨h,fun p hp=>(List.not_mem_nil (show p∈([]:List (Int×Unit)) from hp)).elim⟩
theorem zt{c:Cfg}{b:Blk}{S S':bC}{s s':Dev}{a:Int}(hb:∀ v∈b.act::b.used::b.rts,0≤v∧v<18446744073709551616)(hL:dE S.L)(hu:U64 s)(hn:s.n≤1000000)(e:i8 c b S s= .ok (a,S') s'):U64 s'∧s'.n=s.n∧dE S'.L∧S'.L.d=S.L.d∧S'.L.c=S.L.c∧S'.L.n=0:=by
 unfold i8 li at e
 obtain⟨⟨x,S1⟩,s1,e1,e⟩:=aH e
 obtain⟨g1,g2,g3,g4,g5⟩:=nV _ _ _ _ _ _ _ hb (A5 hL 0 0) hu hn e1
 split at e
 ·obtain⟨S2,s2,e2,e⟩:=aH e
  cases e
  obtain⟨h1,h2,h3,h4,h5,h6⟩:=BC g3 e2
  exact⟨h1 g1,h2.trans g2,h3,h4.trans g4,h5.trans g5,h6⟩
 ·obtain⟨S2,s2,e2,e⟩:=aH e
  cases e
  obtain⟨h1,h2,h3,h4,h5,h6⟩:=tV g3 e2
  exact⟨h1 g1,h2.trans g2,h3,h4.trans g4,h5.trans g5,h6⟩
theorem tX{X:bE}(h:fc X):∀ v∈X.block.act::X.block.used::X.block.rts,0≤v∧v<18446744073709551616:=fun v hv=>by
 have h1:=h.b.act;have h2:=h.free;have h3:=h.fb;have h4:=h.to_
 simp only[List.mem_cons] at hv
 rcases hv with rfl | rfl | hv
 ·simp only[bE.block];omega
 ·simp only[bE.block];omega
 ·obtain⟨u,_,rfl⟩:=List.mem_map.1 hv
  have:=h.vb u
  omega
theorem xL{bd:Nat}{c:Cfg}{S:bC}{s s':Dev}{ws:List Int}{r:Option bE×Int×bC}(hc:bx c)(hw:∀ v∈ws,0≤v∧v<18446744073709551616)(hL:dE S.L)(hu:U64 s)(hn:s.n≤1000000)(hL0:S.L.n=0)(e:eJ bd c S s ws= .ok r s'):U64 s'∧s'.n=s.n∧dE r.2.2.L∧r.2.2.L.d=S.L.d∧r.2.2.L.c=S.L.c∧r.2.2.L.n=0∧(∀ X,r.1=some X→fc X):=by
 unfold eJ at e
 split at e
 ·cases e;exact⟨hu,rfl,hL,rfl,rfl,hL0,fun _ h=>by cases h⟩
 obtain⟨X,s1,e1,e⟩:=aH e
 have hX0:fc (eh bd c (s.block c).1 ((s.block c).1.rts++ws)):=lT hc (dA hc hu) (fI hc) (fH hu) fun v hv=>by
  rcases List.mem_append.1 hv with hv | hv
  ·exact fH hu v hv
  ·exact hw v hv
 obtain⟨hX,u1,_⟩:=oz _ _ _ _ _ hX0 hu e1
 have n1:=vK e1
 obtain⟨⟨a,S2⟩,s2,e2,e⟩:=aH e
 obtain⟨g1,g2,g3,g4,g5,g6⟩:=zt (tX hX) hL u1 (by rw[n1];exact hn) e2
 split at e
 ·cases e;exact⟨g1,g2.trans n1,g3,g4,g5,g6,fun _ h=>by cases h⟩
 ·cases e;exact⟨g1,g2.trans n1,g3,g4,g5,g6,fun X' h=>by cases h;exact hX⟩
theorem xl(B:World)(H:List HP)(r:Nat):
 ∀ w,Holds B H w→Calls Tryz.prog 155 [.map (some r)].toArray w (Ret B (fun v H'=>∃ bb,v= .func (.func 197) [].toArray [ptr bb].toArray∧H'=row bb [.map (some r)] 196::H) (fun _ _=>False)):=by
 refine ap func155 aa ntmps155 aa (ac (ab (kPb (dF aa aa) aa fun b1=>(kPa aa aa (ad (ac (ab (kPv (dt aa aa) aa (kPa aa aa (ad (ay ?_)))))))))))
 exact au results155 aa (fun w hw=>⟨_,⟨_,rfl,rfl⟩,hw⟩)
theorem uM(B:World)(Fr:List HP)(l f mr bb b2:Nat)(ml:List (Int×Int))(r:Loop)(hrf:r.fn=f)(hrp:r.params.size=1)(hround:∀ (A1 A2:HP) (v:Int) (xs:List Int),xs.length<ml.length→∀ w,Holds B (blk l (.loop r)::A1::A2::jV b2 xs::Fr) w→RoundIn (Wd (cxF f)) 0 Tryz.prog l f ((r.params.zip [i64 v].toArray).foldl (fun tmps (t,a)=>tmps.setIfInBounds t a) r.tmps) r.assign r.body w (Ret B (fun rv H'=>rv= .bool true∧H'=blk l (.loop r)::A1::A2::jV b2 (xs++[v])::Fr) (fun _ _=>False))):
 ∀ w,Holds B (blk l (.loop r)::row bb [.map (some mr)] 196::bu .i64 i64 mr ml::jV b2 []::Fr) w→Calls Tryz.prog 197 [.func (.yield l) #[] #[],ptr bb].toArray w (Ret B (fun rv H'=>∃ ks:List Int,ks.Perm (ml.map Prod.fst)∧H'=blk l (.loop r)::row bb [.map (some mr)] 196::bu .i64 i64 mr ml::jV b2 ks::Fr) (fun _ _=>False)):=by
 refine ap func197 aa ntmps197 aa (ac (ab (kPv (ai isAgg196 aa aa) aa (kPb (mp runUnderlying196 aa) aa fun it=>(ad (aF (dm (ι:=List (Int×Int)) (fun d=>d.length≤ml.length) (fun d=>[(0,.func (.yield l) #[] #[]),(1,ptr bb),(5,.pointer (some ⟨it,0,none⟩))]) (fun done=>blk l (.loop r)::row bb [.map (some mr)] 196::fF .i64 i64 mr it ml done::jV b2 (done.map Prod.fst)::Fr) (fun d=>ml.length - d.length) [] (Nat.zero_le _) (fun a w st=>st.to ⟨rfl,rfl,rfl,trivial⟩ id) ?_)))))))
 intro done hdone
 refine ac (ab (cK aa (nN aa) .free aa aa ?_))
 rintro _ _ ⟨bb0,vs,done',rfl,hvs,rfl,hno,hyes⟩
 refine kPv (aA aa hvs) aa (ad (ac ?_))
 refine aZ aa (fun h7=> ?_) (fun h7=> ?_)
 ·obtain⟨pp,hpl,hpn,rfl⟩:=hyes h7
  refine iD it fun hl hd hsub=>(aq (aF (ac (ab (kPv (mi (p0:=pp) (dn:=done) aa) aa (kPv (aA aa aa) aa (kPa aa aa (ad (ac (ab (kPm aa aa ?_)))))))))))
  refine kPm aa aa ?_
  refine fR (f:=f) aa aa (fun w hw=>hw) (by rw[hrp];rfl) hrf (hround _ _ _ _ (by have:=iC hd hsub;simp;omega)) .free aa ?_ ?_
  rotate_left
  ·rintro _ _ ⟨⟩
  rintro _ _ ⟨rfl,rfl⟩
  refine kPv (bj aa) aa (ad (am [13,5,0,1] rfl (bG aa (rfl) (aq ?_))))
  have hle:=iC hd hsub
  exact fun a w st=>⟨done++[pp],by simp;omega,by simp;omega,st.to ⟨rfl,rfl,rfl,trivial⟩ (fun hh=>by rw[List.map_append];exact hh)⟩
 ·obtain⟨rfl,hall⟩:=hno h7
  refine iD it fun hl hd hsub=>(aN (fun w hh=>hh.iter_end it) (bz ?_))
  exact cP results197 (fun w hh=>⟨_,⟨_,(List.perm_ext_iff_of_nodup hd hl).2 fun x=>⟨fun hx=>by obtain⟨p,hp,rfl⟩:=List.mem_map.1 hx;exact List.mem_map_of_mem (hsub p hp),fun hx=>by obtain⟨p,hp,rfl⟩:=List.mem_map.1 hx;exact List.mem_map_of_mem (hall p hp)⟩,rfl⟩,hh⟩)
theorem vr(B:World)(Fr:List HP)(mr bb:Nat)(ml:List (Int×Int))(hml:ml.length≤1000000):
 ∀ w,Holds B (row bb [.map (some mr)] 196::bu .i64 i64 mr ml::Fr) w→Calls Tryz.prog 211 [.slice none 0 0,.func (.func 197) [].toArray [ptr bb].toArray].toArray w (Ret B (fun rv H'=>∃ ks:List Int,ks.Perm (ml.map Prod.fst)∧H'=iz 0 (rv,ks)::bu .i64 i64 mr ml::Fr) (fun _ _=>False)):=by
 refine eH func211 aa ntmps211 aa (ac (ab (kPb (dF aa aa) aa fun b2=>(kPa aa aa (ad (ac (ac (ab (kPm aa aa (ad (aF ?_)))))))))))
 refine pg (ι:=List Int) (fun ks=>row bb [.map (some mr)] 196::bu .i64 i64 mr ml::jV b2 ks::Fr) (fun ks=>ks.Perm (ml.map Prod.fst)) (fun _=>False) [] rfl call197 ?_ ?_ ?_
 ·intro l m tmps hts hkn w hh
  have hk2:=hkn 2 _ rfl
  refine(uM B (blk m (.deferred (some []))::Fr) l 211 mr bb b2 ml _ aa aa ?_ w (((((wP ((((hh.front 4 aa).front 4 aa).front 2 aa).front 4 aa)).front 0 aa).front 3 aa).front 3 aa).front 3 aa)).mono (Ret.mono ?_ ?_)
  rotate_left
  ·rintro v H' ⟨ks,hks,rfl⟩
   exact⟨ks,hks,fun w hh=>((hh.front 4 aa).front 1 aa)⟩
  ·rintro c H' ⟨⟩
  intro A1 A2 v xs hxs
  have hxs:xs.length≤1000000:=by omega
  refine gL (n:=13) (σ:=[(7,i64 v),(2,ptr b2)]) func211 (by simp[fL,hts]) (KnA.knows (by simp[KnA,fL,hts];exact(Array.getElem?_eq_some_iff.1 hk2).2)) aa ?_;refine ab ?_;refine kPa aa aa ?_;refine ad ?_;refine ki ?_;refine dl 3 aa ?_
  refine zi (fun hxe=> ?_) (fun bd rest=> ?_)
  ·subst hxe
   refine aF (ab (kPv (ai isAgg166 aa aa) aa (kPm aa aa (kPb (fZ runUnderlying166 sizeOf3 zeroValue3 aa aa aa) aa fun b1=>(cK aa (gI aa aa runUnderlying166 runUnderlying166 ⟨_,rfl⟩ sizeOf3 zeroValue3 aa yi aa aa (SlR.row (xs:=[i64 v]) aa aa) (by simp) (by simp)) .free aa aa ?_)))))
   rintro _ _ ⟨bn,cn,rest',hcn,hrest,rfl,rfl⟩
   refine kPs (aO sizeOf166 aa aa aa aa) aa (ad (am [] rfl (dl 3 aa ?_)))
   exact kh fun w hh=>⟨_,⟨rfl,rfl⟩,((((((nR (xs:=[]++[v]) (by simp) (by first | omega | (simp at*;omega)) ((hh.front 1 aa).front 3 aa)).front 2 aa).tail.front 0 aa).front 3 aa).front 3 aa).front 3 aa)⟩
  ·skip
   refine aF (ab (kPv (ai isAgg166 aa aa) aa (kPm aa aa (kPb (fZ runUnderlying166 sizeOf3 zeroValue3 aa aa aa) aa fun b1=>(cK aa (jj aa aa runUnderlying166 runUnderlying166 ⟨_,rfl⟩ sizeOf3 zeroValue3 aa yi aa aa (SlR.row (xs:=[i64 v]) aa aa) (by simp) (by omega) (by simp;omega) aa) .free aa aa (fun v2 H2 hY=> ?_))))))
   revert hY
   generalize hob:Obj.loop _=ob
   intro hY
   have hY2:∃ bn c' rest',c'=xs.length+1+rest'.length∧v2= .slice (some ⟨bn,0,none⟩) (xs.length+1) c'∧∀ w,Holds B H2 w→Holds B (row b2 [.slice (some ⟨bd,0,none⟩) xs.length (xs.length+rest.length)] 166::row bn ((xs++[v]).map i64++rest') 3::blk l ob::A1::A2::blk m (.deferred (some []))::Fr) w:=by
    rcases hY with ⟨h1,rfl,rfl⟩ | ⟨h1,bn,cn,rest',h2,_,rfl,rfl⟩
    ·refine⟨bd,_,rest.drop 1,by simp at h1 ⊢;omega,rfl,fun w hh=> ?_⟩
     have h3:=hh.tail
     rw[wO (by simp at h1;omega)] at h3
     exact h3
    ·refine⟨bn,_,rest',by simpa using h2.symm,rfl,fun w hh=> ?_⟩
     have h3:=((((hh.front 1 rfl).tail).front 2 rfl).tail).front 1 rfl
     have e:(xs++[v]).map i64++rest'=((xs.map i64++rest).drop 0).take xs.length++[i64 v]++rest':=by simp
     rw[e]
     exact h3
   obtain⟨bn,c',rest',hc',rfl,hY3⟩:=hY2
   refine aN hY3 (kPs (aO sizeOf166 aa aa aa aa) aa (ad (am [] rfl ?_)))
   subst hob
   refine dl 2 aa ?_
   exact kh fun w hh=>⟨_,⟨rfl,rfl⟩,(((((nR (xs:=xs++[v]) (by simp) (by first | omega | (simp at*;omega)) ((hh.front 2 aa).front 2 aa)).front 0 aa).front 3 aa).front 3 aa).front 3 aa)⟩
 rotate_left
 ·rintro m x ⟨⟩
 intro m ks hks
 refine dl 3 aa (wr fun sv=>(ac (ab (kPv (ai isAgg166 aa aa) aa (kPa aa aa (ad (ay ?_)))))))
 exact fB results211 aa (.cons (i:=2) aa .nil) (fun w hh=>⟨_,⟨ks,hks,rfl⟩,(((hh.front 3 aa).front 3 aa).front 2 aa).tail.tail.tail⟩)
theorem tW(B:World)(Fr:List HP)(mr bb:Nat)(ml:List (Int×Int))(hml:ml.length≤1000000):
 ∀ w,Holds B (row bb [.map (some mr)] 196::bu .i64 i64 mr ml::Fr) w→Calls Tryz.prog 191 [.func (.func 197) [].toArray [ptr bb].toArray].toArray w (Ret B (fun rv H'=>∃ ks:List Int,ks.Perm (ml.map Prod.fst)∧H'=iz 0 (rv,ks)::bu .i64 i64 mr ml::Fr) (fun _ _=>False)):=by
 refine ap func191 aa ntmps191 aa (ac (ab (kPa aa aa (ad (ac (ab (kPm aa aa (aJ aa (ar call211 aa) (vr _ _ mr bb ml hml) .free aa aa ?_))))))))
 rintro _ _ ⟨ks,hks,rfl⟩
 refine kPa aa aa (ad (ay ?_))
 exact au results191 aa (fun w hw=>⟨_,⟨ks,hks,rfl⟩,hw⟩)
theorem uw(B:World)(Fr:List HP)(mr bb:Nat)(ml:List (Int×Int))(hml:ml.length≤1000000):
 ∀ w,Holds B (row bb [.map (some mr)] 196::bu .i64 i64 mr ml::Fr) w→Calls Tryz.prog 149 [.func (.func 197) [].toArray [ptr bb].toArray].toArray w (Ret B (fun rv H'=>H'=iz 0 (rv,cf (ml.map Prod.fst))::bu .i64 i64 mr ml::Fr) (fun _ _=>False)):=by
 refine ap func149 aa ntmps149 aa (ac (ab (kPa aa aa (ad (ac (ab (kPm aa aa (aJ aa (ar call191 aa) (tW _ _ mr bb ml hml) .free aa aa ?_))))))))
 rintro v5 _ ⟨ks,hks,rfl⟩
 have hkl:ks.length≤1000000:=by rw[hks.length_eq,List.length_map];exact hml
 refine kPa aa aa (ad (ac (ab (kPm aa aa (aJ aa (ar call192 aa) (sm _ _ _ ks hkl) .free aa aa ?_)))))
 rintro _ _ rfl
 refine ad (ac (ab (kPm aa aa (kPa aa aa (ad (am [2] rfl (ay ?_)))))))
 exact au results149 aa (fun w hw=>⟨_,rfl,by rw[←oc hks];exact hw⟩)
structure gG where
 at_:List (Int×Int)
 no:List (Int×Int)
 last:Int
def gc(b:Nat)(T:gG):HP:=hex fun (x:Nat×Nat)=>grp [row b [.map (some x.1),.map (some x.2),i64 T.last] 198,bu .i64 i64 x.1 T.at_,bu .i64 i64 x.2 T.no]
theorem rA{B:World}{n:Nat}{D:List Deferred}{σ:Env}{b:Nat}{T:gG}{Fr:List HP}{K:Act→World→Prop}(h:∀ b1 b2,GO B n D σ (row b [.map (some b1),.map (some b2),i64 T.last] 198::bu .i64 i64 b1 T.at_::bu .i64 i64 b2 T.no::Fr) K):GO B n D σ (gc b T::Fr) K:=fun a w st=>by
 obtain⟨x,hx⟩:=st.holds.hex
 exact h _ _ a w ⟨st.toStA,hx.grp⟩
theorem gq{B:World}{b b1 b2:Nat}{T:gG}{Fr:List HP}{w:World}(h:Holds B (row b [.map (some b1),.map (some b2),i64 T.last] 198::bu .i64 i64 b1 T.at_::bu .i64 i64 b2 T.no::Fr) w):Holds B (gc b T::Fr) w:=
 Holds.unhex (b1,b2) (Holds.ungrp (l:=[row b [.map (some b1),.map (some b2),i64 T.last] 198,bu .i64 i64 b1 T.at_,bu .i64 i64 b2 T.no]) h)
theorem wi(B:World)(H:List HP):
 ∀ w,Holds B H w→Calls Tryz.prog 71 [].toArray w (Ret B (fun rv H'=>∃ b,rv=ptr b∧H'=gc b ⟨[],[],0⟩::H) (fun _ _=>False)):=by
 refine ap func71 aa ntmps71 aa (ac (ab (kPa aa aa (ad (ac (ab (kPb (dR .i64 i64) aa fun b1=>(kPb (dR .i64 i64) aa fun b2=> ?_))))))))
 refine ak aa (aQ aa (ua _ _ (by first | rfl | assumption) (by first | rfl | assumption))) .free rfl rfl ?_;refine kPb (aY aa) aa fun b4=> ?_;refine kPa aa aa ?_;refine ad ?_;refine ay ?_
 exact au results71 aa (fun w hh=>⟨_,⟨_,rfl,rfl⟩,gq (T:=⟨[],[],0⟩) ((hh.front 2 aa).back 1 (by simp))⟩)
theorem qy(B:World)(Fr:List HP)(b:Nat)(T:gG)(n:Int):
 ∀ w,Holds B (gc b T::Fr) w→Calls Tryz.prog 146 [ptr b,i64 n].toArray w (a8 B (gc b T::Fr) (.tuple #[i64 ((bJ T.at_ n).getD 0),.bool (bJ T.at_ n).isSome])):=by
 refine ap func146 aa ntmps146 aa (rA fun b1 b2=>(ac (ab (kPa aa aa (kPa aa aa (ad (ac (ab (kPf jd isAgg196 aa aa aa aa (kPm aa aa (kPv ((fu runUnderlying196 runUnderlying3 zeroValue3 aa aa).eq (congrArg (fun v=>Value.tuple #[v,.bool _]) (oS _))) aa ?_)))))))))))
 refine kPm aa aa (kPv (aA aa aa) aa (kPv (aA aa aa) aa (kPa aa aa (kPa aa aa (ad (am [7,6,5,4] rfl (ac (ab (kPm aa aa (kPm aa aa (kPa aa aa ?_)))))))))))
 refine kPa aa aa (ad (ay ?_))
 exact bS results146 aa aa (fun w hh=>⟨rfl,gq hh⟩)
theorem sU{α:Type}{k:Int}{z u:α}:∀ {l:List (Int×α)},(∀ p∈l,p.1≠k)→mset (l++[(k,z)]) k u=l++[(k,u)]
 | [],_=>by simp[mset]
 | p::l,h=>by
   simp only[List.cons_append,mset]
   rw[if_neg (h p (List.mem_cons_self ..)),sU fun q hq=>h q (List.mem_cons_of_mem _ hq)]
theorem jB{α:Type}{k:Int}{z u:α}{l:List (Int×α)}:mset (jE l k z) k u=mset l k u:=by
 unfold jE
 cases hc:fD l k 0 with
 | none=>rw[jD hc];exact sU (gN hc)
 | some v=>rfl
def gG.take(T:gG)(p:Int):Int×gG:=
 if p=0 then (0,T) else if (bJ T.no p).isSome=true then ((bJ T.no p).getD 0,T)
 else (T.last+1,⟨mset T.at_ (T.last+1) p,mset T.no p (T.last+1),T.last+1⟩)
theorem kg(B:World)(Fr:List HP)(b:Nat)(T:gG)(p:Int)(hT:0≤T.last∧T.last≤1000000000):
 ∀ w,Holds B (gc b T::Fr) w→Calls Tryz.prog 72 [ptr b,i64 p].toArray w (Ret B (fun rv H'=>rv=i64 (T.take p).1∧H'=gc b (T.take p).2::Fr) (fun _ _=>False)):=by
 refine ap func72 aa ntmps72 aa (rA fun b1 b2=>(ac (ab (kPa aa aa (ad (ac (ac (ab (kPm aa aa (kPv (al aa aa aa) aa (ad ?_)))))))))))
 refine aZ aa (fun h8=> ?_) (fun h8=> ?_)
 ·have hk:p=0:=by simpa using h8
  have hres:T.take p=(0,T):=by unfold gG.take;rw[if_pos hk]
  refine ac (ab (kPa aa aa (ad (ay ?_))))
  exact au results72 aa (fun w hh=>⟨_,⟨by rw[hres],rfl⟩,by rw[hres];exact gq hh⟩)
 ·have hk:¬ p=0:=by simpa using h8
  refine aq (ac (ac (ab (kPf ma isAgg196 aa aa aa aa (kPm aa aa (kPv ((fu runUnderlying196 runUnderlying3 zeroValue3 aa aa).eq (congrArg (fun v=>Value.tuple #[v,.bool _]) (oS _))) aa (kPm aa aa (kPv (aA aa aa) aa (kPv (aA aa aa) aa (kPa aa aa (kPa aa aa ?_)))))))))))
  refine ad (am [6,5,4,0,1] rfl (ac (ab (kPm aa aa (ad ?_)))))
  refine aZ aa (fun h18=> ?_) (fun h18=> ?_)
  ·have hres:T.take p=((bJ T.no p).getD 0,T):=by unfold gG.take;rw[if_neg hk,if_pos h18]
   refine ac (ab (kPm aa aa (kPa aa aa (ad (ay ?_)))))
   exact au results72 aa (fun w hh=>⟨_,⟨by rw[hres];rfl,rfl⟩,by rw[hres];exact gq hh⟩)
  ·have hres:T.take p=(T.last+1,⟨mset T.at_ (T.last+1) p,mset T.no p (T.last+1),T.last+1⟩):=by unfold gG.take;rw[if_neg hk,if_neg (by rw[h18];decide)]
   refine aq (ac (ab (kPf ko isAgg3 aa aa aa aa (kPv (aL aa aa) aa (kPv (aK aa) aa (kPv (aE (m:=_) ko aa aa) aa (kPs (aO sizeOf3 aa aa aa aa) aa (ad (am [4,0,1] rfl (ac (cI [0,1,2,3,4,5,6,7,8,9,10,11,12,13,14,15,16,17,18,19,20,21,22,23] [18,20,21,23] [12,13] [18,20] [] Tryz.mixed (by kernel_rfl) ?_)))))))))))
   refine aP aa aa aa (aj aa) .free aa (aP aa aa aa (aK aa) .free aa (aP aa aa aa (aE (m:=_) jd aa aa) .free aa (aP aa aa aa (ai isAgg196 aa aa) .free aa (aP aa aa aa (aj aa) .free aa (aP aa aa aa (aK aa) .free aa (aP aa aa aa (aE (m:=_) ko aa aa) .free aa (aP aa aa aa (ai isAgg3 aa aa) .free aa (aP aa aa aa (aj aa) .free aa (aP aa aa aa (aK aa) .free aa (aP aa aa aa (aE (m:=_) ma aa aa) .free aa (aP aa aa aa (ai isAgg196 aa aa) .free aa ?_)))))))))))
   refine an aa aa aa (aj aa) .free aa (an aa aa aa (aj aa) .free aa (aP aa aa aa (aj aa) .free aa (aP aa aa aa (aK aa) .free aa (aP aa aa aa (aE (m:=_) ko aa aa) .free aa (aP aa aa aa (ai isAgg3 aa aa) .free aa (aT aa aa (dl 1 aa ?_)))))))
   simp only[List.eraseIdx_cons_succ,List.eraseIdx_cons_zero]
   refine cK aa (iI (u0:=(0:Int)) runUnderlying196 runUnderlying3 zeroValue3 aa aa) .free aa aa ?_
   rintro _ _ ⟨z1,st1,rfl,rfl⟩
   refine ad (cL (aP aa aa aa (aA aa aa) .free aa (aT aa aa (kPs (gH aa aa aa aa) aa (ad (cL (aT aa aa (dl 2 aa ?_))))))))
   simp only[List.eraseIdx_cons_succ,List.eraseIdx_cons_zero]
   refine cK aa (iI (u0:=(0:Int)) runUnderlying196 runUnderlying3 zeroValue3 aa aa) .free aa aa ?_
   rintro _ _ ⟨z2,st2,rfl,rfl⟩
   refine ad (c6 aa (aP aa aa aa (aA aa aa) .free aa (aT aa aa (kPs (gH aa aa aa aa) aa (ad (c6 aa (cF (am [4,0] rfl (ac (ab (kPf ko isAgg3 aa aa aa aa ?_)))))))))))
   refine kPa aa aa (ad (ay ?_))
   exact au results72 aa (fun w hh=>⟨_,⟨by rw[hres],rfl⟩,by rw[hres];rw[jB,jB] at hh;exact gq (T:=⟨_,_,_⟩) ((hh.front 1 aa).front 2 aa)⟩)
theorem nh(B:World)(Fr:List HP)(b:Nat)(T:gG)(hTl:T.at_.length≤1000000):
 ∀ w,Holds B (gc b T::Fr) w→Calls Tryz.prog 92 [ptr b].toArray w (Ret B (fun rv H'=>H'=iz 0 (rv,cf (T.at_.map Prod.fst))::gc b T::Fr) (fun _ _=>False)):=by
 refine ap func92 aa ntmps92 aa (rA fun b1 b2=>(ac (ab (kPa aa aa (ad (ac (ab (kPf jd isAgg196 aa aa aa aa (aJ aa (ar call155 aa) (xl _ _ _) .free aa aa ?_)))))))))
 rintro _ _ ⟨bb,rfl,rfl⟩
 refine aN (H':=row bb [.map (some b1)] 196::bu .i64 i64 b1 T.at_::row b [.map (some b1),.map (some b2),i64 T.last] 198::bu .i64 i64 b2 T.no::Fr) (fun w hh=>(hh.front 2 aa).back 1 (by simp)) (aJ aa (ar call149 aa) (uw _ _ b1 bb T.at_ hTl) .free aa aa ?_)
 rintro v8 _ rfl
 refine kPa aa aa (ad (am [2] rfl (ay ?_)))
 exact au results92 aa (fun w hh=>⟨_,rfl,Holds.front (A:=iz 0 (v8,cf (T.at_.map Prod.fst))) (gq (T:=T) (((hh.front 3 aa).front 2 aa).front 3 aa)) 1 aa⟩)
end Go.Proofs.YtoakdoeajpjgkaaGreatDoor
