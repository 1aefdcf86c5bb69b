/- Part of a law's texts. Conditions: none. -/
import Derived.Test.YtoakdoeajpjgkaaGreatDoorQL18Jk
import Derived.Laws.Externs
open Go.Proofs.Tryz
set_option linter.all false
namespace Go.Proofs.YtoakdoeajpjgkaaGreatDoor
open Go
abbrev gi(i v:Int)(s:Dev)(S:bC):Out (Int×bC):=S.store s i v
def bC.fresh(S:bC)(f t:Int):bC:={S with ff:=f,ft:=t,seen:=[],dirty:=[]}
def i6(c:Cfg)(b:Blk)(S:bC)(s:Dev):Out (Int×bC):=
 (lh gi c b s (S.fresh 0 0)).then fun x s1=>if x.1≠0 then (x.2.abort s1).then fun S2 s2=> .ok (x.1,S2) s2
  else (x.2.commit s1).then fun S2 s2=> .ok (0,S2) s2
def eK(bd:Nat)(c:Cfg)(S:bC)(s:Dev)(ws:List Int):Out (Option bE×Int×bC):=
 if (s.block c).2≠0 then .ok (none,(s.block c).2,S) s
 else ((eA bd c (s.block c).1 ((s.block c).1.rts++ws)).run s).then fun X s1=>(i6 c X.block S s1).then fun x s2=>
  if x.1≠0 then .ok (none,x.1,x.2) s2 else .ok (some X,0,x.2) s2
theorem qY{s:Dev}{c:Cfg}(hc:bA c)(h:(s.block c).2=0):0<(s.block c).1.rts.length:=by
 have:=hc.r1
 unfold Dev.block at h ⊢
 split at h
 ·cases h
 ·rename_i h1;rw[if_neg h1];simp only[aW];omega
theorem oK{α:Type}(l:List (Int×α))(k:Int)(a:α):(mset l k a).length≤l.length+1:=by
 induction l with
 | nil=>simp[mset]
 | cons p t ih=>unfold mset;split<;>simp<;>omega
theorem rp{S S':bC}{s s':Dev}{i v a:Int}(e:S.store s i v= .ok (a,S') s'):S'.dirty.length≤S.dirty.length+1:=by
 have h1:=oK S.dirty (i / 8) ()
 unfold bC.store at e
 split at e
 ·cases e;omega
 ·split at e
  ·obtain⟨x,t,e1,e⟩:=aK e
   split at e
   ·cases e;simp only;omega
   ·obtain⟨y,u,e2,e⟩:=aK e
    cases e;exact h1
  ·obtain⟨y,u,e2,e⟩:=aK e
   cases e;exact h1
theorem jm:∀ (l:List Int) (i:Int) (S S':bC) (s s':Dev) (a:Int),gM gi l i s S= .ok (a,S') s'→S'.dirty.length≤S.dirty.length+l.length
 | [],i,S,S',s,s',a,e=>by cases e;simp
 | v::vs,i,S,S',s,s',a,e=>by
   unfold gM at e
   split at e
   ·have:=jm vs _ _ _ _ _ _ e;simp only[List.length_cons];omega
   ·obtain⟨⟨x,S1⟩,s1,e1,e⟩:=aK e
    have h1:=rp e1
    split at e
    ·cases e;simp only[List.length_cons];omega
    ·have:=jm vs _ _ _ _ _ _ e;simp only[List.length_cons] at this ⊢;omega
structure A3(S:bC)(bd:Nat)(c:Cfg)(s:Dev):Prop where
 w:dK S.L
 n:s.n≤1000000
 d:S.L.d=bd
 c:S.L.c=c
theorem wY(B:World)(Fr:List HP)(bs x bd:Nat)(S:bC)(X:bE)(hX:fp X)(hrl0:0<X.b.rts.length)(c:Cfg)(s:Dev)(hu:U64 s)(hK:A3 S bd c s):
 ∀ w,Holds B (fC bs S::eY x X::aB bd s::Fr) w→Calls Tryz.prog 172 [ptr bd,dY c,ptr bs,ptr x].toArray w (Ret B (fun rv H'=>∃ a S' s',i6 c X.block S s= .ok (a,S') s'∧rv=i64 a∧H'=fC bs S'::eY x X::aB bd s'::Fr) (fun ch H'=>∃ s',i6 c X.block S s= .off s'∧ch=dV∧H'=aB bd s'::Fr)):=by
 refine an func172 aa ntmps172 aa ?_
 have hrl:=hX.rl
 have hbb:=hX.b.act
 have hbf:=hX.free
 have hbw:∀ v∈X.block.rts,0≤v∧v<18446744073709551616:=fun v hv=>by
  obtain⟨u,_,rfl⟩:=List.mem_map.1 hv
  have:=hX.vb u
  omega
 have hfb:=hX.fb
 have hto:=hX.to_
 refine ac (ab (kPb (aX aa) aa fun b5=>(kPa aa aa (ad (ac (ac (ab (kPm aa aa (kPv (aQ aa (xg)) aa (aP [1] (dC aa (au call83 aa) (jx B _ bs S 0 0) .free aa aa ?_)))))))))))
 refine kPa aa aa (ad (ac (ab (kPm aa aa (kPv (ao aa aa aa) aa (ad (bH aa (rfl) (ar (ac (ac (cW [0,1,2,4,5,3,6,7] [3,6] [0,1,4,5] [3] [row b5 [i64 c.log,i64 c.roots,i64 c.space] 134] Tryz.mixed (by kernel_rfl) ?_)))))))))))
 refine aj aa aa aa (ak aa) .free aa (aj aa aa aa (ag isAgg134 sizeOf134 aa aa) .free aa ?_)
 refine aS aa aa aa (ak aa) .free aa (aj aa aa aa (ak aa) .free aa (aj aa aa aa (dz aa aa) .free aa (aT aa aa (aP [2] (aH aa (au call167 aa) (mI B _ x X hX) .free aa aa ?_)))))
 rintro _ _ ⟨bsv,hbsv,rfl,rfl⟩
 refine cE fun qb cb hqb hqi=> ?_
 subst hqb
 refine ad (cN (aT aa aa (aP [4,2] ?_)))
 refine aU aa (au call205 aa) (xw B _ _ _ bd bs bC (fun b S=>iQ b S) _ _ (uW B bd bs c) c (hK.c▸hK.w.c) X.block (by simp only[bE.block];omega) hbw (by simp only[bE.block,List.length_map];omega) (by simp only[bE.block,List.length_map];omega) (.slice qb X.block.rts.length cb) aa (cP 0 aa) s (S.fresh 0 0) ⟨hu,hK.n,⟨hK.w,fun _ h=>(by cases h)⟩,hK.d,hK.c⟩) .free rfl rfl ?_ ?_
 rotate_left
 ·rintro _ _ ⟨s9,hm9,rfl,rfl⟩
  exact bi fun w hh=>⟨_,⟨s9,by unfold i6 lh;rw[show gM gi (X.block.act::X.block.used::X.block.rts) c.active s (S.fresh 0 0)= .off s9 from hm9];rfl,rfl,rfl⟩,hh.dp [1,1,1]⟩
 rintro _ _ ⟨a2,S2,s2,hm2,rfl,hok2,rfl⟩
 obtain⟨hu2,hn2,hw2,hd2,hc2⟩:=hok2
 obtain rfl:=hd2
 refine ad (c7 aa (aS aa aa aa (bu aa) .free aa (cy (am [10,8,2] rfl (ac (ab (kPm aa aa (kPv (ao aa aa aa) aa (ad ?_)))))))))
 refine a8 aa (fun h25=> ?_) (fun h25=> ?_)
 ·have he:a2≠0:=by simpa using h25
  refine ac (ab (kPm aa aa (aP [1,0] ?_)))
  refine aU aa (au call206 aa) (oh B _ bs S2 s2 hw2) .free aa aa ?_ ?_
  rotate_left
  ·rintro _ _ ⟨s9,hm9,rfl,rfl⟩
   exact bi fun w hh=>⟨_,⟨s9,by unfold i6;rw[hm2];simp only[aR];rw[if_pos he,hm9];rfl,rfl,rfl⟩,hh.dp [1,1,1]⟩
  rintro _ _ ⟨S3,s3,hm3,rfl,rfl⟩
  refine ad (ac (ab (kPm aa aa (kPa aa aa (ad (az ?_))))))
  exact aq results172 aa (fun w hh=>⟨_,⟨a2,S3,s3,by unfold i6;rw[hm2];simp only[aR];rw[if_pos he,hm3];rfl,rfl,rfl⟩,((hh.dp [2,3]).pk [0,1])⟩)
 ·have he:¬ a2≠0:=by simpa using h25
  refine ar (ac (ab (kPm aa aa (aP [1,0] ?_))))
  refine aU aa (au call89 aa) (mU B _ bs S2 s2 hw2 (by have:=jm _ _ _ _ _ _ _ hm2;simp only[bC.fresh,bE.block,List.length_cons,List.length_map,List.length_nil] at this;omega)) .free aa aa ?_ ?_
  rotate_left
  ·rintro _ _ ⟨s9,hm9,rfl,rfl⟩
   exact bi fun w hh=>⟨_,⟨s9,by unfold i6;rw[hm2];simp only[aR];rw[if_neg he,hm9];rfl,rfl,rfl⟩,hh.dp [1,1,1]⟩
  rintro _ _ ⟨S3,s3,hm3,rfl,rfl⟩
  refine kPa aa aa (ad (az ?_))
  exact aq results172 aa (fun w hh=>⟨_,⟨0,S3,s3,by unfold i6;rw[hm2];simp only[aR];rw[if_neg he,hm3];rfl,rfl,rfl⟩,((hh.dp [2,3]).pk [0,1])⟩)
theorem ee{B:World}{σ:Env}{Fr:List HP}{P:Program}{T:TypeId}{enc:Int→Value}{sv:Value}{xs:List Int}{d:Option Tmp}{ty:TypeId}{p:String}{af:Array Edge}{g:Option (Nat×Bool)}{t:TypeId}{x y:Operand}{at_:Array TypeId}{u:TypeId}{ud:TypeDesc}{ys:List Int}{z yv:Value}
 (ha:at_[0]? =some t) (ha':at_[1]? =some u) (ht:∀ w,(underlying t).run P w= .ok (.slice T) w) (hu:∀ w,(underlying u).run P w= .ok ud w) (hud:∃ q,ud= .slice q) (hs:∀ w,(sizeOf T).run P w= .ok 1 w) (hz:∀ w,(zeroValue T).run P w= .ok z w) (hz1:aL z=true) (he1:∀ v,aL (enc v)=true) (hfb:cX P T)
 (hx:evO σ x=some sv) (hy:evO σ y=some yv) (hr:SlR B Fr yv (ys.map enc)) (hn:xs.length+ys.length≤1000000000):
 Chg P B σ (dJ T enc 0 (sv,xs)::Fr) ⟨d,.call ⟨.builtin .append, #[x,y],at_⟩,ty,p,af,g⟩ (fun v' H'=>aL v'=true∧H'=dJ T enc 0 (v',xs++ys)::Fr):=by
 by_cases h0:0<ys.length
 ·exact kz ha ha' ht hu hud hs hz hz1 he1 hfb hx hy hr h0 hn
 obtain rfl:ys=[]:=List.length_eq_zero_iff.1 (by omega)
 intro a w kn hh
 obtain⟨q,rfl⟩:=hud
 obtain⟨sq,scap,e0,_⟩:=hr.ex
 subst e0
 have hf:(Builtin.firstCells 1 0 (.slice sq 0 scap)).run P w= .ok #[] w:=by
  have:=hr.first (P:=P) (w:=w) hh.tail 0 (Nat.zero_le _)
  simpa using this
 have hsl:∃ q n c,sv= .slice q n c∧n≤c:=by
  rcases fI hh with ⟨_,h2,_⟩ | ⟨bd,pre,rest,k,_,h1,_⟩
  ·exact⟨_,_,_,h2,Nat.le_refl _⟩
  ·exact⟨_,_,_,h1,Nat.le_add_right _ _⟩
 obtain⟨q2,n2,c2,rfl,hc2⟩:=hsl
 refine⟨.value (.slice q2 n2 c2),w,?_,_,.inl aa,_,⟨rfl,rfl⟩,by simpa using hh⟩
 simp only[execOp,resolve,Sem.run_bind,Sem.run_pure,Result.andThen_ok]
 simp only[List.map_nil,List.length_nil] at hy
 cases q2<;>simp[invoke,builtin,Builtin.append_,ha,ha',hu,kn.eval hx,kn.eval hy,ht,hs,Builtin.lenOf,hc2,hf,storeCells]
theorem nw{s s':Dev}{i v a:Int}(e:s.store i v= .ok a s'):s'.n=s.n:=by
 unfold Dev.store at e
 split at e
 ·cases e;rfl
 split at e
 ·cases e
 ·cases e;rfl
theorem nC{s s':Dev}{i a:Int}(e:s.flush i= .ok a s'):s'.n=s.n:=by
 unfold Dev.flush at e
 split at e
 ·cases e;rfl
 split at e
 ·cases e
 ·cases e;rfl
theorem nD{s s':Dev}{a:Unit}(e:s.fence= .ok a s'):s'.n=s.n:=by
 unfold Dev.fence at e
 split at e
 ·cases e
 ·cases e;rfl
theorem AH:∀ (k:Nat) (i a f:Int) (s s':Dev),pW k i a f s= .ok () s'→s'.n=s.n
 | 0,_,_,_,s,s',e=>by cases e;rfl
 | k+1,i,a,f,s,s',e=>by
   rw[mH] at e
   obtain⟨_,s1,e1,e⟩:=aK e
   exact(AH k _ _ _ _ _ e).trans (nw e1)
theorem uz{S:bE}{s s':Dev}{w:Int}{r:Int×bE}(e:S.copied s w= .ok r s'):s'.n=s.n:=by
 unfold bE.copied at e
 split at e
 ·cases e;rfl
 split at e
 ·cases e;rfl
 split at e
 ·cases e;rfl
 obtain⟨_,s1,e1,e⟩:=aK e
 cases e
 exact AH _ _ _ _ _ _ e1
theorem rx:∀ (k:Nat) (i:Int) (S S':bE) (s s':Dev),jR k i S s= .ok S' s'→s'.n=s.n
 | 0,_,S,S',s,s',e=>by cases e;rfl
 | k+1,i,S,S',s,s',e=>by
   rw[ia] at e
   split at e
   ·exact rx k _ _ _ _ _ e
   ·obtain⟨r,s1,e1,e⟩:=aK e
    obtain⟨_,s2,e2,e⟩:=aK e
    exact((rx k _ _ _ _ _ e).trans (nw e2)).trans (uz e1)
theorem wF:∀ (f:Nat) (i e:Int) (s s':Dev) (a:Unit),lS f i e s= .ok a s'→s'.n=s.n
 | 0,_,_,s,s',a,e=>by cases e;rfl
 | f+1,i,e',s,s',a,e=>by
   rw[gy] at e
   split at e
   ·obtain⟨_,s1,e1,e⟩:=aK e
    exact(wF f _ _ _ _ _ e).trans (nC e1)
   ·cases e;rfl
theorem yS{S:bE}{s s':Dev}{r:Bool×bE}(e:S.step s= .ok r s'):s'.n=s.n:=by
 unfold bE.step at e
 split at e
 ·cases e;rfl
 split at e
 ·obtain⟨_,s1,e1,e⟩:=aK e
  cases e;exact uz e1
 ·split at e
  ·obtain⟨_,s1,e1,e⟩:=aK e
   cases e;exact rx _ _ _ _ _ _ e1
  ·obtain⟨_,s1,e1,e⟩:=aK e
   cases e
   unfold bE.keep at e1
   obtain⟨_,s2,e2,e1⟩:=aK e1
   have h2:=wF _ _ _ _ _ _ e2
   split at e1
   ·exact(nD e1).trans h2
   ·cases e1;exact h2
theorem wm{S S':bE}{s s':Dev}(e:S.run s= .ok S' s'):s'.n=s.n:=by
 unfold bE.run at e
 revert e
 generalize S.meas+1=f
 intro e
 induction f generalizing S s with
 | zero=>cases e;rfl
 | succ f ih=>
   rw[iW] at e
   obtain⟨r,s1,e1,e⟩:=aK e
   split at e
   ·cases e;exact yS e1
   ·exact(ih e).trans (yS e1)
theorem ui(B:World)(Fr:List HP)(bs bd:Nat)(S:bC)(c:Cfg)(hc:bA c)(s:Dev)(hu:U64 s)(hK:A3 S bd c s)(q:Option Addr)(cap:Nat)(ws:List Int)(hwn:ws.length≤900000)(hws:∀ v∈ws,0≤v∧v<18446744073709551616)(hwl:SlR B Fr (.slice q ws.length cap) (ws.map w64)):
 ∀ w,Holds B (fC bs S::aB bd s::Fr) w→Calls Tryz.prog 116 [ptr bd,dY c,ptr bs,.slice q ws.length cap].toArray w (Ret B (fun rv H'=>∃ r s',eK bd c S s ws= .ok r s'∧((r.1=none∧rv= .tuple #[.pointer none,i64 r.2.1]∧H'=fC bs r.2.2::aB bd s'::Fr)∨(∃ x X,r.1=some X∧r.2.1=0∧rv= .tuple #[ptr x,i64 0]∧H'=eY x X::fC bs r.2.2::aB bd s'::Fr))) (fun ch H'=>∃ s',eK bd c S s ws= .off s'∧ch=dV∧H'=aB bd s'::Fr)):=by
 refine an func116 aa ntmps116 aa (ac (ab (kPb (aX aa) aa fun b5=>(kPa aa aa (kPa aa aa (ad (ac (ac (ab (kPm aa aa (aw aa (au call80 aa) (bI (q:=fC) (fun Fr=>mp B Fr bs S)) .free aa aa ?_)))))))))))
 refine ad (bH aa (rfl) (ar (ac (ab (kPm aa aa (kPv (ag isAgg134 sizeOf134 aa aa) aa ?_))))))
 refine aP [2] (aH aa (au call117 aa) (fT _ _ _ _ c hc hu) .free aa aa ?_)
 rintro _ _ ⟨sv,hsv,rfl,rfl⟩
 have hbk:=dG (s:=s) hc hu
 have hrl:=fK (s:=s) hc
 refine kPm aa aa (kPv (aA aa aa) aa (kPv (aA aa aa) aa (kPb (aC zeroValue151 aa) aa fun b10=> ?_)))
 refine kPs (ax (vs:=_) sizeOf151 aa aa aa (by first | rfl | exact eh (by assumption)) rfl) rfl ?_;refine kPa aa aa ?_;refine ad ?_;refine am [11,10,9,8,5,0,2,3] rfl ?_;refine ac ?_;refine ac ?_;refine ab ?_;refine kPm aa aa ?_;refine kPv (ao aa aa aa) aa ?_;refine ad ?_
 refine a8 aa (fun h23=> ?_) (fun h23=> ?_)
 ·have he:(s.block c).2≠0:=by simpa using h23
  have hres:eK bd c S s ws= .ok (none,(s.block c).2,S) s:=by unfold eK;rw[if_pos he]
  refine ac (ab (kPm aa aa (kPa aa aa (kPa aa aa (ad (az ?_))))))
  exact ce results116 aa aa (fun w hh=>⟨_,⟨_,_,hres,.inl ⟨rfl,rfl,rfl⟩⟩,((hh.dp [0,0,1]).pk [1])⟩)
 ·have he:(s.block c).2=0:=by simpa using h23
  have hrl0:0<(s.block c).1.rts.length:=qY hc he
  refine aP [1] (cE fun qo co hqo hqoi=> ?_)
  subst hqo
  refine aM (H':=cS 0 (.slice qo (s.block c).1.rts.length co,(s.block c).1.rts)::row b10 [i64 (s.block c).1.act,i64 (s.block c).1.used,.slice qo (s.block c).1.rts.length co] 151::aB bd s::row b5 [i64 c.log,i64 c.roots,i64 c.space] 134::fC bs S::Fr) (fun w hh=>by have h:=hh;exact h) (ar (ac (cW [0,1,2,4,5,7,3,6,8,9,10] [3,6,8,9] [0,1,2,4,5,7] [3,6,8] [row b5 [i64 c.log,i64 c.roots,i64 c.space] 134,row b10 [i64 (s.block c).1.act,i64 (s.block c).1.used,.slice qo (s.block c).1.rts.length co] 151] Tryz.mixed (by kernel_rfl) ?_)))
  refine aj aa aa aa (ak aa) .free aa (aj aa aa aa (ag isAgg134 sizeOf134 aa aa) .free aa ?_)
  refine aj aa aa aa (ag isAgg151 sizeOf151 aa aa) .free aa ?_
  refine aj aa aa aa (aD (m:=_) fh aa aa) .free aa (aj aa aa aa (ah isAgg30 aa aa) .free aa (aj aa aa aa (ak aa) .free aa (aT aa aa (kPb (r6 runUnderlying30 sizeOf25) aa fun b28=>(aM (H':=cS 0 (.slice (some ⟨b28,0,none⟩) 0 0,[])::_) (fun w hh=>gX (xs:=[]) aa aa hh) (ad (cN (aT aa aa (cJ aa (ee (yv:= .slice qo (s.block c).1.rts.length co) (ys:=(s.block c).1.rts) aa aa runUnderlying30 runUnderlying30 ⟨_,rfl⟩ sizeOf25 zeroValue25 aa (fun _=>rfl) hO aa aa (cP 0 aa) (by simp;omega)) .free aa aa ?_)))))))))
  rintro nv2 _ ⟨hnv2,rfl⟩
  refine ad (cN (aT aa aa (cJ aa (ee (yv:= .slice q ws.length cap) (ys:=ws) aa aa runUnderlying30 runUnderlying30 ⟨_,rfl⟩ sizeOf25 zeroValue25 aa (fun _=>rfl) hO aa aa hwl.up (by simp;omega)) .free aa aa ?_)))
  rintro nv3 _ ⟨hnv3,rfl⟩
  refine cE fun qn cn hqn0 hqni=> ?_
  subst hqn0
  have hqn:qn=none→(s.block c).1.rts++ws=[]:=fun e=>by
   cases hl:(s.block c).1.rts++ws with
   | nil=>rfl
   | cons a t=>
     obtain⟨b,o,h⟩:=hqni 0 (by show 0<((s.block c).1.rts++ws).length;rw[hl];exact Nat.succ_pos _)
     rw[e] at h;cases h
  refine ad (cN (aT aa aa (aP [1] (aH aa (au call133 aa) (sm B _ bd c hc (s.block c).1 hbk (.slice qo (s.block c).1.rts.length co) aa qn cn ((s.block c).1.rts++ws) (by rw[List.length_append];omega) hqn (cP 1 aa)) .free aa aa ?_))))
  rintro _ _ ⟨x,rfl,rfl⟩
  have hX0:fp (eA bd c (s.block c).1 ((s.block c).1.rts++ws)):=lQ hc hbk hrl (fJ hu) (fun v hv=>by
   rcases List.mem_append.1 hv with hv | hv
   ·exact fJ hu v hv
   ·exact hws v hv)
  refine ad (c7 aa (aS aa aa aa (bu aa) .free aa (cy (am [12,9,8,5,0,2] rfl (ac (ab (kPm aa aa (aP [0,2] ?_))))))))
  refine aU aa (au call135 aa) (xd B _ x (eA bd c (s.block c).1 ((s.block c).1.rts++ws)) hX0 s hu) .free aa aa ?_ ?_
  rotate_left
  ·rintro _ _ ⟨s9,hm9,rfl,rfl⟩
   exact bi fun w hh=>⟨_,⟨s9,by unfold eK;rw[if_neg (by omega)];rw[hm9];rfl,rfl,rfl⟩,hh.dp [1,1,1,1]⟩
  rintro _ _ ⟨X,s1,hm1,rfl,rfl⟩
  obtain⟨hX,hu1,hXb,hXbd,hXc,hXto⟩:=ou _ _ _ _ _ hX0 hu hm1
  have hn1:=wm hm1
  refine ad (ac (ac (ab (kPm aa aa (kPv (ag isAgg134 sizeOf134 aa aa) aa ?_)))))
  refine kPm aa aa (kPm aa aa (aP [5,0,0] ?_))
  refine aU aa (au call172 aa) (wY B _ bs x bd S X hX (by rw[hXb];exact hrl0) c s1 hu1 ⟨hK.w,by rw[hn1];exact hK.n,hK.d,hK.c⟩) .free aa aa ?_ ?_
  rotate_left
  ·rintro _ _ ⟨s9,hm9,rfl,rfl⟩
   exact bi fun w hh=>⟨_,⟨s9,by unfold eK;rw[if_neg (by omega)];rw[hm1];simp only[aR];rw[hm9];rfl,rfl,rfl⟩,hh.dp [1,1,1]⟩
  rintro _ _ ⟨a2,S2,s2,hm2,rfl,rfl⟩
  refine kPa aa aa (ad (am [13,12,9,8] rfl (ac (ab (kPm aa aa (kPv (ao aa aa aa) aa (ad ?_)))))))
  refine a8 aa (fun h43=> ?_) (fun h43=> ?_)
  ·have ha2:a2≠0:=by simpa using h43
   refine ac (ab (kPm aa aa (kPa aa aa (kPa aa aa (ad (az ?_))))))
   exact ce results116 aa aa (fun w hh=>⟨_,⟨(none,a2,S2),s2,by unfold eK;rw[if_neg (by omega),hm1];simp only[aR];rw[hm2];simp only[aR];rw[if_pos ha2],.inl ⟨rfl,rfl,rfl⟩⟩,(hh.dp [1,2,2,2])⟩)
  ·have ha2:¬ a2≠0:=by simpa using h43
   refine ar (ac (ab (kPm aa aa (kPa aa aa (kPa aa aa (ad (az ?_)))))))
   exact ce results116 aa aa (fun w hh=>⟨_,⟨(some X,0,S2),s2,by unfold eK;rw[if_neg (by omega),hm1];simp only[aR];rw[hm2];simp only[aR];rw[if_neg ha2],.inr ⟨x,X,rfl,rfl,rfl,rfl⟩⟩,((hh.dp [3,3,3]).pk [1])⟩)
theorem nY{L L':bM}{s s':Dev}(hL:dK L)(e:L.truncate s= .ok L' s'):(U64 s→U64 s')∧s'.n=s.n∧dK L'∧L'.d=L.d∧L'.c=L.c∧L'.n=0:=by
 unfold bM.truncate at e
 split at e
 ·rename_i h;cases e;exact⟨id,rfl,hL,rfl,rfl,h⟩
 obtain⟨_,s1,e1,e⟩:=aK e
 obtain⟨_,s2,e2,e⟩:=aK e
 obtain⟨_,s3,e3,e⟩:=aK e
 cases e
 have h1:=hL.c.l1;have h2:=hL.c.r1
 refine⟨fun hu=> ?_,((nD e3).trans (nC e2)).trans (nw e1),⟨hL.c,by simp only;omega,by simp only;omega,Int.le_refl 0,by simp only;omega⟩,rfl,rfl,rfl⟩
 exact(eS (dO (cx hu (by omega) e1).1 e2).1 e3).1
theorem ze{c:Cfg}:∀ (k:Nat) (s s':Dev),kX jP c k s= .ok () s'→(U64 s→U64 s')∧s'.n=s.n
 | 0,s,s',e=>by cases e;exact⟨id,rfl⟩
 | k+1,s,s',e=>by
   unfold kX at e
   obtain⟨_,s1,e1,e⟩:=aK e
   unfold jP at e1
   obtain⟨_,s2,e2,e1⟩:=aK e1
   obtain⟨_,s3,e3,e1⟩:=aK e1
   cases e1
   obtain⟨g1,g2⟩:=ze k s1 s' e
   exact⟨fun hu=>g1 (dO (cx hu (hu.load _) e2).1 e3).1,g2.trans ((nC e3).trans (nw e2))⟩
theorem yI{L L':bM}{s s':Dev}(hL:dK L)(e:L.undo s= .ok L' s'):(U64 s→U64 s')∧s'.n=s.n∧dK L'∧L'.d=L.d∧L'.c=L.c∧L'.n=0:=by
 unfold bM.undo at e
 obtain⟨_,s1,e1,e⟩:=aK e
 obtain⟨_,s2,e2,e⟩:=aK e
 obtain⟨g1,g2⟩:=ze _ _ _ e1
 obtain⟨h1,h2,h3,h4,h5,h6⟩:=nY hL e
 have k:(U64 s1→U64 s2)∧s2.n=s1.n:=by
  split at e2
  ·exact⟨fun hu=>(eS hu e2).1,nD e2⟩
  ·cases e2;exact⟨id,rfl⟩
 exact⟨fun hu=>h1 (k.1 (g1 hu)),(h2.trans k.2).trans g2,h3,h4,h5,h6⟩
theorem ph:∀ (l:List Int) (s s':Dev),dD l s= .ok () s'→(U64 s→U64 s')∧s'.n=s.n
 | [],s,s',e=>by cases e;exact⟨id,rfl⟩
 | k::ks,s,s',e=>by
   unfold dD at e
   obtain⟨_,s1,e1,e⟩:=aK e
   obtain⟨g1,g2⟩:=ph ks s1 s' e
   exact⟨fun hu=>g1 (dO hu e1).1,g2.trans (nC e1)⟩
theorem uA{S S':bC}{s s':Dev}(hL:dK S.L)(e:S.commit s= .ok S' s'):(U64 s→U64 s')∧s'.n=s.n∧dK S'.L∧S'.L.d=S.L.d∧S'.L.c=S.L.c∧S'.L.n=0:=by
 unfold bC.commit at e
 obtain⟨_,s1,e1,e⟩:=aK e
 obtain⟨_,s2,e2,e⟩:=aK e
 obtain⟨_,s3,e3,e⟩:=aK e
 cases e
 obtain⟨g1,g2⟩:=ph _ _ _ e1
 obtain⟨h1,h2,h3,h4,h5,h6⟩:=nY hL e3
 have k:(U64 s1→U64 s2)∧s2.n=s1.n:=by
  split at e2
  ·exact⟨fun hu=>(eS hu e2).1,nD e2⟩
  ·cases e2;exact⟨id,rfl⟩
 exact⟨fun hu=>h1 (k.1 (g1 hu)),(h2.trans k.2).trans g2,h3,h4,h5,h6⟩
theorem Ct{S S':bC}{s s':Dev}(hL:dK S.L)(e:S.abort s= .ok S' s'):(U64 s→U64 s')∧s'.n=s.n∧dK S'.L∧S'.L.d=S.L.d∧S'.L.c=S.L.c∧S'.L.n=0:=by
 unfold bC.abort at e
 obtain⟨_,s1,e1,e⟩:=aK e
 cases e
 exact yI hL e1
theorem nT:∀ (l:List Int) (i:Int) (S S':bC) (s s':Dev) (a:Int),(∀ v∈l,0≤v∧v<18446744073709551616)→lA S→U64 s→s.n≤1000000→gM gi l i s S= .ok (a,S') s'→U64 s'∧s'.n=s.n∧dK S'.L∧S'.L.d=S.L.d∧S'.L.c=S.L.c
 | [],i,S,S',s,s',a,_,hS,hu,_,e=>by cases e;exact⟨hu,rfl,hS.L,rfl,rfl⟩
 | v::vs,i,S,S',s,s',a,hv,hS,hu,hn,e=>by
   unfold gM at e
   split at e
   ·exact nT vs _ _ _ _ _ _ (fun v hv'=>hv v (List.mem_cons_of_mem _ hv')) hS hu hn e
   ·obtain⟨⟨x,S1⟩,s1,e1,e⟩:=aK e
    have h1:=ju hS hu hn (hv v (List.mem_cons_self ..)) e1
    have h2:=jZ hS.L e1
    have h3:=n4 e1
    have h4:lA S1:=rm hS hn (by have:=(AZ hS.L.c).1;omega) e1 h2
    split at e
    ·cases e;exact⟨h1.1,h1.2,h2,h3.1,h3.2.1⟩
    ·obtain⟨g1,g2,g3,g4,g5⟩:=nT vs _ _ _ _ _ _ (fun v hv'=>hv v (List.mem_cons_of_mem _ hv')) h4 h1.1 (by rw[h1.2];exact hn) e
     exact⟨g1,g2.trans h1.2,g3,g4.trans h3.1,g5.trans h3.2.1⟩
theorem BP{S:bC}(h:dK S.L)(f t:Int):lA (S.fresh f t):=⟨h,fun p hp=>(List.not_mem_nil (show p∈([]:List (Int×Unit)) from hp)).elim⟩
theorem zZ{c:Cfg}{b:Blk}{S S':bC}{s s':Dev}{a:Int}(hb:∀ v∈b.act::b.used::b.rts,0≤v∧v<18446744073709551616)(hL:dK S.L)(hu:U64 s)(hn:s.n≤1000000)(e:i6 c b S s= .ok (a,S') s'):U64 s'∧s'.n=s.n∧dK S'.L∧S'.L.d=S.L.d∧S'.L.c=S.L.c∧S'.L.n=0:=by
 unfold i6 lh at e
 obtain⟨⟨x,S1⟩,s1,e1,e⟩:=aK e
 obtain⟨g1,g2,g3,g4,g5⟩:=nT _ _ _ _ _ _ _ hb (BP hL 0 0) hu hn e1
 split at e
 ·obtain⟨S2,s2,e2,e⟩:=aK e
  cases e
  obtain⟨h1,h2,h3,h4,h5,h6⟩:=Ct g3 e2
  exact⟨h1 g1,h2.trans g2,h3,h4.trans g4,h5.trans g5,h6⟩
 ·obtain⟨S2,s2,e2,e⟩:=aK e
  cases e
  obtain⟨h1,h2,h3,h4,h5,h6⟩:=uA g3 e2
  exact⟨h1 g1,h2.trans g2,h3,h4.trans g4,h5.trans g5,h6⟩
theorem uC{X:bE}(h:fp X):∀ v∈X.block.act::X.block.used::X.block.rts,0≤v∧v<18446744073709551616:=fun v hv=>by
 have h1:=h.b.act;have h2:=h.free;have h3:=h.fb;have h4:=h.to_
 simp only[List.mem_cons] at hv
 rcases hv with rfl | rfl | hv
 ·simp only[bE.block];omega
 ·simp only[bE.block];omega
 ·obtain⟨u,_,rfl⟩:=List.mem_map.1 hv
  have:=h.vb u
  omega
theorem yd{bd:Nat}{c:Cfg}{S:bC}{s s':Dev}{ws:List Int}{r:Option bE×Int×bC}(hc:bA c)(hw:∀ v∈ws,0≤v∧v<18446744073709551616)(hL:dK S.L)(hu:U64 s)(hn:s.n≤1000000)(hL0:S.L.n=0)(e:eK bd c S s ws= .ok r s'):U64 s'∧s'.n=s.n∧dK r.2.2.L∧r.2.2.L.d=S.L.d∧r.2.2.L.c=S.L.c∧r.2.2.L.n=0∧(∀ X,r.1=some X→fp X):=by
 unfold eK at e
 split at e
 ·cases e;exact⟨hu,rfl,hL,rfl,rfl,hL0,fun _ h=>by cases h⟩
 obtain⟨X,s1,e1,e⟩:=aK e
 have hX0:fp (eA bd c (s.block c).1 ((s.block c).1.rts++ws)):=lQ hc (dG hc hu) (fK hc) (fJ hu) fun v hv=>by
  rcases List.mem_append.1 hv with hv | hv
  ·exact fJ hu v hv
  ·exact hw v hv
 obtain⟨hX,u1,_⟩:=ou _ _ _ _ _ hX0 hu e1
 have n1:=wm e1
 obtain⟨⟨a,S2⟩,s2,e2,e⟩:=aK e
 obtain⟨g1,g2,g3,g4,g5,g6⟩:=zZ (uC hX) hL u1 (by rw[n1];exact hn) e2
 split at e
 ·cases e;exact⟨g1,g2.trans n1,g3,g4,g5,g6,fun _ h=>by cases h⟩
 ·cases e;exact⟨g1,g2.trans n1,g3,g4,g5,g6,fun X' h=>by cases h;exact hX⟩
theorem xN(B:World)(H:List HP)(r:Nat):
 ∀ w,Holds B H w→Calls Tryz.prog 155 [.map (some r)].toArray w (Ret B (fun v H'=>∃ bb,v= .func (.func 197) [].toArray [ptr bb].toArray∧H'=row bb [.map (some r)] 196::H) (fun _ _=>False)):=by
 refine an func155 aa ntmps155 aa (ac (ab (kPb (dL aa aa) aa fun b1=>(kPa aa aa (ad (ac (ab (kPv (dz aa aa) aa (kPa aa aa (ad (az ?_)))))))))))
 exact aq results155 aa (fun w hw=>⟨_,⟨_,rfl,rfl⟩,hw⟩)
theorem vk(B:World)(Fr:List HP)(l f mr bb b2:Nat)(ml:List (Int×Int))(r:Loop)(hrf:r.fn=f)(hrp:r.params.size=1)(hround:∀ (A1 A2:HP) (v:Int) (xs:List Int),xs.length<ml.length→∀ w,Holds B (blk l (.loop r)::A1::A2::jV b2 xs::Fr) w→RoundIn (Wd (cxF f)) 0 Tryz.prog l f ((r.params.zip [i64 v].toArray).foldl (fun tmps (t,a)=>tmps.setIfInBounds t a) r.tmps) r.assign r.body w (Ret B (fun rv H'=>rv= .bool true∧H'=blk l (.loop r)::A1::A2::jV b2 (xs++[v])::Fr) (fun _ _=>False))):
 ∀ w,Holds B (blk l (.loop r)::row bb [.map (some mr)] 196::bx .i64 i64 mr ml::jV b2 []::Fr) w→Calls Tryz.prog 197 [.func (.yield l) #[] #[],ptr bb].toArray w (Ret B (fun rv H'=>∃ ks:List Int,ks.Perm (ml.map Prod.fst)∧H'=blk l (.loop r)::row bb [.map (some mr)] 196::bx .i64 i64 mr ml::jV b2 ks::Fr) (fun _ _=>False)):=by
 refine an func197 aa ntmps197 aa (ac (ab (kPv (ah isAgg196 aa aa) aa (kPb (mi runUnderlying196 aa) aa fun it=>(ad (aG (du (ι:=List (Int×Int)) (fun d=>d.length≤ml.length) (fun d=>[(0,.func (.yield l) #[] #[]),(1,ptr bb),(5,.pointer (some ⟨it,0,none⟩))]) (fun done=>blk l (.loop r)::row bb [.map (some mr)] 196::fH .i64 i64 mr it ml done::jV b2 (done.map Prod.fst)::Fr) (fun d=>ml.length - d.length) [] (Nat.zero_le _) (fun a w st=>st.to ⟨rfl,rfl,rfl,trivial⟩ id) ?_)))))))
 intro done hdone
 refine ac (ab (cJ aa (nL aa) .free aa aa ?_))
 rintro _ _ ⟨bb0,vs,done',rfl,hvs,rfl,hno,hyes⟩
 refine kPv (aA aa hvs) aa (ad (ac ?_))
 refine a8 aa (fun h7=> ?_) (fun h7=> ?_)
 ·obtain⟨pp,hpl,hpn,rfl⟩:=hyes h7
  refine iD it fun hl hd hsub=>(ar (aG (ac (ab (kPv (mf (p0:=pp) (dn:=done) aa) aa (kPv (aA aa aa) aa (kPa aa aa (ad (ac (ab (kPm aa aa ?_)))))))))))
  refine kPm aa aa ?_
  refine fU (f:=f) aa aa (fun w hw=>hw) (by rw[hrp];rfl) hrf (hround _ _ _ _ (by have:=iC hd hsub;simp;omega)) .free aa ?_ ?_
  rotate_left
  ·rintro _ _ ⟨⟩
  rintro _ _ ⟨rfl,rfl⟩
  refine kPv (bz aa) aa (ad (am [13,5,0,1] rfl (bH aa (rfl) (ar ?_))))
  have hle:=iC hd hsub
  exact fun a w st=>⟨done++[pp],by simp;omega,by simp;omega,st.to ⟨rfl,rfl,rfl,trivial⟩ (fun hh=>by rw[List.map_append];exact hh)⟩
 ·obtain⟨rfl,hall⟩:=hno h7
  refine iD it fun hl hd hsub=>(aM (fun w hh=>hh.iter_end it) (bF ?_))
  exact cI results197 (fun w hh=>⟨_,⟨_,(List.perm_ext_iff_of_nodup hd hl).2 fun x=>⟨fun hx=>by obtain⟨p,hp,rfl⟩:=List.mem_map.1 hx;exact List.mem_map_of_mem (hsub p hp),fun hx=>by obtain⟨p,hp,rfl⟩:=List.mem_map.1 hx;exact List.mem_map_of_mem (hall p hp)⟩,rfl⟩,hh⟩)
theorem vT(B:World)(Fr:List HP)(mr bb:Nat)(ml:List (Int×Int))(hml:ml.length≤1000000):
 ∀ w,Holds B (row bb [.map (some mr)] 196::bx .i64 i64 mr ml::Fr) w→Calls Tryz.prog 211 [.slice none 0 0,.func (.func 197) [].toArray [ptr bb].toArray].toArray w (Ret B (fun rv H'=>∃ ks:List Int,ks.Perm (ml.map Prod.fst)∧H'=iz 0 (rv,ks)::bx .i64 i64 mr ml::Fr) (fun _ _=>False)):=by
 refine eI func211 aa ntmps211 aa (ac (ab (kPb (dL aa aa) aa fun b2=>(kPa aa aa (ad (ac (ac (ab (kPm aa aa (ad (aG ?_)))))))))))
 refine o6 (ι:=List Int) (fun ks=>row bb [.map (some mr)] 196::bx .i64 i64 mr ml::jV b2 ks::Fr) (fun ks=>ks.Perm (ml.map Prod.fst)) (fun _=>False) [] rfl call197 ?_ ?_ ?_
 ·intro l m tmps hts hkn w hh
  have hk2:=hkn 2 _ rfl
  refine(vk B (blk m (.deferred (some []))::Fr) l 211 mr bb b2 ml _ aa aa ?_ w (((((xj ((((hh.front 4 aa).front 4 aa).front 2 aa).front 4 aa)).front 0 aa).front 3 aa).front 3 aa).front 3 aa)).mono (Ret.mono ?_ ?_)
  rotate_left
  ·rintro v H' ⟨ks,hks,rfl⟩
   exact⟨ks,hks,fun w hh=>((hh.front 4 aa).front 1 aa)⟩
  ·rintro c H' ⟨⟩
  intro A1 A2 v xs hxs
  have hxs:xs.length≤1000000:=by omega
  refine gG (n:=13) (σ:=[(7,i64 v),(2,ptr b2)]) func211 (by simp[fO,hts]) (KnA.knows (by simp[KnA,fO,hts];exact(Array.getElem?_eq_some_iff.1 hk2).2)) aa ?_;refine ab ?_;refine kPa aa aa ?_;refine ad ?_;refine kh ?_;refine dt 3 aa ?_
  refine zR (fun hxe=> ?_) (fun bd rest=> ?_)
  ·subst hxe
   refine aG (ab (kPv (ah isAgg166 aa aa) aa (kPm aa aa (kPb (f9 runUnderlying166 sizeOf3 zeroValue3 aa aa aa) aa fun b1=>(cJ aa (gD aa aa runUnderlying166 runUnderlying166 ⟨_,rfl⟩ sizeOf3 zeroValue3 aa yM aa aa (SlR.row (xs:=[i64 v]) aa aa) (by simp) (by simp)) .free aa aa ?_)))))
   rintro _ _ ⟨bn,cn,rest',hcn,hrest,rfl,rfl⟩
   refine kPs (aO sizeOf166 aa aa aa aa) aa (ad (am [] rfl (dt 3 aa ?_)))
   exact kg fun w hh=>⟨_,⟨rfl,rfl⟩,((((((nP (xs:=[]++[v]) (by simp) (by first | omega | (simp at*;omega)) ((hh.front 1 aa).front 3 aa)).front 2 aa).tail.front 0 aa).front 3 aa).front 3 aa).front 3 aa)⟩
  ·skip
   refine aG (ab (kPv (ah isAgg166 aa aa) aa (kPm aa aa (kPb (f9 runUnderlying166 sizeOf3 zeroValue3 aa aa aa) aa fun b1=>(cJ aa (jg aa aa runUnderlying166 runUnderlying166 ⟨_,rfl⟩ sizeOf3 zeroValue3 aa yM aa aa (SlR.row (xs:=[i64 v]) aa aa) (by simp) (by omega) (by simp;omega) aa) .free aa aa (fun v2 H2 hY=> ?_))))))
   revert hY
   generalize hob:Obj.loop _=ob
   intro hY
   have hY2:∃ bn c' rest',c'=xs.length+1+rest'.length∧v2= .slice (some ⟨bn,0,none⟩) (xs.length+1) c'∧∀ w,Holds B H2 w→Holds B (row b2 [.slice (some ⟨bd,0,none⟩) xs.length (xs.length+rest.length)] 166::row bn ((xs++[v]).map i64++rest') 3::blk l ob::A1::A2::blk m (.deferred (some []))::Fr) w:=by
    rcases hY with ⟨h1,rfl,rfl⟩ | ⟨h1,bn,cn,rest',h2,_,rfl,rfl⟩
    ·refine⟨bd,_,rest.drop 1,by simp at h1 ⊢;omega,rfl,fun w hh=> ?_⟩
     have h3:=hh.tail
     rw[xi (by simp at h1;omega)] at h3
     exact h3
    ·refine⟨bn,_,rest',by simpa using h2.symm,rfl,fun w hh=> ?_⟩
     have h3:=((((hh.front 1 rfl).tail).front 2 rfl).tail).front 1 rfl
     have e:(xs++[v]).map i64++rest'=((xs.map i64++rest).drop 0).take xs.length++[i64 v]++rest':=by simp
     rw[e]
     exact h3
   obtain⟨bn,c',rest',hc',rfl,hY3⟩:=hY2
   refine aM hY3 (kPs (aO sizeOf166 aa aa aa aa) aa (ad (am [] rfl ?_)))
   subst hob
   refine dt 2 aa ?_
   exact kg fun w hh=>⟨_,⟨rfl,rfl⟩,(((((nP (xs:=xs++[v]) (by simp) (by first | omega | (simp at*;omega)) ((hh.front 2 aa).front 2 aa)).front 0 aa).front 3 aa).front 3 aa).front 3 aa)⟩
 rotate_left
 ·rintro m x ⟨⟩
 intro m ks hks
 refine dt 3 aa (wS fun sv=>(ac (ab (kPv (ah isAgg166 aa aa) aa (kPa aa aa (ad (az ?_)))))))
 exact fE results211 aa (.cons (i:=2) aa .nil) (fun w hh=>⟨_,⟨ks,hks,rfl⟩,(((hh.front 3 aa).front 3 aa).front 2 aa).tail.tail.tail⟩)
theorem uB(B:World)(Fr:List HP)(mr bb:Nat)(ml:List (Int×Int))(hml:ml.length≤1000000):
 ∀ w,Holds B (row bb [.map (some mr)] 196::bx .i64 i64 mr ml::Fr) w→Calls Tryz.prog 191 [.func (.func 197) [].toArray [ptr bb].toArray].toArray w (Ret B (fun rv H'=>∃ ks:List Int,ks.Perm (ml.map Prod.fst)∧H'=iz 0 (rv,ks)::bx .i64 i64 mr ml::Fr) (fun _ _=>False)):=by
 refine an func191 aa ntmps191 aa (ac (ab (kPa aa aa (ad (ac (ab (kPm aa aa (aH aa (au call211 aa) (vT _ _ mr bb ml hml) .free aa aa ?_))))))))
 rintro _ _ ⟨ks,hks,rfl⟩
 refine kPa aa aa (ad (az ?_))
 exact aq results191 aa (fun w hw=>⟨_,⟨ks,hks,rfl⟩,hw⟩)
theorem uZ(B:World)(Fr:List HP)(mr bb:Nat)(ml:List (Int×Int))(hml:ml.length≤1000000):
 ∀ w,Holds B (row bb [.map (some mr)] 196::bx .i64 i64 mr ml::Fr) w→Calls Tryz.prog 149 [.func (.func 197) [].toArray [ptr bb].toArray].toArray w (Ret B (fun rv H'=>H'=iz 0 (rv,bZ (ml.map Prod.fst))::bx .i64 i64 mr ml::Fr) (fun _ _=>False)):=by
 refine an func149 aa ntmps149 aa (ac (ab (kPa aa aa (ad (ac (ab (kPm aa aa (aH aa (au call191 aa) (uB _ _ mr bb ml hml) .free aa aa ?_))))))))
 rintro v5 _ ⟨ks,hks,rfl⟩
 have hkl:ks.length≤1000000:=by rw[hks.length_eq,List.length_map];exact hml
 refine kPa aa aa (ad (ac (ab (kPm aa aa (aH aa (au call192 aa) (sW _ _ _ ks hkl) .free aa aa ?_)))))
 rintro _ _ rfl
 refine ad (ac (ab (kPm aa aa (kPa aa aa (ad (am [2] rfl (az ?_)))))))
 exact aq results149 aa (fun w hw=>⟨_,rfl,by rw[←n8 hks];exact hw⟩)
structure gB where
 at_:List (Int×Int)
 no:List (Int×Int)
 last:Int
def gc(b:Nat)(T:gB):HP:=hex fun (x:Nat×Nat)=>grp [row b [.map (some x.1),.map (some x.2),i64 T.last] 198,bx .i64 i64 x.1 T.at_,bx .i64 i64 x.2 T.no]
theorem rR{B:World}{n:Nat}{D:List Deferred}{σ:Env}{b:Nat}{T:gB}{Fr:List HP}{K:Act→World→Prop}(h:∀ b1 b2,GO B n D σ (row b [.map (some b1),.map (some b2),i64 T.last] 198::bx .i64 i64 b1 T.at_::bx .i64 i64 b2 T.no::Fr) K):GO B n D σ (gc b T::Fr) K:=fun a w st=>by
 obtain⟨x,hx⟩:=st.holds.hex
 exact h _ _ a w ⟨st.toStA,hx.grp⟩
theorem gp{B:World}{b b1 b2:Nat}{T:gB}{Fr:List HP}{w:World}(h:Holds B (row b [.map (some b1),.map (some b2),i64 T.last] 198::bx .i64 i64 b1 T.at_::bx .i64 i64 b2 T.no::Fr) w):Holds B (gc b T::Fr) w:=
 Holds.unhex (b1,b2) (Holds.ungrp (l:=[row b [.map (some b1),.map (some b2),i64 T.last] 198,bx .i64 i64 b1 T.at_,bx .i64 i64 b2 T.no]) h)
theorem wL(B:World)(H:List HP):
 ∀ w,Holds B H w→Calls Tryz.prog 71 [].toArray w (Ret B (fun rv H'=>∃ b,rv=ptr b∧H'=gc b ⟨[],[],0⟩::H) (fun _ _=>False)):=by
 refine an func71 aa ntmps71 aa (ac (ab (kPa aa aa (ad (ac (ab (kPb (dX .i64 i64) aa fun b1=>(kPb (dX .i64 i64) aa fun b2=> ?_))))))))
 refine al aa (aQ aa (uJ _ _ (by first | rfl | assumption) (by first | rfl | assumption))) .free rfl rfl ?_;refine kPb (aX aa) aa fun b4=> ?_;refine kPa aa aa ?_;refine ad ?_;refine az ?_
 exact aq results71 aa (fun w hh=>⟨_,⟨_,rfl,rfl⟩,gp (T:=⟨[],[],0⟩) ((hh.front 2 aa).back 1 (by simp))⟩)
theorem qC(B:World)(Fr:List HP)(b:Nat)(T:gB)(n:Int):
 ∀ w,Holds B (gc b T::Fr) w→Calls Tryz.prog 146 [ptr b,i64 n].toArray w (aZ B (gc b T::Fr) (.tuple #[i64 ((bK T.at_ n).getD 0),.bool (bK T.at_ n).isSome])):=by
 refine an func146 aa ntmps146 aa (rR fun b1 b2=>(ac (ab (kPa aa aa (kPa aa aa (ad (ac (ab (kPf jb isAgg196 aa aa aa aa (kPm aa aa (kPv ((fB runUnderlying196 runUnderlying3 zeroValue3 aa aa).eq (congrArg (fun v=>Value.tuple #[v,.bool _]) (oJ _))) aa ?_)))))))))))
 refine kPm aa aa (kPv (aA aa aa) aa (kPv (aA aa aa) aa (kPa aa aa (kPa aa aa (ad (am [7,6,5,4] rfl (ac (ab (kPm aa aa (kPm aa aa (kPa aa aa ?_)))))))))))
 refine kPa aa aa (ad (az ?_))
 exact ce results146 aa aa (fun w hh=>⟨rfl,gp hh⟩)
theorem tJ{α:Type}{k:Int}{z u:α}:∀ {l:List (Int×α)},(∀ p∈l,p.1≠k)→mset (l++[(k,z)]) k u=l++[(k,u)]
 | [],_=>by simp[mset]
 | p::l,h=>by
   simp only[List.cons_append,mset]
   rw[if_neg (h p (List.mem_cons_self ..)),tJ fun q hq=>h q (List.mem_cons_of_mem _ hq)]
theorem jA{α:Type}{k:Int}{z u:α}{l:List (Int×α)}:mset (jD l k z) k u=mset l k u:=by
 unfold jD
 cases hc:fF l k 0 with
 | none=>rw[jC hc];exact tJ (gI hc)
 | some v=>rfl
def gB.take(T:gB)(p:Int):Int×gB:=
 if p=0 then (0,T) else if (bK T.no p).isSome=true then ((bK T.no p).getD 0,T)
 else (T.last+1,⟨mset T.at_ (T.last+1) p,mset T.no p (T.last+1),T.last+1⟩)
theorem kf(B:World)(Fr:List HP)(b:Nat)(T:gB)(p:Int)(hT:0≤T.last∧T.last≤1000000000):
 ∀ w,Holds B (gc b T::Fr) w→Calls Tryz.prog 72 [ptr b,i64 p].toArray w (Ret B (fun rv H'=>rv=i64 (T.take p).1∧H'=gc b (T.take p).2::Fr) (fun _ _=>False)):=by
 refine an func72 aa ntmps72 aa (rR fun b1 b2=>(ac (ab (kPa aa aa (ad (ac (ac (ab (kPm aa aa (kPv (ao aa aa aa) aa (ad ?_)))))))))))
 refine a8 aa (fun h8=> ?_) (fun h8=> ?_)
 ·have hk:p=0:=by simpa using h8
  have hres:T.take p=(0,T):=by unfold gB.take;rw[if_pos hk]
  refine ac (ab (kPa aa aa (ad (az ?_))))
  exact aq results72 aa (fun w hh=>⟨_,⟨by rw[hres],rfl⟩,by rw[hres];exact gp hh⟩)
 ·have hk:¬ p=0:=by simpa using h8
  refine ar (ac (ac (ab (kPf l7 isAgg196 aa aa aa aa (kPm aa aa (kPv ((fB runUnderlying196 runUnderlying3 zeroValue3 aa aa).eq (congrArg (fun v=>Value.tuple #[v,.bool _]) (oJ _))) aa (kPm aa aa (kPv (aA aa aa) aa (kPv (aA aa aa) aa (kPa aa aa (kPa aa aa ?_)))))))))))
  refine ad (am [6,5,4,0,1] rfl (ac (ab (kPm aa aa (ad ?_)))))
  refine a8 aa (fun h18=> ?_) (fun h18=> ?_)
  ·have hres:T.take p=((bK T.no p).getD 0,T):=by unfold gB.take;rw[if_neg hk,if_pos h18]
   refine ac (ab (kPm aa aa (kPa aa aa (ad (az ?_)))))
   exact aq results72 aa (fun w hh=>⟨_,⟨by rw[hres];rfl,rfl⟩,by rw[hres];exact gp hh⟩)
  ·have hres:T.take p=(T.last+1,⟨mset T.at_ (T.last+1) p,mset T.no p (T.last+1),T.last+1⟩):=by unfold gB.take;rw[if_neg hk,if_neg (by rw[h18];decide)]
   refine ar (ac (ab (kPf km isAgg3 aa aa aa aa (kPv (aN aa aa) aa (kPv (aI aa) aa (kPv (aD (m:=_) km aa aa) aa (kPs (aO sizeOf3 aa aa aa aa) aa (ad (am [4,0,1] rfl (ac (cW [0,1,2,3,4,5,6,7,8,9,10,11,12,13,14,15,16,17,18,19,20,21,22,23] [18,20,21,23] [12,13] [18,20] [] Tryz.mixed (by kernel_rfl) ?_)))))))))))
   refine aS aa aa aa (ak aa) .free aa (aS aa aa aa (aI aa) .free aa (aS aa aa aa (aD (m:=_) jb aa aa) .free aa (aS aa aa aa (ah isAgg196 aa aa) .free aa (aS aa aa aa (ak aa) .free aa (aS aa aa aa (aI aa) .free aa (aS aa aa aa (aD (m:=_) km aa aa) .free aa (aS aa aa aa (ah isAgg3 aa aa) .free aa (aS aa aa aa (ak aa) .free aa (aS aa aa aa (aI aa) .free aa (aS aa aa aa (aD (m:=_) l7 aa aa) .free aa (aS aa aa aa (ah isAgg196 aa aa) .free aa ?_)))))))))))
   refine aj aa aa aa (ak aa) .free aa (aj aa aa aa (ak aa) .free aa (aS aa aa aa (ak aa) .free aa (aS aa aa aa (aI aa) .free aa (aS aa aa aa (aD (m:=_) km aa aa) .free aa (aS aa aa aa (ah isAgg3 aa aa) .free aa (aT aa aa (dt 1 aa ?_)))))))
   simp only[List.eraseIdx_cons_succ,List.eraseIdx_cons_zero]
   refine cJ aa (iH (u0:=(0:Int)) runUnderlying196 runUnderlying3 zeroValue3 aa aa) .free aa aa ?_
   rintro _ _ ⟨z1,st1,rfl,rfl⟩
   refine ad (cN (aS aa aa aa (aA aa aa) .free aa (aT aa aa (kPs (gC aa aa aa aa) aa (ad (cN (aT aa aa (dt 2 aa ?_))))))))
   simp only[List.eraseIdx_cons_succ,List.eraseIdx_cons_zero]
   refine cJ aa (iH (u0:=(0:Int)) runUnderlying196 runUnderlying3 zeroValue3 aa aa) .free aa aa ?_
   rintro _ _ ⟨z2,st2,rfl,rfl⟩
   refine ad (c7 aa (aS aa aa aa (aA aa aa) .free aa (aT aa aa (kPs (gC aa aa aa aa) aa (ad (c7 aa (cy (am [4,0] rfl (ac (ab (kPf km isAgg3 aa aa aa aa ?_)))))))))))
   refine kPa aa aa (ad (az ?_))
   exact aq results72 aa (fun w hh=>⟨_,⟨by rw[hres],rfl⟩,by rw[hres];rw[jA,jA] at hh;exact gp (T:=⟨_,_,_⟩) ((hh.front 1 aa).front 2 aa)⟩)
theorem m6(B:World)(Fr:List HP)(b:Nat)(T:gB)(hTl:T.at_.length≤1000000):
 ∀ w,Holds B (gc b T::Fr) w→Calls Tryz.prog 92 [ptr b].toArray w (Ret B (fun rv H'=>H'=iz 0 (rv,bZ (T.at_.map Prod.fst))::gc b T::Fr) (fun _ _=>False)):=by
 refine an func92 aa ntmps92 aa (rR fun b1 b2=>(ac (ab (kPa aa aa (ad (ac (ab (kPf jb isAgg196 aa aa aa aa (aH aa (au call155 aa) (xN _ _ _) .free aa aa ?_)))))))))
 rintro _ _ ⟨bb,rfl,rfl⟩
 refine aM (H':=row bb [.map (some b1)] 196::bx .i64 i64 b1 T.at_::row b [.map (some b1),.map (some b2),i64 T.last] 198::bx .i64 i64 b2 T.no::Fr) (fun w hh=>(hh.front 2 aa).back 1 (by simp)) (aH aa (au call149 aa) (uZ _ _ b1 bb T.at_ hTl) .free aa aa ?_)
 rintro v8 _ rfl
 refine kPa aa aa (ad (am [2] rfl (az ?_)))
 exact aq results92 aa (fun w hh=>⟨_,rfl,Holds.front (A:=iz 0 (v8,bZ (T.at_.map Prod.fst))) (gp (T:=T) (((hh.front 3 aa).front 2 aa).front 3 aa)) 1 aa⟩)
section
variable {B:World} {σ:Env} {H:List HP} {P:Program} {d:Option Tmp} {ty:TypeId} {p:String} {af:Array Edge} {g:Option (Nat×Bool)}
theorem u6{t k e:TypeId}{q:Option Nat}(ht:∀ w,(underlying t).run P w= .ok (.map k e) w)(w:World):(Op.equal t (.map q) (.map none)).run P w= .ok q.isNone w:=by
 show(Op.equalIn (9999+1) t (.map q) (.map none)).run P w=_
 rw[Op.equalIn];simp only[Sem.run_bind,ht,Result.andThen_ok];cases q<;>rfl
theorem DD{op:BinOp}{x y:Operand}{q:Option Nat}{c:Bool}{t u k e:TypeId}(ht:∀ w,(underlying t).run P w= .ok (.map k e) w)(hx:evO σ x=some (.map q))(hy:evO σ y=some (.map none))(hc:(match op with | .eql=>some q.isNone | .neq=>some (!q.isNone) | _=>none)=some c):
 Evs P B σ H ⟨d,.binOp op t x y u,ty,p,af,g⟩ (.bool c):=by
 intro a w kn _
 cases op<;>simp at hc<;>subst hc<;>simp only[execOp,kn.eval hx,kn.eval hy]<;>simp[binOp,eqGuard,u6 ht]
theorem DA{x:Operand}{s t:TypeId}{v:Value}{td:TypeDesc}(ht:∀ w,(underlying t).run P w= .ok td w)(hi:xW td=false)(hx:evO σ x=some (.iface t v)):Evs P B σ H ⟨d,.typeAssert x s t false,ty,p,af,g⟩ v:=by
 intro a w kn _
 cases td<;>simp[xW] at hi<;>simp[execOp,kn.eval hx,Instr.typeAssert,ht]
theorem yg{α:Type}{kk:IntKind}{enc:α→Value}{r:Nat}{l:List (Int×α)}{U:List (Int×α)→List HP}{f:FuncId}{x:Operand}{t:TypeId}{at_:Array TypeId}(hc:∀ (args:Array Value) (w:World),(callFunc f args).run P w=((Extern.MapsClone.clone args).run P w).andThen fun v w'=> .ok (.value v) w')
 (hx:evO σ x=some (.iface t (.map (some r)))) [m:jO H r kk enc l U]:
 Chg P B σ H ⟨d,.call ⟨.value (.func f), #[x],at_⟩,ty,p,af,g⟩ (fun v H'=>∃ b,v= .iface t (.map (some b))∧H'=bx kk enc b l::H):=by
 intro a w kn hh
 obtain⟨bn,clock,ho,hm⟩:=m.obj hh
 refine⟨.value (.iface t (.map (some w.heap.size))),{w with heap:=w.heap.push (.map (bS kk enc bn l).toArray clock)},?_,_,.inl aa,_,⟨_,rfl,rfl⟩,?_⟩
 ·have e:Extern.MapsClone.clone #[.iface t (.map (some r))]=(getObj r>>=fun o=>match o with
   | .map entries clock=>(newObj (.map entries clock)>>=fun n=>pure (.iface t (.map (some n))))
   | _=>stuck "maps.clone: a map expected"):=rfl
  have hg:(getObj r).run P w= .ok (.map (bS kk enc bn l).toArray clock) w:=by simp[getObj,Sem.run,ho]
  have hfe:a.eval (.func f)= .func (.func f) #[] #[]:=rfl
  simp[execOp,resolve,Deferred.ofValue,invoke,hfe,kn.eval hx,hc,e,hg]
 ·exact(hh.new (.map (bS kk enc bn l).toArray clock)).map fun _ a=>lM (fun k hk=>⟨bn,clock,hk,hm⟩) a
end
theorem xQ(B:World)(H:List HP)(r:Nat)(l:List (Int×Int))(U:List (Int×Int)→List HP)(m:jO H r .i64 i64 l U):
 ∀ w,Holds B H w→Calls Tryz.prog 210 [.map (some r)].toArray w (Ret B (fun rv H'=>∃ b,rv= .map (some b)∧H'=bx .i64 i64 b l::H) (fun _ _=>False)):=by
 refine an func210 aa ntmps210 aa (ac (ab (kPa aa aa (ad (ac (ac (ab (kPm aa aa (kPv (DD runUnderlying196 aa aa aa) aa (ad (bH aa (rfl) ?_)))))))))))
 refine ar (ac (ab (kPm aa aa (kPv (Ap runUnderlying196 aa aa) aa (kPb (yg (fun args w=>run_callFunc_extern func217 (by kernel_rfl) (by kernel_rfl) (by kernel_rfl) (e:=Extern.MapsClone.clone) (by kernel_rfl) args w) aa) aa fun b=> ?_)))))
 refine kPv (DA runUnderlying196 aa aa) aa (kPa aa aa (ad (am [2] rfl (az ?_))))
 exact aq results210 aa (fun w hh=>⟨_,⟨b,rfl,rfl⟩,hh⟩)
structure CS(B:World)(f:FuncId)(fi ca:List Value)(ε:Type)(ExL:ε→List HP)(okp:Int→Prop)(to_:Int→Int)(st:Int→ε→ε):Prop where
 enter:∀ args w,(callFunc f args).run Tryz.prog w= .ok (.enter f args) w
 says:∀ (Fr:List HP) (p:Int) (e:ε),okp p→∀ w,Holds B (ExL e++Fr) w→Calls Tryz.prog f (fi++[i64 p]++ca).toArray w (Ret B (fun rv H'=>rv=i64 (to_ p)∧H'=ExL (st p e)++Fr) (fun _ _=>False))
def dy(to_:Int→Int)(x:List (Int×Int)×List (Int×Int))(p:Int×Int):List (Int×Int)×List (Int×Int):=if to_ p.2≠0 then (mset x.1 p.1 (to_ p.2),mset x.2 (to_ p.2) p.1) else x
def gB.moved(to_:Int→Int)(last:Int)(ord:List (Int×Int)):gB:=⟨(ord.foldl (dy to_) ([],[])).1,(ord.foldl (dy to_) ([],[])).2,last⟩
theorem Holds.hop0{B:World}{w:World}(L M:List HP){E:List HP}(h:Holds B (L++(M++E)) w):Holds B (M++(L++E)) w:=
 h.perm (by rw[←List.append_assoc, ←List.append_assoc];exact List.Perm.append_right _ List.perm_append_comm)
theorem tH{α:Type}{l:List (Int×α)}(h:(l.map Prod.fst).Nodup):l.Nodup:=List.Pairwise.of_map Prod.fst (fun a b h e=>h (by rw[e])) h
theorem jH{α β:Type}(f:β→α→β)(l:List α)(a:α)(b:β):(l++[a]).foldl f b=f (l.foldl f b) a:=by rw[List.foldl_append];rfl
theorem x4(B:World)(Fr:List HP)(b:Nat)(T:gB)(f:FuncId)(fi ca:List Value)(ε:Type)(ExL:ε→List HP)(okp:Int→Prop)(to_:Int→Int)(st:Int→ε→ε)(hM:CS B f fi ca ε ExL okp to_ st)(hok:∀ p∈T.at_,okp p.2)(e0:ε):
 ∀ w,Holds B (gc b T::(ExL e0++Fr)) w→Calls Tryz.prog 186 [ptr b,.func (.func f) fi.toArray ca.toArray].toArray w (Ret B (fun _ H'=>∃ ord:List (Int×Int),ord.Perm T.at_∧H'=gc b (gB.moved to_ T.last ord)::(ExL (ord.foldl (fun e (p:Int×Int)=>st p.2 e) e0)++Fr)) (fun _ _=>False)):=by
 refine an func186 aa ntmps186 aa (rR fun b1 b2=>(ac (ab (kPf jb isAgg196 aa aa aa aa (aH aa (au call210 aa) (xQ B _ b1 T.at_ _ inferInstance) .free aa aa ?_)))))
 rintro _ _ ⟨bo,rfl,rfl⟩
 refine kPa aa aa (ad (ac (ab (kPf jb isAgg196 aa aa aa aa (kPs (mj aa runUnderlying196 aa) aa (ad (am [4,0,1] rfl (ac (ab (kPf l7 isAgg196 aa aa aa aa (kPs (mj aa runUnderlying196 aa) aa ?_)))))))))))
 refine ad (ac (ab (kPm aa aa (kPb (mi runUnderlying196 aa) aa fun it=>(ad (aG (cK (ι:=List (Int×Int)) [22,0,1] (fun done=>(done.length≤T.at_.length)) (fun done=>[]) (fun done=>row b [.map (some b1),.map (some b2),i64 T.last] 198::bx .i64 i64 b1 (done.foldl (dy to_) ([],[])).1::bx .i64 i64 b2 (done.foldl (dy to_) ([],[])).2::fH .i64 i64 bo it T.at_ done::(ExL (done.foldl (fun e (p:Int×Int)=>st p.2 e) e0)++Fr)) (fun done=>T.at_.length - done.length) ([]) (Nat.zero_le _) (fun a w st=>st.to trivial (fun hh=>(hh.pk [1,1,1]))) ?_)))))))
 rintro done hdl
 try simp only at hdl ⊢
 refine cu (σ':=[(22,_),(0,_),(1,_)]) (aE aa) (ac (ab (cJ aa (nL aa) .free aa aa ?_)))
 rintro _ _ ⟨bb0,vs,done',rfl,hvs,rfl,hno,hyes⟩
 refine kPv (aA aa hvs) aa (ad (ac ?_))
 refine a8 aa (fun h24=> ?_) (fun h24=> ?_)
 ·obtain⟨pp,hpl,hpn,rfl⟩:=hyes h24
  refine iD it fun hl hd hsub=>(ar (aG (ac (ab (kPv (mf (p0:=pp) (dn:=done) aa) aa (kPv (aA aa aa) aa (kPv (aA aa aa) aa (kPa aa aa (kPa aa aa (ad (ac ?_)))))))))))
  refine ab (kPm aa aa (kPm aa aa ?_))
  refine aU aa (iO hM.enter aa aa) (fun w hh=>hM.says ([row b [.map (some b1),.map (some b2),i64 T.last] 198,bx .i64 i64 b1 (done.foldl (dy to_) ([],[])).1,bx .i64 i64 b2 (done.foldl (dy to_) ([],[])).2,fH .i64 i64 bo it T.at_ (done++[pp])]++Fr) pp.2 (done.foldl (fun e (p:Int×Int)=>st p.2 e) e0) (hok pp hpl) w (Holds.hop0 [row b [.map (some b1),.map (some b2),i64 T.last] 198,bx .i64 i64 b1 (done.foldl (dy to_) ([],[])).1,bx .i64 i64 b2 (done.foldl (dy to_) ([],[])).2,fH .i64 i64 bo it T.at_ (done++[pp])] (ExL (done.foldl (fun e (p:Int×Int)=>st p.2 e) e0)) hh)) .free aa aa ?_ ?_
  rotate_left
  ·rintro _ _ ⟨⟩
  rintro _ _ ⟨rfl,rfl⟩
  refine aM (H':=[row b [.map (some b1),.map (some b2),i64 T.last] 198,bx .i64 i64 b1 (done.foldl (dy to_) ([],[])).1,bx .i64 i64 b2 (done.foldl (dy to_) ([],[])).2,fH .i64 i64 bo it T.at_ (done++[pp])]++(ExL (st pp.2 (done.foldl (fun e (p:Int×Int)=>st p.2 e) e0))++Fr)) (fun w hh=>Holds.hop0 (ExL (st pp.2 (done.foldl (fun e (p:Int×Int)=>st p.2 e) e0))) [row b [.map (some b1),.map (some b2),i64 T.last] 198,bx .i64 i64 b1 (done.foldl (dy to_) ([],[])).1,bx .i64 i64 b2 (done.foldl (dy to_) ([],[])).2,fH .i64 i64 bo it T.at_ (done++[pp])] hh) ?_
  simp only[List.cons_append,List.nil_append]
  refine kPa aa aa (ad (am [7,5,22,0,1] rfl (ac (ab (kPm aa aa (kPv (ao aa aa aa) aa (ad ?_)))))))
  refine a8 aa (fun h32=> ?_) (fun h32=> ?_)
  ·have hnz:to_ pp.2≠0:=by simpa using h32
   refine cW [0,1,2,3,4,5,6,7,8,9,10,11,12,13,14,15,16,17] [12,14,15,17] [9,10,11] [12,14,15] [row b [.map (some b1),.map (some b2),i64 T.last] 198] Tryz.mixed (by kernel_rfl) ?_
   refine aS aa aa aa (ak aa) .free aa (aS aa aa aa (aI aa) .free aa (aS aa aa aa (aD (m:=_) jb aa aa) .free aa (aS aa aa aa (ah isAgg196 aa aa) .free aa (aS aa aa aa (ak aa) .free aa (aS aa aa aa (ak aa) .free aa (aS aa aa aa (aI aa) .free aa (aS aa aa aa (aD (m:=_) l7 aa aa) .free aa (aS aa aa aa (ah isAgg196 aa aa) .free aa (aj aa aa aa (ak aa) .free aa (aj aa aa aa (ak aa) .free aa (aj aa aa aa (ak aa) .free aa ?_)))))))))))
   refine aT aa aa (aP [1] (cJ aa (iH (u0:=(0:Int)) runUnderlying196 runUnderlying3 zeroValue3 aa aa) .free aa aa ?_))
   rintro _ _ ⟨z1,st1,rfl,rfl⟩
   refine ad (cN (aS aa aa aa (aA aa aa) .free aa (aT aa aa (kPs (gC aa aa aa aa) aa (ad (cN (aT aa aa (aP [2] (cJ aa (iH (u0:=(0:Int)) runUnderlying196 runUnderlying3 zeroValue3 aa aa) .free aa aa ?_)))))))))
   rintro _ _ ⟨z2,st2,rfl,rfl⟩
   refine ad (cN (aS aa aa aa (aA aa aa) .free aa (aT aa aa (kPs (gC aa aa aa aa) aa (ad (c7 aa (cy (am [22,0,1] rfl ?_))))))))
   have hle:=iC hd hsub
   exact fun a w st_=>⟨done++[pp],by first | omega | (simp;omega),by first | omega | (simp;omega),st_.to ⟨rfl,rfl,rfl,trivial⟩ (fun hh=>(by have h:=(hh.pk [2,1]);rw[jA,jA] at h;rw[jH,jH,show dy to_ (done.foldl (dy to_) ([],[])) pp=(mset _ pp.1 (to_ pp.2),mset _ (to_ pp.2) pp.1) from if_pos hnz];exact h))⟩
  ·have hnz:to_ pp.2=0:=by simpa using h32
   refine ar ?_
   have hle:=iC hd hsub
   exact fun a w st_=>⟨done++[pp],by first | omega | (simp;omega),by first | omega | (simp;omega),st_.to ⟨rfl,rfl,rfl,trivial⟩ (fun hh=>(by have h:=hh;rw[jH,jH,show dy to_ (done.foldl (dy to_) ([],[])) pp=_ from if_neg (by simpa using hnz)];exact h))⟩
 ·obtain⟨rfl,hall⟩:=hno h24
  refine iD it fun hl hd hsub=>(bF ?_)
  exact cI results186 (fun w hh=>⟨_,⟨done',(List.perm_ext_iff_of_nodup (tH hd) (tH hl)).2 fun x=>⟨hsub x,hall x⟩,rfl⟩,gp (T:=gB.moved to_ T.last done') (hh.dp [3])⟩)
def dr(c:Cfg)(b:Blk)(ml:List (Int×db))(v:Int):Bool:=v==0||(b.has c v&&(bK ml v).isSome)
def tw(s:Dev)(nf:Int→Bool)(o:db):Bool:=(List.range o.2.1.toNat).all fun k=>nf (s.load (o.2.2+1+(k:Int)))
def stC(s:Dev)(nf:Int→Bool)(p:db×Int)(x:Int):Bool×Int:=if tw s nf p.1=true then (true,x) else (false,9)
def Dev.check(s:Dev)(c:Cfg):Int:=
 if (s.block c).2≠0 then (s.block c).2
 else if (s.starts c (s.block c).1).2≠0 then (s.starts c (s.block c).1).2
 else if (s.block c).1.rts.all (dr c (s.block c).1 (s.starts c (s.block c).1).1)=true then
  (itl (stC s (dr c (s.block c).1 (s.starts c (s.block c).1).1)) (s.objs c (s.block c).1 ((s.block c).1.used.toNat+1) ((s.block c).1.place c 0)) 0).2
 else 9
theorem zt(o:Option db):pS gQ (.agg #[i64 0,i64 0,i64 0]) o=gQ (o.getD (0,0,0)):=by cases o<;>rfl
theorem pQ{α:Type}{l:List α}{f:α→Bool}{k:Nat}(hk:k<l.length)(h:(l.take k).all f=true)(h2:f l[k]=true):(l.take (k+1)).all f=true:=by
 rw[List.take_succ_eq_append_getElem hk,List.all_append,h];simp[h2]
theorem oy{f:Nat→Bool}{k:Nat}(h:(List.range k).all f=true)(h2:f k=true):(List.range (k+1)).all f=true:=by
 rw[List.range_succ,List.all_append,h];simp[h2]
theorem qX(B:World)(Fr:List HP)(b1 b2 b3 mb:Nat)(c:Cfg)(hc:bA c)(b:Blk)(sv:Value)(hb:gh c b)(hsv:aL sv=true)(ml:List (Int×db))(v:Int)(hv:0≤v∧v<18446744073709551616):
 ∀ w,Holds B (row b1 [i64 b.act,i64 b.used,sv] 151::row b2 [i64 c.log,i64 c.roots,i64 c.space] 134::row b3 [.map (some mb)] 259::bx .i64 gQ mb ml::Fr) w→Calls Tryz.prog 181 [w64 v,ptr b1,ptr b2,ptr b3].toArray w (aZ B (row b1 [i64 b.act,i64 b.used,sv] 151::row b2 [i64 c.log,i64 c.roots,i64 c.space] 134::row b3 [.map (some mb)] 259::bx .i64 gQ mb ml::Fr) (.bool (dr c b ml v))):=by
 refine an func181 aa ntmps181 aa (ac (ab (kPa aa aa (ad (ac (ac (ab (kPm aa aa (kPv (ao aa aa aa) aa (ad ?_))))))))))
 refine a8 aa (fun h9=> ?_) (fun h9=> ?_)
 ·have hres:dr c b ml v=true:=by unfold dr;simp[show v=0 by simpa using h9]
  refine ac (ab (kPa aa aa (ad (az ?_))))
  exact aq results181 aa (fun w hh=>⟨by rw[hres],hh⟩)
 ·have hne:¬ v=0:=by simpa using h9
  refine ar (ac (ac (ab (kPv (ag isAgg151 sizeOf151 aa aa) aa ?_))))
  refine kPv (ag isAgg134 sizeOf134 aa aa) aa ?_
  refine kPm aa aa (aw aa (au call182 aa) (rP _ _ c hc b sv hb hsv _ hv) .free aa aa ?_)
  refine kPv (bz aa) aa (ad (am [14,5,0,3] rfl ?_))
  refine a8 aa (fun h14=> ?_) (fun h14=> ?_)
  ·have hh0:b.has c v=false:=by simpa using h14
   have hres:dr c b ml v=false:=by unfold dr;simp[hne,hh0]
   refine ac (ab (kPa aa aa (ad (az ?_))))
   exact aq results181 aa (fun w hh=>⟨by rw[hres],hh⟩)
  ·have hh0:b.has c v=true:=by simpa using h14
   have hvb:=kC hc hb hh0
   have hres:dr c b ml v=(bK ml v).isSome:=by unfold dr;simp[hne,hh0]
   refine ar (ac (ab (kPv (ah isAgg259 aa aa) aa (kPm aa aa (kPv (bR runUnderlying25 runUnderlying3 aa) aa (kPv ((fB runUnderlying259 runUnderlying3 zeroValue160 aa aa).eq (congrArg (fun v=>Value.tuple #[v,.bool _]) (zt _))) aa (kPm aa aa (kPv (aA aa aa) aa (kPv (aA aa aa) aa (kPb (aC zeroValue160 aa) aa fun b6=>(kPs (ax (vs:=[i64 _,i64 _,i64 _]) sizeOf160 aa aa aa aa aa) aa ?_)))))))))))
   refine kPa aa aa (ad (am [7,5] rfl (ac (ab (kPm aa aa (kPa aa aa (ad (az ?_))))))))
   exact aq results181 aa (fun w hh=>⟨by rw[hres];rfl,hh.tail⟩)
theorem kV(B:World)(Fr:List HP)(bd:Nat)(s:Dev)(c:Cfg)(hc:bA c)(hu:U64 s):
 ∀ w,Holds B (aB bd s::Fr) w→Calls Tryz.prog 130 [ptr bd,dY c].toArray w (aZ B (aB bd s::Fr) (i64 (s.check c))):=by
 refine eI func130 aa ntmps130 aa ?_
 have hrl:=fK (s:=s) hc
 refine ac (ab (kPb (dL aa aa) aa fun b2=>(kPb (aX aa) aa fun b3=>(kPa aa aa (ad (wT (ac (ab (kPv (ah isAgg90 aa aa) aa (kPv (ag isAgg134 sizeOf134 aa aa) aa ?_))))))))))
 refine aP [2] (aH aa (au call117 aa) (fT _ _ _ _ c hc hu) .free aa aa ?_)
 rintro _ _ ⟨sv,hsv,rfl,rfl⟩
 have hbk:=dG (s:=s) hc hu
 refine kPm aa aa (kPv (aA aa aa) aa (kPv (aA aa aa) aa (kPb (aC zeroValue151 aa) aa fun b5=>(kPs (ax (vs:=[i64 _,i64 _,sv]) sizeOf151 aa aa aa (eh hsv) aa) aa (kPa aa aa (ad (am [6,5,4,3,2] rfl (ac (ac (ab (kPm aa aa ?_)))))))))))
 refine kPv (ao aa aa aa) aa (ad ?_)
 refine a8 aa (fun h21=> ?_) (fun h21=> ?_)
 ·have he:(s.block c).2≠0:=by simpa using h21
  have hres:s.check c=(s.block c).2:=by unfold Dev.check;rw[if_pos he]
  refine ac (ab (kPm aa aa (kPa aa aa (ad (az ?_)))))
  exact fE results130 aa (.nil) (fun w hh=>⟨by rw[hres]<;>rfl,(hh.dp [0,0,1,1])⟩)
 ·have he:(s.block c).2=0:=by simpa using h21
  refine ar (ac (ab (kPv (ah isAgg90 aa aa) aa (kPv (ag isAgg134 sizeOf134 aa aa) aa ?_))))
  refine kPv (ag isAgg151 sizeOf151 aa aa) aa ?_
  refine aP [2] (aH aa (au call180 aa) (nR _ _ bd s c hc (s.block c).1 sv hbk hsv) .free aa aa ?_)
  rintro _ _ ⟨mb,rfl,rfl⟩
  refine kPm aa aa (kPv (aA aa aa) aa (kPv (aA aa aa) aa (kPb (cf zeroValue259 aa) aa fun b7=>(kPs (aO sizeOf259 aa aa aa aa) aa (kPa aa aa (ad (am [6,7,5,4,3,2] rfl (ac (ac (ab (kPm aa aa ?_)))))))))))
  refine kPv (ao aa aa aa) aa (ad ?_)
  refine a8 aa (fun h31=> ?_) (fun h31=> ?_)
  ·have he2:(s.starts c (s.block c).1).2≠0:=by simpa using h31
   have hres:s.check c=(s.starts c (s.block c).1).2:=by unfold Dev.check;rw[if_neg (by omega),if_pos he2]
   refine ac (ab (kPm aa aa (kPa aa aa (ad (az ?_)))))
   exact fE results130 aa (.nil) (fun w hh=>⟨by rw[hres]<;>rfl,(hh.dp [0,0,1,1,1,1])⟩)
  ·have he2:(s.starts c (s.block c).1).2=0:=by simpa using h31
   refine ar (ac (ab (kPb (cf zeroValue36 aa) aa fun b8=>(kPs (aO sizeOf36 aa aa aa aa) aa (ad (ac (ab (kPv (dz aa aa) aa (kPb (cf zeroValue264 aa) aa fun b9=>(kPs (aO sizeOf264 aa aa aa aa) aa (aP [6] ?_)))))))))))
   refine cE fun qo co hqe hqo=> ?_
   subst hqe
   refine ad (ac (ac (ab (kPl fh isAgg30 aa aa aa aa (kPv (bD aa runUnderlying30 ⟨_,rfl⟩ rfl) aa (kPm aa aa (ad (aG (cK (ι:=Nat) [36,35,9,8,5,4,3,2] (fun k=>(k≤(s.block c).1.rts.length)∧(((s.block c).1.rts.take k).all (dr c (s.block c).1 (s.starts c (s.block c).1).1)=true)) (fun k=>[(37,i64 k)]) (fun k=>row b5 [i64 (s.block c).1.act,i64 (s.block c).1.used,.slice qo (s.block c).1.rts.length co] 151::row b3 [i64 c.log,i64 c.roots,i64 c.space] 134::row b7 [.map (some mb)] 259::bx .i64 gQ mb (s.starts c (s.block c).1).1::cS 0 (.slice qo (s.block c).1.rts.length co,(s.block c).1.rts)::aB bd s::row b8 [i64 0] 36::row b9 [.func (.func 181) #[] #[ptr b5,ptr b3,ptr b7]] 264::row b2 [ptr bd] 90::Fr) (fun k=>(s.block c).1.rts.length - k) (0) (⟨Nat.zero_le _,rfl⟩) (fun a w st=>st.to ⟨rfl,trivial⟩ (fun hh=>(hh.pk [6,6,3,3,0,2,1]))) ?_)))))))))
   rintro k ⟨hk0,hkr⟩
   try simp only at hk0 hkr ⊢
   refine cu (σ':=[(37,i64 k),(36,_),(35,_),(9,_),(8,_),(5,_),(4,_),(3,_),(2,_)]) (aE aa) (ac (ab (kPv (ao aa aa aa) aa (ad (ac ?_)))))
   refine a8 aa (fun h38=> ?_) (fun h38=> ?_)
   ·have hk:k<(s.block c).1.rts.length:=by simp at h38;omega
    obtain⟨bq,oq,rfl⟩:=hqo k hk
    have hul:0≤(s.block c).1.rts[k]∧(s.block c).1.rts[k]<18446744073709551616:=fJ hu _ (List.getElem_mem hk)
    refine ar (ac (aG (ac (ab (kPv (cg runUnderlying30 sizeOf25 aa aa (by omega) (by omega)) aa ?_)))))
    refine kPv (bP (v:=w64 (s.block c).1.rts[k]) isAgg25 (cP 4 aa) aa (by rw[Int.toNat_natCast,List.getElem?_map,List.getElem?_eq_getElem hk];rfl)) aa ?_
    refine kPa aa aa (ad (ac (ab (kPv (ah isAgg264 aa aa) aa (kPm aa aa ?_)))))
    refine aw aa (iO call181 aa aa) (qX B _ b5 b3 b7 mb c hc (s.block c).1 _ hbk aa (s.starts c (s.block c).1).1 (s.block c).1.rts[k] hul) .free aa aa ?_
    refine kPv (bz aa) aa (ad (am [44,37,36,35,9,8,5,4,3,2] rfl ?_))
    refine a8 aa (fun h44=> ?_) (fun h44=> ?_)
    ·have hnr:¬ (dr c (s.block c).1 (s.starts c (s.block c).1).1) (s.block c).1.rts[k]=true:=by simpa using h44
     have hres:s.check c=9:=by unfold Dev.check;rw[if_neg (by omega),if_neg (by omega),if_neg (fun hh=>hnr (List.all_eq_true.1 hh _ (List.getElem_mem hk)))]
     refine ac (ab (kPa aa aa (ad (az ?_))))
     exact fE results130 aa (.nil) (fun w hh=>⟨by rw[hres]<;>rfl,(hh.dp [0,0,0,0,0,1,1,1])⟩)
    ·have hnr:(dr c (s.block c).1 (s.starts c (s.block c).1).1) (s.block c).1.rts[k]=true:=by simpa using h44
     refine ar (ab (kPv (aN aa aa) aa (kPm aa aa (ad ?_))))
     exact fun a w st_=>⟨k+1,⟨by first | omega | (simp only;omega),pQ hk hkr hnr⟩,by first | omega | (simp only;omega),st_.to (aE aa) (fun hh=>hh)⟩
   ·have hk:¬ k<(s.block c).1.rts.length:=by simp at h38;omega
    obtain rfl:k=(s.block c).1.rts.length:=by omega
    have hres:s.check c=(itl (stC s (dr c (s.block c).1 (s.starts c (s.block c).1).1)) (s.objs c (s.block c).1 ((s.block c).1.used.toNat+1) ((s.block c).1.place c 0)) 0).2:=by unfold Dev.check;rw[if_neg (by omega),if_neg (by omega),if_pos (by rw[List.take_length] at hkr;exact hkr)]
    refine bF (ac (wU (ac (ac (ab (kPv (ah isAgg90 aa aa) aa (kPv (ag isAgg134 sizeOf134 aa aa) aa ?_)))))))
    refine kPv (ag isAgg151 sizeOf151 aa aa) aa ?_
    refine aH aa (au call183 aa) (nW _ _ bd c (s.block c).1 (.slice qo (s.block c).1.rts.length co) aa) .free aa aa ?_
    rintro _ _ ⟨c3,c4,c5,rfl,rfl⟩
    refine ad (am [49,9,8,4,2] rfl (aG (kO aa call208 ?_)))
    intro l m tmps hts hkn w hh
    have hk9:=hkn 9 _ rfl
    have hk2:=hkn 2 _ rfl
    have hk8:=hkn 8 _ rfl
    refine(sE B (blk m (.deferred (some []))::cS 0 (.slice qo (s.block c).1.rts.length co,(s.block c).1.rts)::Fr) l 130 c3 c4 c5 bd c hc (s.block c).1 _ hbk aa s Int _ aa aa (fun x=>True) (fun x=>[row b8 [i64 x] 36,row b5 [i64 (s.block c).1.act,i64 (s.block c).1.used,.slice qo (s.block c).1.rts.length co] 151,row b3 [i64 c.log,i64 c.roots,i64 c.space] 134,row b7 [.map (some mb)] 259,bx .i64 gQ mb (s.starts c (s.block c).1).1,row b9 [.func (.func 181) #[] #[ptr b5,ptr b3,ptr b7]] 264,row b2 [ptr bd] 90]) (fun _=> .exit 2) (stC s (dr c (s.block c).1 (s.starts c (s.block c).1).1)) 0 trivial ?_ w (hh.pk [0,1,1,1,6,6,1,1,1,1,2,2])).mono (Ret.mono ?_ fun _ _ h=>h.elim)
    ·intro p x hpw _
     have hp2:=hpw.r
     have hp1:=hpw.w
     have hp3:=hpw.at_
     refine⟨trivial,fun E=> ?_⟩
     simp only[List.cons_append,List.nil_append]
     refine gG (n:=70) (σ:=[(50,gQ p.1),(51,i64 p.2),(9,ptr b9),(2,ptr b2),(8,ptr b8)]) func130 (by simp[fO,hts]) (KnA.knows (by simp[KnA,fO,hts];exact⟨(Array.getElem?_eq_some_iff.1 hk9).2,(Array.getElem?_eq_some_iff.1 hk2).2,(Array.getElem?_eq_some_iff.1 hk8).2⟩)) aa ?_
     refine ab (kPb (aC zeroValue160 aa) aa fun b12=>(kPs (ax (vs:=[i64 p.1.1,i64 p.1.2.1,i64 p.1.2.2]) sizeOf160 aa aa aa aa aa) aa (ad (aP [1] (kh (aG (ac ?_)))))))
     generalize hrec:({state:=LoopState.busy, ..}:Loop)=rec
     refine ab (kPv (aD (m:=_) fc aa aa) aa (kPl fZ isAgg3 aa aa aa aa (kPm aa aa (ad (aG ?_)))))
     refine cK (ι:=Nat) [54,12,9,2,8] (fun j=>((j:Int)≤p.1.2.1)∧((List.range j).all (fun k=>(dr c (s.block c).1 (s.starts c (s.block c).1).1) (s.load (p.1.2.2+1+(k:Int))))=true)) (fun j=>[(55,i64 j)]) (fun j=>row b5 [i64 (s.block c).1.act,i64 (s.block c).1.used,.slice qo (s.block c).1.rts.length co] 151::row b3 [i64 c.log,i64 c.roots,i64 c.space] 134::row b7 [.map (some mb)] 259::bx .i64 gQ mb (s.starts c (s.block c).1).1::row b12 [i64 p.1.1,i64 p.1.2.1,i64 p.1.2.2] 160::blk l (.loop rec)::row c5 [i64 (s.block c).1.act,i64 (s.block c).1.used,.slice qo (s.block c).1.rts.length co] 151::row c4 [i64 c.log,i64 c.roots,i64 c.space] 134::row c3 [ptr bd] 90::aB bd s::row b8 [i64 x] 36::row b9 [.func (.func 181) #[] #[ptr b5,ptr b3,ptr b7]] 264::row b2 [ptr bd] 90::E) (fun j=>p.1.2.1.toNat - j) (0) (⟨by first | omega | (simp only;omega),rfl⟩) (fun a w st=>st.to ⟨rfl,trivial⟩ (fun hh=>(hh.pk [7,7,7,7,1]))) ?_
     rintro j ⟨hj0,hall⟩
     try simp only at hj0 hall ⊢
     refine cu (σ':=[(55,i64 j),(54,_),(12,_),(9,_),(2,_),(8,_)]) (aE aa) (ac (ab (kPv (ao aa aa aa) aa (ad (ac ?_)))))
     refine a8 aa (fun h56=> ?_) (fun h56=> ?_)
     ·have hj:(j:Int)<p.1.2.1:=by simpa using h56
      refine ar (ac (aG (ac (ab (kPm aa aa (kPa aa aa (ad (ac (cV Tryz.mixed (by kernel_rfl) (by kernel_rfl) ?_)))))))))
      refine kQv (ah isAgg264 aa aa) aa (kQv (ah isAgg90 aa aa) aa (kQv (aD (m:=_) kq aa aa) aa (kQv (ah isAgg3 aa aa) aa (kQv (aN aa aa) aa (kQm aa aa (kQv (aN aa aa) aa (bG aa (au call173 aa) (bI (q:=aB) (fun Fr=>cq _ Fr _ _ _)) .free aa ?_)))))))
      refine bG aa (iO call181 aa aa) (qX B _ b5 b3 b7 mb c hc (s.block c).1 _ hbk aa (s.starts c (s.block c).1).1 (s.load (p.1.2.2+1+(j:Int))) (hu.load _)) .free aa ?_
      refine kQv (bz aa) aa (bY (am [67,55,54,12,9,2,8] rfl ?_))
      refine a8 aa (fun h67=> ?_) (fun h67=> ?_)
      ·have hnall:¬ (dr c (s.block c).1 (s.starts c (s.block c).1).1) (s.load (p.1.2.2+1+(j:Int)))=true:=by simpa using h67
       subst hrec
       refine ac (ab (kPs (aO sizeOf36 aa aa aa aa) aa (ad (bF ?_))))
       have hst:stC s (dr c (s.block c).1 (s.starts c (s.block c).1).1) p x=(false,9):=by unfold stC;rw[if_neg (show ¬ tw s (dr c (s.block c).1 (s.starts c (s.block c).1).1) p.1=true from fun hh=>hnall (List.all_eq_true.1 hh j (List.mem_range.2 (by omega))))]
       refine aP [5] ?_
       exact wQ fun w hh=>⟨_,⟨by rw[hst],rfl⟩,by rw[hst];exact((hh.dp [5]).pk [0,4,4,4,4,4])⟩
      ·have hnm:(dr c (s.block c).1 (s.starts c (s.block c).1).1) (s.load (p.1.2.2+1+(j:Int)))=true:=by simpa using h67
       refine ar (ab (kPv (aN aa aa) aa (kPm aa aa (ad ?_))))
       exact fun a w st_=>⟨j+1,⟨by first | omega | (simp only;omega),oy hall hnm⟩,by first | omega | (simp only;omega),st_.to (aE aa) (fun hh=>hh)⟩
     ·have hj:¬ (j:Int)<p.1.2.1:=by simpa using h56
      have hall2:tw s (dr c (s.block c).1 (s.starts c (s.block c).1).1) p.1=true:=by unfold tw;rw[show p.1.2.1.toNat=j by omega];exact hall
      subst hrec
      refine bF ?_
      have hst:stC s (dr c (s.block c).1 (s.starts c (s.block c).1).1) p x=(true,x):=by unfold stC;rw[if_pos hall2]
      refine aP [5] ?_
      exact kg fun w hh=>⟨_,⟨by rw[hst],rfl⟩,by rw[hst];exact((hh.dp [5]).pk [0,4,4,4,4,4])⟩
    rintro _ _ ⟨_,rfl⟩
    simp only[List.cons_append,List.nil_append]
    refine⟨_,_,fun w hh=>hh,j7 (by simp[fO]),fun hp=> ?_,fun c' hc'=> ?_⟩
    rotate_left
    ·obtain⟨h1,rfl⟩:=j6 rfl hc'
     refine bF (ac (ab (kPv (ah isAgg36 aa aa) aa (kPa aa aa (ad (az ?_))))))
     exact fE results130 aa (.at 12 (.nil)) (fun w hh=>⟨by rw[hres]<;>rfl,(hh.dp [0,0,0,0,1,1,1,1,1,1,1,1,1])⟩)
    refine ac (ab (kPv (ah isAgg36 aa aa) aa (kPa aa aa (ad (az ?_)))))
    exact fE results130 aa (.at 12 (.nil)) (fun w hh=>⟨by rw[hres]<;>rfl,(hh.dp [0,0,0,0,1,1,1,1,1,1,1,1,1])⟩)
def iK(x:Blk×Int)(b:Blk)(e:Int):Bool:=x.1.act==b.act&&x.1.used==b.used&&x.1.rts==b.rts&&x.2==e
theorem ef{x:Blk×Int}{b:Blk}{e:Int}(h:iK x b e=true):x=(b,e):=by
 obtain⟨⟨a1,a2,a3⟩,a4⟩:=x
 obtain⟨b1,b2,b3⟩:=b
 simp only[iK,Bool.and_eq_true,beq_iff_eq] at h
 obtain⟨⟨⟨rfl,rfl⟩,rfl⟩,rfl⟩:=h
 rfl
def xD(x:Int×Int)(a e:Int):Bool:=x.1==a&&x.2==e
theorem nB{x:Int×Int}{a e:Int}(h:xD x a e=true):x=(a,e):=by
 simp only[xD,Bool.and_eq_true,beq_iff_eq] at h
 exact Prod.ext h.1 h.2
def Dg(x:db×Int)(o:db)(e:Int):Bool:=x.1.1==o.1&&x.1.2.1==o.2.1&&x.1.2.2==o.2.2&&x.2==e
theorem Bt{x:db×Int}{o:db}{e:Int}(h:Dg x o e=true):x=(o,e):=by
 simp only[Dg,Bool.and_eq_true,beq_iff_eq] at h
 exact Prod.ext (Prod.ext h.1.1.1 (Prod.ext h.1.1.2 h.1.2)) h.2
theorem iJ:bA ⟨3,1,48⟩:=⟨by decide,by decide,by decide,by decide,by decide,by decide⟩
theorem tK:(⟨3,1,48⟩:Cfg)=mkC 0 0 40:=rfl
abbrev c8:Cfg:=⟨3,1,8⟩
abbrev c48:Cfg:=⟨3,1,48⟩
theorem n48{N:Nat}(h:(N:Int)=c48.words):N=136:=by have:(N:Int)=136:=h.trans (by decide);omega
theorem ve(B:World)(Fr:List HP)(bd:Nat)(o:db)(ho:lB o)(i v:Int)(hv:0≤v∧v<18446744073709551616)(s:Dev)(hl:s.pow.lim<0)(hu:U64 s):
 ∀ w_,Holds B (aB bd s::Fr) w_→Calls Tryz.prog 88 [gQ o,i64 i,w64 v,.func (.func 145) [ptr bd].toArray #[]].toArray w_ (Ret B (fun rv H'=>∃ x s',iL gm o i false v s ()= .ok (x,()) s'∧rv=i64 x∧s'.pow.lim<0∧s'.n=s.n∧U64 s'∧H'=aB bd s'::Fr) (fun _ _=>False)):=fun w_ hh=>by
 obtain⟨y,s2,hg,_,hg2,hg3⟩:=t7 (o:=o) (i:=i) (v:=v) (r:=false) hl
 refine(qi B Fr _ [ptr bd] bd 0 Unit (fun _ _=>pr True) gm _ (uX B bd 0) o ho i v hv s () hu w_ ((hh.unpr (p:=True) trivial).back 1 (by simp))).mono fun en w' h=> ?_
 cases en with
 | returned rv=>
   obtain⟨H,⟨x,e',s',hm,rfl,hok,rfl⟩,hh⟩:=h
   obtain⟨rfl,rfl⟩:y=(x,e')∧s2=s':=by rw[hg] at hm;cases hm;exact⟨rfl,rfl⟩
   exact⟨_,⟨x,s2,hm,rfl,hg2,hg3,hok,rfl⟩,(hh.front 1 aa).tail⟩
 | panicked c=>
   obtain⟨H,⟨s',hm,_⟩,_⟩:=h
   rw[hg] at hm;cases hm
 | outgrown=>exact h
theorem Cb(pa:Nat):okB ((iP pa [] 56).format c8) (fun _ s=>iK (s.block c8) ⟨0,0,[0]⟩ 0)=true:=by kernel_rfl
theorem Ca(pa:Nat):okB ((iP pa [] 56).format c8) (fun _ s=>okB (cO gm c8 2 0 s ()) fun x s1=>xD x.1 40 0&&okB (cO gm c8 5 0 s1 ()) fun y _=>xD y.1 0 4)=true:=by kernel_rfl
theorem AD(pa:Nat):okB ((iP pa [] 136).format c48) (fun _ s=>okB (gT c48 [(1,2)] s []) fun out sF=>out==[40]&&iK (sF.block c48) ⟨0,3,[0]⟩ 0&&Dg (sF.objOf c48 ⟨0,3,[0]⟩ 40) (2,1,40) 0&&xD (sF.objRead (2,1,40) 0) 0 5&&okB (iL gm (2,1,40) 1 false 9 sF ()) fun a s2=>a.1==0&&xD (s2.objRead (2,1,40) 1) 9 0)=true:=by kernel_rfl
theorem AC(pa:Nat):okB ((iP pa [] 136).format c48) (fun _ s=>okB (gT c48 [(0,1)] s []) fun out sF=>out==[40]&&iK (sF.block c48) ⟨0,2,[0]⟩ 0&&okB (eG c48 ⟨0,2,[0]⟩ (dq [] [40] 0) [40] 0 sF) fun n1 s1=>n1==some 0&&okB (fG c48 (dq [] [40] 0) 1 0 0 s1) fun _ s2=>iK (s2.block c48) ⟨0,2,[0]⟩ 0&&(s2.starts c48 ⟨0,2,[0]⟩).1==[(40,(1,0,40))]&&(s2.starts c48 ⟨0,2,[0]⟩).2==0)=true:=by kernel_rfl
theorem AB(pa:Nat):okB ((iP pa [] 56).format c8) (fun _ s=>s.check c8==0&&okB (s.store 34 5) fun _ s1=>s1.check c8==9)=true:=by kernel_rfl
theorem yl(B:World)(Fr:List HP):
 ∀ w,Holds B Fr w→Calls Tryz.prog 239 [].toArray w (aZ B Fr (.bool true)):=by
 refine an func239 aa ntmps239 aa (ac (ab (kPa aa aa (ad (ac (ac (ab (aw aa (au call240 aa) (ym _ _) .free aa aa ?_))))))))
 refine kPv (bz aa) aa (ad (bH aa (rfl) (ar (ac (ab (kPv (aQ aa (dl _ _ _ aa aa aa)) aa (kPb (aC zeroValue134 aa) aa fun b1=>(kPs (ax (vs:=_) sizeOf134 aa aa aa aa aa) aa (ad (ac (ab ?_)))))))))))
 refine kPv (ag isAgg134 sizeOf134 aa aa) aa ?_
 refine aH aa (au call74 aa) (dW _ _ ⟨3,1,8⟩ ga none 0 [] (by decide) (fun _ h=>absurd h (Nat.not_lt_zero _)) SlR.nil) .free aa aa ?_
 rintro _ _ ⟨bd,pa,N,s0,hN,hf,rfl,rfl⟩
 obtain rfl:N=56:=by have:(N:Int)=56:=hN.trans (by decide);omega
 have hfm:=pf ga hN hf
 have hu0:=il (kv pa 56) ga hf
 refine kPm aa aa (kPv (aA aa aa) aa (kPv (aA aa aa) aa (kPa aa aa (kPa aa aa (ad (am [3,2,1,0] rfl (ac (ac (ab (kPm aa aa (kPv (bz aa) aa ?_)))))))))))
 refine ad (bH aa (rfl) (ar (ac (ab (kPm aa aa (kPv (ag isAgg134 sizeOf134 aa aa) aa ?_))))))
 refine aH aa (au call117 aa) (fT _ _ _ _ ⟨3,1,8⟩ ga hu0) .free aa aa ?_
 rintro _ _ ⟨sv,hsv,rfl,rfl⟩
 rw[ef (bU (Cb pa) hf)]
 refine cE fun qv cv hqv hqi=> ?_
 subst hqv
 refine kPm aa aa (kPv (aA aa aa) aa (kPv (aA aa aa) aa (kPb (aC zeroValue151 aa) aa fun b4=> ?_)))
 refine kPs (ax (vs:=_) sizeOf151 aa aa aa (by first | rfl | exact eh (by assumption)) rfl) rfl ?_;refine kPa aa aa ?_;refine ad ?_;refine am [5,4,1,0] rfl ?_;refine ac ?_;refine ab ?_;refine kPm aa aa ?_;refine kPv (ao aa aa aa) aa ?_;refine kPm aa aa ?_
 refine al aa (aD (m:=_) iq aa aa) (.on aa aa (ae aa)) aa aa (al aa (ah isAgg3 aa aa) (.on aa aa (ae aa)) aa aa (al aa (ao aa aa aa) (.on aa aa (ae aa)) aa aa (kPv (ay aa aa aa) aa (kPm aa aa (al aa (aD (m:=_) dE aa aa) (.on aa aa (ae aa)) aa aa (al aa (ah isAgg3 aa aa) (.on aa aa (ae aa)) aa aa (al aa (ao aa aa aa) (.on aa aa (ae aa)) aa aa (kPv (ay aa aa aa) aa (kPm aa aa (al aa (aD (m:=_) fh aa aa) (.on aa aa (ae aa)) aa aa (al aa (ah isAgg30 aa aa) (.on aa aa (ae aa)) aa aa ?_)))))))))))
 refine al aa (bD aa runUnderlying30 ⟨_,rfl⟩ rfl) (.on aa aa (ae aa)) aa aa (al aa (ao aa aa aa) (.on aa aa (ae aa)) aa aa (kPv (ay aa aa aa) aa (kPm aa aa (al aa (ag isAgg151 sizeOf151 aa aa) (.on aa aa (ae aa)) aa aa ?_))))
 refine al aa (ag isAgg134 sizeOf134 aa aa) (.on aa aa (ae aa)) aa aa ?_
 refine aw aa (au call137 aa) (ib _ _ ⟨3,1,8⟩ ga ⟨0,0,[0]⟩ _ ⟨⟨by decide,by decide⟩,⟨by decide,by decide⟩⟩ hsv 3 (by decide)) (.on aa aa (ae aa)) aa aa ?_
 refine al aa (ao aa aa aa) (.on aa aa (ae aa)) aa aa (kPv (ay aa aa aa) aa (kPa aa aa (ad (am [0] rfl (az ?_)))))
 exact aq results239 aa (fun w hh=>⟨rfl,(hh.dp [0,0,0,0])⟩)
theorem yj(B:World)(Fr:List HP):
 ∀ w,Holds B Fr w→Calls Tryz.prog 236 [].toArray w (aZ B Fr (.bool true)):=by
 refine an func236 aa ntmps236 aa (ac (ab (kPa aa aa (ad (ac (ac (ab (aw aa (au call239 aa) (yl _ _) .free aa aa ?_))))))))
 refine kPv (bz aa) aa (ad (bH aa (rfl) (ar (ac (ab (kPv (aQ aa (dl _ _ _ aa aa aa)) aa (kPb (aC zeroValue134 aa) aa fun b1=>(kPs (ax (vs:=_) sizeOf134 aa aa aa aa aa) aa (ad (ac (ab ?_)))))))))))
 refine kPv (ag isAgg134 sizeOf134 aa aa) aa ?_
 refine aH aa (au call74 aa) (dW _ _ ⟨3,1,8⟩ ga none 0 [] (by decide) (fun _ h=>absurd h (Nat.not_lt_zero _)) SlR.nil) .free aa aa ?_
 rintro _ _ ⟨bd,pa,N,s0,hN,hf,rfl,rfl⟩
 obtain rfl:N=56:=by have:(N:Int)=56:=hN.trans (by decide);omega
 have hfm:=pf ga hN hf
 have hu0:=il (kv pa 56) ga hf
 refine kPm aa aa (kPv (aA aa aa) aa (kPv (aA aa aa) aa (kPa aa aa (kPa aa aa (ad (am [3,2,1,0] rfl (ac (ac (ab (kPm aa aa (kPv (bz aa) aa ?_)))))))))))
 refine ad (bH aa (rfl) (ar (ac (ab (kPm aa aa (kPv (ag isAgg134 sizeOf134 aa aa) aa ?_))))))
 refine kPv (aQ aa (q6 _ aa)) aa (kPm aa aa (kPv (dz aa aa) aa (aH aa (au call85 aa) (mL _ _ bd ⟨3,1,8⟩ ga 2 0 s0 hfm.lim hu0) .free aa aa ?_)))
 rintro _ _ ⟨x1,s1,hm1,rfl,hl1,hn1,hu1,rfl⟩
 have hev:=bU (bU (Ca pa) hf) hm1
 simp only[Bool.and_eq_true] at hev
 rw[nB hev.1]
 refine kPm aa aa (kPv (aA aa aa) aa (kPv (aA aa aa) aa (kPa aa aa (kPa aa aa (ad (am [5,4,2,1,0] rfl (ac (ab (kPm aa aa (kPv (ag isAgg134 sizeOf134 aa aa) aa ?_))))))))))
 refine kPv (aQ aa (q6 _ aa)) aa (kPm aa aa (kPv (dz aa aa) aa (aH aa (au call85 aa) (mL _ _ bd ⟨3,1,8⟩ ga 5 0 s1 hl1 hu1) .free aa aa ?_)))
 rintro _ _ ⟨x2,s2,hm2,rfl,hl2,hn2,hu2,rfl⟩
 rw[show x2=((0:Int),(4:Int)) from nB (bU hev.2 hm2)]
 refine kPm aa aa (kPv (aA aa aa) aa (kPv (aA aa aa) aa (kPa aa aa (kPa aa aa (ad (am [7,5,4,1,0] rfl (ac (ab (kPm aa aa (kPv (ag isAgg134 sizeOf134 aa aa) aa ?_))))))))))
 refine aw aa (au call119 aa) (jG _ _ ⟨3,1,8⟩ ga 0 (by decide) (by decide)) .free aa aa ?_
 refine kPv (ao aa aa aa) aa (kPm aa aa (al aa (ak aa) (.on aa aa (ae aa)) aa aa (al aa (ao aa aa aa) (.on aa aa (ae aa)) aa aa (kPv (ay aa aa aa) aa (kPm aa aa (al aa (ak aa) (.on aa aa (ae aa)) aa aa (al aa (ao aa aa aa) (.on aa aa (ae aa)) aa aa (kPv (ay aa aa aa) aa (kPa aa aa (ad (am [0] rfl ?_)))))))))))
 refine az ?_
 exact aq results236 aa (fun w hh=>⟨rfl,(hh.dp [0,0])⟩)
abbrev EH(h:Int×Int):List Value:=[u8 h.1,u8 h.2]
theorem pv:lC 2 EH:=⟨fun _=>rfl,fun _=>rfl⟩
theorem hh1{a b:Int}(h1:0≤a∧a<256)(h2:0≤b∧b<256):∀ h∈[(a,b)],(0≤h.1∧h.1<256)∧(0≤h.2∧h.2<256):=fun h hm=>by rw[List.mem_singleton.1 hm];exact⟨h1,h2⟩
theorem C1{B:World}{H:List HP}{b:Nat}{x y:Value}{T1:TypeId}{U:List Value→List HP}[eX H b [x,y] T1 U]{cap:Nat}:SlN B H (.slice (some ⟨b,0,none⟩) 1 cap) 2 [[x,y]]:=
 SlN.row (cs:=[[x,y]]) fun i c h=>by
  cases i with
  | zero=>cases h;exact⟨rfl,fun j _=>by rw[Nat.zero_mul,Nat.zero_add,Nat.zero_add]⟩
  | succ i=>cases h
theorem vR(B:World)(Fr:List HP):
 ∀ w,Holds B Fr w→Calls Tryz.prog 229 [].toArray w (aZ B Fr (.bool true)):=by
 refine an func229 aa ntmps229 aa (ac (ab (kPa aa aa (ad (ac (ac (ab (aw aa (au call236 aa) (yj _ _) .free aa aa ?_))))))))
 refine kPv (bz aa) aa (ad (bH aa (rfl) (ar (ac (ab (kPv (aQ aa (jh _ aa)) aa (kPv (aQ aa (uK _ _ aa aa)) aa (kPb (pE pv (v:=(1,2)) runUnderlying190 sizeOf189 zeroValue189 ⟨⟨by decide,by decide⟩,rfl⟩ rfl aa) aa fun b17=>(aH aa (au call168 aa) (qR _ _ 0 0 40 ⟨by decide,by decide,by decide⟩ ⟨3,1,48⟩ tK [(1,2)] (hh1 ⟨by decide,by decide⟩ ⟨by decide,by decide⟩) (by decide) (some ⟨b17,0,none⟩) 1 C1) .free aa aa ?_)))))))))
 rintro _ _ ⟨bd,pa,N,s0,sF,out,ov,sv,hfm,hN,⟨hus0,hf⟩,hfill,huF,hlF,hnF,hov,hsv,rfl,rfl⟩
 obtain rfl:=n48 hN
 have hev:=bU (bU (AD pa) hf) hfill
 simp only[Bool.and_eq_true,beq_iff_eq] at hev
 obtain⟨⟨⟨⟨rfl,e1⟩,e2⟩,e3⟩,e4⟩:=hev
 rw[ef e1]
 refine aP [2] (cE fun qo co hqo hqi=> ?_)
 subst hqo
 obtain⟨bO,oO,rfl⟩:=hqi 0 (by decide)
 have ho:lB (2,1,40):=⟨⟨by decide,by decide⟩,⟨by decide,by decide⟩,⟨by decide,by decide⟩⟩
 refine kPm aa aa (kPv (aA aa aa) aa (kPv (aA aa aa) aa (kPv (aA aa aa) aa (kPv (aA aa aa) aa (kPb (aC zeroValue134 aa) aa fun b2=>(kPb (aC zeroValue151 aa) aa fun b3=>(kPa aa aa (kPs (ax (vs:=_) sizeOf134 aa aa aa aa aa) aa ?_))))))))
 refine kPs (ax (vs:=_) sizeOf151 aa aa aa (by first | rfl | exact eh (by assumption)) rfl) rfl ?_;refine kPa aa aa ?_;refine ad ?_;refine am [4,1,3,2,0] rfl ?_;refine ac ?_;refine ac ?_;refine ab ?_;refine kPm aa aa ?_;refine kPv (df runUnderlying90 aa aa aa) aa ?_;refine kPm aa aa ?_;refine al aa (ak aa) (.on aa aa (ae aa)) aa aa ?_
 refine al aa (bD aa runUnderlying166 ⟨_,rfl⟩ rfl) (.on aa aa (ae aa)) aa aa (al aa (ao aa aa aa) (.on aa aa (ae aa)) aa aa (kPv (aJ aa aa aa) aa (ad (bH aa (rfl) (ar (ac (aM (H':=dJ 3 i64 0 (.slice (some ⟨bO,oO,none⟩) 1 co,[40])::row b3 [i64 0,i64 3,sv] 151::row b2 [i64 3,i64 1,i64 48] 134::cS 0 (sv,[0])::aB bd sF::Fr) (fun w hh=>by have h:=((hh.dp [5]).pk [2]);exact h) ?_)))))))
 refine iE (.br [0,1,2,3,4,5] 6 (.fin [7,8,9,10,11,12]) 10 (.fin [6,7,8,9,11,12])) [6,10,11] [0,1,2,3,4,5,7,8,9] [10,11] [row b2 [i64 3,i64 1,i64 48] 134,row b3 [i64 0,i64 3,sv] 151,dJ 3 i64 0 (.slice (some ⟨bO,oO,none⟩) 1 co,[40])] [1,0] (G:=Nat) (fun b5=>[(5,ptr b5),(6,i64 (sF.objOf ⟨3,1,48⟩ ⟨0,3,[0]⟩ 40).2)]) (fun b5=>row b5 [i64 (sF.objOf ⟨3,1,48⟩ ⟨0,3,[0]⟩ 40).1.1,i64 (sF.objOf ⟨3,1,48⟩ ⟨0,3,[0]⟩ 40).1.2.1,i64 (sF.objOf ⟨3,1,48⟩ ⟨0,3,[0]⟩ 40).1.2.2] 160::dJ 3 i64 0 (.slice (some ⟨bO,oO,none⟩) 1 co,[40])::row b3 [i64 0,i64 3,sv] 151::row b2 [i64 3,i64 1,i64 48] 134::cS 0 (sv,[0])::aB bd sF::Fr) Tryz.mixed (by kernel_rfl) ?_ ?_
 ·skip
  refine sS (aj aa aa aa (ak aa) .free aa (aj aa aa aa (ag isAgg134 sizeOf134 aa aa) .free aa ?_))
  refine aj aa aa aa (ag isAgg151 sizeOf151 aa aa) .free aa ?_
  refine aj aa aa aa (ak aa) .free aa (aj aa aa aa (cg runUnderlying166 sizeOf3 aa aa (by decide) (by decide)) .free aa (aj aa aa aa (bP (v:=i64 40) isAgg3 (cP 2 aa) aa aa) .free aa (cy ?_)))
  refine mT aa aa ?_ ?_
  ·skip
   refine aw aa (au call147 aa) (bI (q:=aB) (fun Fr=>j2 _ Fr _ _ ⟨3,1,48⟩ iJ ⟨0,3,[0]⟩ sv ⟨⟨by decide,by decide⟩,⟨by decide,by decide⟩⟩ hsv 40 (by decide))) .free aa aa ?_
   refine ad (sR aa (gR (aj aa aa aa (ak aa) .free aa (aj aa aa aa (aA aa aa) .free aa (aj aa aa aa (aA aa aa) .free aa (aT aa aa (kPb (aC zeroValue160 aa) aa fun b5=>(ad (cN (aT aa aa (kPs (ax (vs:=_) sizeOf160 aa aa aa aa aa) aa ?_)))))))))))
   refine ad (cN (aS aa aa aa (bu aa) .free aa (cy ?_)))
   exact fun a w st_=>⟨b5,st_.to (aE aa) (fun hh=>hh)⟩
  ·skip
   refine kPb (aC zeroValue160 aa) aa fun b5=>(ad (rj (gR (aT aa aa (aw aa (au call147 aa) (bI (q:=aB) (fun Fr=>j2 _ Fr _ _ ⟨3,1,48⟩ iJ ⟨0,3,[0]⟩ sv ⟨⟨by decide,by decide⟩,⟨by decide,by decide⟩⟩ hsv 40 (by decide))) .free aa aa ?_)))))
   refine ad (c7 aa (aj aa aa aa (ak aa) .free aa (aj aa aa aa (aA aa aa) .free aa (aj aa aa aa (aA aa aa) .free aa (aT aa aa (kPs (ax (vs:=_) sizeOf160 aa aa aa aa aa) aa (ad (cN (aS aa aa aa (bu aa) .free aa (cy ?_))))))))))
   exact fun a w st_=>⟨b5,st_.to (aE aa) (fun hh=>hh)⟩
 intro b5
 refine cu (σ':=[(5,ptr b5),(6,i64 (sF.objOf ⟨3,1,48⟩ ⟨0,3,[0]⟩ 40).2),(1,_),(0,_)]) (aE aa) (ac ?_)
 rw[show sF.objOf ⟨3,1,48⟩ ⟨0,3,[0]⟩ 40=(((2:Int),(1:Int),(40:Int)),(0:Int)) from Bt e2]
 refine ab (kPv (ag isAgg160 sizeOf160 aa aa) aa ?_)
 refine kPm aa aa (aw aa (au call237 aa) (bI (q:=aB) (fun Fr=>tC _ Fr _ _ (2,1,40) ho 0)) .free aa aa ?_)
 refine kPm aa aa (kPv (aA aa aa) aa (kPv (aA aa aa) aa (kPa aa aa (kPa aa aa (ad (am [8,5,6,1,0] rfl (ac (ab (kPv (ag isAgg160 sizeOf160 aa aa) aa ?_)))))))))
 refine kPm aa aa (kPv (dz aa aa) aa (aP [5] (aH aa (au call88 aa) (ve B _ bd (2,1,40) ho 1 9 (by decide) sF hlF huF) .free aa aa ?_)))
 rintro _ _ ⟨x2,s2,hm2,rfl,hl2,hn2,hu2,rfl⟩
 have hev2:=bU e4 hm2
 simp only[Bool.and_eq_true,beq_iff_eq] at hev2
 obtain⟨f1,f2⟩:=hev2
 obtain rfl:x2=0:=f1
 refine kPa aa aa (ad (ac (ab (kPv (ag isAgg160 sizeOf160 aa aa) aa ?_))))
 refine kPm aa aa (aw aa (au call237 aa) (bI (q:=aB) (fun Fr=>tC _ Fr _ _ (2,1,40) ho 1)) .free aa aa ?_)
 refine kPm aa aa (kPv (aA aa aa) aa (kPv (aA aa aa) aa (kPa aa aa (kPa aa aa (ad (am [11,10,9,8,5,6,1,0] rfl (ac ?_)))))))
 rw[show sF.objRead (2,1,40) 0=((0:Int),(5:Int)) from nB e3,show s2.objRead (2,1,40) 1=((9:Int),(0:Int)) from nB f2]
 refine ab (kPm aa aa (kPv (ao aa aa aa) aa (kPm aa aa (al aa (ak aa) (.on aa aa (ae aa)) aa aa (al aa (ao aa aa aa) (.on aa aa (ae aa)) aa aa (kPv (ay aa aa aa) aa (kPm aa aa (al aa (ak aa) (.on aa aa (ae aa)) aa aa (al aa (ao aa aa aa) (.on aa aa (ae aa)) aa aa (kPv (ay aa aa aa) aa (kPm aa aa ?_)))))))))))
 refine al aa (ak aa) (.on aa aa (ae aa)) aa aa (al aa (ao aa aa aa) (.on aa aa (ae aa)) aa aa (kPv (ay aa aa aa) aa (kPm aa aa (al aa (ak aa) (.on aa aa (ae aa)) aa aa (al aa (ao aa aa aa) (.on aa aa (ae aa)) aa aa (kPv (ay aa aa aa) aa (kPm aa aa (al aa (ag isAgg160 sizeOf160 aa aa) (.on aa aa (ae aa)) aa aa ?_))))))))
 refine al aa (ak aa) (.on aa aa (ae aa)) aa aa (aH aa (au call196 aa) (qj _ _ (2,1,40) bd) (.on aa aa (ae aa)) aa aa ?_)
 rintro _ _ ⟨n1,n2,rfl,rfl⟩
 refine al aa (nH runUnderlying282 ⟨_,_,_,rfl⟩ rfl aa aa) (.on aa aa (ae aa)) aa aa (kPv (ay aa aa aa) aa (kPa aa aa (ad (am [0] rfl (az ?_)))))
 exact aq results229 aa (fun w hh=>⟨rfl,(hh.dp [0,0,0,0,0,0,0,0])⟩)
theorem vQ(B:World)(Fr:List HP):
 ∀ w,Holds B Fr w→Calls Tryz.prog 216 [].toArray w (aZ B Fr (.bool true)):=by
 refine an func216 aa ntmps216 aa (ac (ab (kPa aa aa (ad (ac (ac (ab (aw aa (au call229 aa) (vR _ _) .free aa aa ?_))))))))
 refine kPv (bz aa) aa (ad (bH aa (rfl) (ar (ac (ab (kPv (aQ aa (jh _ aa)) aa (kPv (aQ aa (hJ _ aa)) aa (kPb (pE pv (v:=(0,1)) runUnderlying190 sizeOf189 zeroValue189 ⟨⟨by decide,by decide⟩,rfl⟩ rfl aa) aa fun b12=>(aH aa (au call114 aa) (kM _ _ 0 0 40 ⟨by decide,by decide,by decide⟩ ⟨3,1,48⟩ tK [(0,1)] (hh1 ⟨by decide,by decide⟩ ⟨by decide,by decide⟩) (by decide) (some ⟨b12,0,none⟩) _ C1 none 0 [] SlR.nil (fun _ h=>(by cases h)) (by decide) (fun _ h=>absurd h (Nat.not_lt_zero _)) 0 (by decide)) .free aa aa ?_)))))))))
 rintro _ _ ⟨bd,pa,N,s0,sF,out,hfm,hN,⟨hus0,hf⟩,hfill,hor⟩
 obtain rfl:=n48 hN
 have hev:=bU (bU (AC pa) hf) hfill
 simp only[Bool.and_eq_true,beq_iff_eq] at hev
 obtain⟨⟨rfl,e1⟩,e2⟩:=hev
 rw[ef e1] at hor
 rcases hor with ⟨n1,n2,s1,s2,ov,sv,hl1,hl2,hu2,hlm2,hn2,hov,hsv,rfl,rfl⟩ | ⟨s1,hl1,_⟩
 rotate_left
 ·have e3:=bU e2 hl1
  simp only[Bool.and_eq_true,beq_iff_eq] at e3
  exact absurd e3.1 (by simp)
 have e3:=bU e2 hl1
 simp only[Bool.and_eq_true,beq_iff_eq] at e3
 obtain⟨e4,e5⟩:=e3
 obtain rfl:n1=0:=by injection e4
 have e6:=bU e5 hl2
 simp only[Bool.and_eq_true,beq_iff_eq] at e6
 obtain⟨⟨e7,e8⟩,e9⟩:=e6
 rw[ef e7]
 refine aP [2] (cE fun qo co hqo hqi=> ?_)
 subst hqo
 obtain⟨bO,oO,rfl⟩:=hqi 0 (by decide)
 refine kPm aa aa (kPv (aA aa aa) aa (kPv (aA aa aa) aa (kPv (aA aa aa) aa (kPv (aA aa aa) aa (kPb (aC zeroValue134 aa) aa fun b2=>(kPb (aC zeroValue151 aa) aa fun b3=>(kPa aa aa (kPs (ax (vs:=_) sizeOf134 aa aa aa aa aa) aa ?_))))))))
 refine kPs (ax (vs:=_) sizeOf151 aa aa aa (by first | rfl | exact eh (by assumption)) rfl) rfl ?_;refine kPa aa aa ?_;refine ad ?_;refine am [4,1,3,2,0] rfl ?_;refine ac ?_;refine ac ?_;refine ab ?_;refine kPm aa aa ?_;refine kPv (df runUnderlying90 aa aa aa) aa ?_;refine kPm aa aa ?_;refine al aa (ak aa) (.on aa aa (ae aa)) aa aa ?_
 refine al aa (ag isAgg134 sizeOf134 aa aa) (.on aa aa (ae aa)) aa aa ?_
 refine al aa (ag isAgg151 sizeOf151 aa aa) (.on aa aa (ae aa)) aa aa ?_
 refine aH aa (au call183 aa) (nW _ _ bd ⟨3,1,48⟩ ⟨0,2,[0]⟩ sv hsv) (.on aa aa (ae aa)) aa aa ?_
 rintro _ _ ⟨c3,c4,c5,rfl,rfl⟩
 refine al aa (nH runUnderlying266 ⟨_,_,_,rfl⟩ rfl aa aa) (.on aa aa (ae aa)) aa aa (kPv (aJ aa aa aa) aa (ad (am [26,4,1,3,2,0] rfl (bH aa (rfl) (ar (ac (ab (kPm aa aa (kPv (ag isAgg134 sizeOf134 aa aa) aa ?_)))))))))
 refine kPv (ag isAgg151 sizeOf151 aa aa) aa ?_
 refine aP [7] (aH aa (au call180 aa) (nR _ _ bd s2 ⟨3,1,48⟩ iJ ⟨0,2,[0]⟩ sv ⟨⟨by decide,by decide⟩,⟨by decide,by decide⟩⟩ hsv) .free aa aa ?_)
 rintro _ _ ⟨mb,rfl,rfl⟩
 rw[e8,e9]
 refine kPm aa aa (kPv (aA aa aa) aa (kPv (aA aa aa) aa (kPa aa aa (kPa aa aa (ad (am [6,5,4,0] rfl (ac (ab (kPm aa aa (kPv (ao aa aa aa) aa (kPm aa aa ?_)))))))))))
 refine al aa (ak aa) (.on aa aa (ae aa)) aa aa (al aa (w6 aa runUnderlying259 aa) (.on aa aa (ae aa)) aa aa (al aa (ao aa aa aa) (.on aa aa (ae aa)) aa aa (kPv (ay aa aa aa) aa (kPm aa aa (al aa (ak aa) (.on aa aa (ae aa)) aa aa (al aa (bD aa runUnderlying166 ⟨_,rfl⟩ rfl) (.on aa aa (ae aa)) aa aa (al aa (ao aa aa aa) (.on aa aa (ae aa)) aa aa (kPv (ay aa aa aa) aa (kPm aa aa (al aa (ak aa) (.on aa aa (ae aa)) aa aa (al aa (ak aa) (.on aa aa (ae aa)) aa aa ?_)))))))))))
 refine al aa (cg runUnderlying166 sizeOf3 aa aa (by decide) (by decide)) (.on aa aa (ae aa)) aa aa (al aa (bP (v:=i64 40) isAgg3 (cP 7 aa) aa aa) (.on aa aa (ae aa)) aa aa (al aa ((lr runUnderlying259 runUnderlying3 zeroValue160 aa aa).eq (zt _)) (.on aa aa (ae aa)) aa aa (al aa (yb runUnderlying160 (t:=102) (off:=0) aa isAgg102 sizeOf102 aa) (.on aa aa (ae aa)) aa aa (al aa (hG runUnderlying102 (t:=3) (off:=0) aa isAgg3 aa aa) (.on aa aa (ae aa)) aa aa (al aa (ao aa aa aa) (.on aa aa (ae aa)) aa aa (kPv (ay aa aa aa) aa (kPa aa aa (ad (am [0] rfl (az ?_))))))))))
 exact aq results216 aa (fun w hh=>⟨rfl,(hh.dp [0,0,0,0,0,0,0,0,0,0])⟩)
end Go.Proofs.YtoakdoeajpjgkaaGreatDoor
