/- Part of a law's texts. Conditions: none. -/
import Derived.Test.YtlcibdhmgclfjaaGreatQL17Ro
open Go.Proofs.Tryz
set_option linter.all false
namespace Go.Proofs.YtlcibdhmgclfjaaGreat
open Go
inductive Cal where
 | begin (r:Int) | commit | abort | alloc (w r:Int) | head (n:Int) | read (n i:Int) | write (n i v:Int) | ref (n i:Int) | point (n i t:Int) | root (i:Int) | set (i t:Int) | drop (n:Int) | step (n:Int) | collect
def bI(b:Bool):Int:=if b=true then 1 else 0
def HpS.does(h:HpS)(s:Dev)(x:List Int)(h':HpS)(s':Dev):Cal→Prop
 | .begin r=>∃ a,h.begR s r a h' s'∧x=[a]
 | .commit=>∃ a,h.commit s= .ok (a,h') s'∧x=[a]
 | .abort=>∃ a,h.abortR s a h' s'∧x=[a]
 | .alloc w r=>∃ a,h.alloc s w r= .ok (a,h') s'∧x=[a.1,a.2]
 | .head n=>x=[(h.obj s n).1.1,(h.obj s n).1.2.1,(h.obj s n).2]∧h'=h∧s'=s
 | .read n i=>x=[(h.read s n i).1,(h.read s n i).2]∧h'=h∧s'=s
 | .write n i v=>∃ a,h.write s n i v= .ok (a,h') s'∧x=[a]
 | .ref n i=>x=[(h.ref s n i).1.1,(h.ref s n i).1.2]∧h'=(h.ref s n i).2∧s'=s
 | .point n i t=>∃ a,h.point s n i t= .ok (a,h') s'∧x=[a]
 | .root i=>x=[(h.root s i).1.1,(h.root s i).1.2]∧h'=(h.root s i).2∧s'=s
 | .set i t=>∃ a,h.setRoot s i t= .ok (a,h') s'∧x=[a]
 | .drop n=>x=[if (bi h.T.at_ n).isSome=true then 0 else 6]∧h'={h with T:=h.T.drop n}∧s'=s
 | .step n=>∃ d a,h.stepR s n d a h' s'∧x=[bI d,a]
 | .collect=>∃ a,h.colR s a h' s'∧x=[a]
def HpS.cuts(h:HpS)(s s':Dev):Cal→Prop
 | .begin r=>h.o=false∧h.c.space - (h.blk s).used<r∧HpS.colOff {h with X:=none} s s'
 | .commit=>h.commit s= .off s'
 | .abort=>h.S.abort s= .off s'
 | .alloc w r=>h.alloc s w r= .off s'
 | .write n i v=>h.write s n i v= .off s'
 | .point n i t=>h.point s n i t= .off s'
 | .set i t=>h.setRoot s i t= .off s'
 | .step n=>h.stepOff s n s'
 | .collect=>h.colOff s s'
 | _=>False
def Md.does(M:Md)(x:List Int)(M':Md):Cal→Prop
 | .begin r=>x=[(M.begin r).1]∧M'=(M.begin r).2
 | .commit=>x=[M.commit.1]∧M'=M.commit.2
 | .abort=>x=[M.abort.1]∧M'=M.abort.2
 | .alloc w r=>∃ b c1 c2 nv vv,(M.allocE w r=0→b∉M.ids)∧x=[(M.alloc w r b c1 c2 nv vv).1.1,(M.alloc w r b c1 c2 nv vv).1.2]∧M'=(M.alloc w r b c1 c2 nv vv).2
 | .head n=>x=[(M.head n).1.1,(M.head n).1.2,(M.head n).2]∧M'=M
 | .read n i=>x=[(M.read n i).1,(M.read n i).2]∧M'=M
 | .write n i v=>∃ c1 c2 c3,x=[(M.write n i v c1 c2 c3).1]∧M'=(M.write n i v c1 c2 c3).2
 | .ref n i=>x=[(M.ref n i).1.1,(M.ref n i).1.2]∧M'=(M.ref n i).2
 | .point n i t=>∃ c1 c2 c3,x=[(M.point n i t c1 c2 c3).1]∧M'=(M.point n i t c1 c2 c3).2
 | .root i=>x=[(M.root i).1.1,(M.root i).1.2]∧M'=(M.root i).2
 | .set i t=>∃ c1 c2 c3,x=[(M.set i t c1 c2 c3).1]∧M'=(M.set i t c1 c2 c3).2
 | .drop n=>x=[(M.drop n).1]∧M'=(M.drop n).2
 | .step n=>x=[bI (M.step n).1.1,(M.step n).1.2]∧M'=(M.step n).2
 | .collect=>x=[M.collect.1]∧M'=M.collect.2
structure DoW where
 k:Int
 a:Int
 b:Int
 c:Int
 v:Int
 kw:0≤k∧k<256
 aw:0≤a∧a<256
 bw:0≤b∧b<256
 cw:0≤c∧c<256
 vw:0≤v∧v<18446744073709551616
abbrev DoW.i(A:DoW):Int:=Int.tmod A.b 7 - Int.tdiv (Int.tmod A.b 11) 10
abbrev DoW.room(A:DoW):Int:=Int.tmod A.b 24 - Int.tdiv (Int.tmod A.b 13) 12
def DoW.call(A:DoW)(M:Md):Cal:=
 if Int.tmod A.k 20=0∨Int.tmod A.k 20=1 then .begin A.room else if Int.tmod A.k 20=2 then .commit else if Int.tmod A.k 20=3 then .abort
 else if Int.tmod A.k 20=4∨Int.tmod A.k 20=5∨Int.tmod A.k 20=6 then .alloc (Int.tmod A.b 7) (Int.tmod A.a 4) else if Int.tmod A.k 20=7 then .head (M.handle A.a)
 else if Int.tmod A.k 20=8 then .read (M.handle A.a) A.i else if Int.tmod A.k 20=9∨Int.tmod A.k 20=10 then .write (M.handle A.a) A.i A.v else if Int.tmod A.k 20=11 then .ref (M.handle A.a) A.i
 else if Int.tmod A.k 20=12∨Int.tmod A.k 20=13 then .point (M.handle A.a) A.i (M.handle A.c) else if Int.tmod A.k 20=14 then .root A.i else if Int.tmod A.k 20=15∨Int.tmod A.k 20=16 then .set A.i (M.handle A.c)
 else if Int.tmod A.k 20=17 then .drop (M.handle A.a) else if Int.tmod A.k 20=18 then .step (Int.tmod A.b 9) else .collect
theorem DoW.ib(A:DoW): -1≤A.i∧A.i≤6∧ -1≤A.room∧A.room≤23∧(0≤Int.tmod A.b 7∧Int.tmod A.b 7<7)∧(0≤Int.tmod A.a 4∧Int.tmod A.a 4<4)∧(0≤Int.tmod A.b 9∧Int.tmod A.b 9<9)∧(0≤Int.tmod A.b 24∧Int.tmod A.b 24<24)∧(0≤Int.tdiv (Int.tmod A.b 13) 12∧Int.tdiv (Int.tmod A.b 13) 12≤1)∧(0≤Int.tdiv (Int.tmod A.b 11) 10∧Int.tdiv (Int.tmod A.b 11) 10≤1):=by
 have h1:=A.bw;have h2:=A.aw
 rw[DoW.i,DoW.room,Int.tmod_eq_emod_of_nonneg h1.1,Int.tmod_eq_emod_of_nonneg h1.1,Int.tmod_eq_emod_of_nonneg h1.1,Int.tmod_eq_emod_of_nonneg h1.1,Int.tmod_eq_emod_of_nonneg h1.1,Int.tmod_eq_emod_of_nonneg h2.1]
 rw[Int.tdiv_eq_ediv_of_nonneg (by omega),Int.tdiv_eq_ediv_of_nonneg (by omega)]
 omega
abbrev tF(b:Nat)(A:DoW):HP:=row b [.int .u8 A.k,.int .u8 A.a,.int .u8 A.b,.int .u8 A.c,w64 A.v] 68
theorem pg(B:World)(Fr:List HP)(bm:Nat)(M:Md)(hM:MdW M 999999)(a:Int)(ha:0≤a∧a<256):∀ w,Holds B (dI bm M::Fr) w→Calls Tryz.prog 84 [ptr bm,.int .u8 a].toArray w (bB B (dI bm M::Fr) (i64 (M.handle a))):=fun w hw=>by
 obtain⟨v,hx⟩:=hw.hex
 have h1:Holds B (cx bm M v.1 v.2.1 v.2.2.1 v.2.2.2.1 v.2.2.2.2::VN v.1 M.roots::VN v.2.1 M.hs::VK v.2.2.1 M.seen::VN v.2.2.2.1 M.fresh::VU v.2.2.2.2 M.undo::cB M.ids M.g::iZ bm M.undo::Fr) w:=hx.grp
 exact(xd B _ bm M _ _ _ _ _ a ha hM.dims.1 w (h1.pk [0,1])).mono fun _ _ h=>⟨h.1,bj (h.2.pk [0,1])⟩
theorem wt(a b:Int):(a==b)=decide ([a]=[b]):=by rw[Bool.eq_iff_iff];simp
theorem Dx(a b c d:Int):((a==b)&&(c==d))=decide ([a,c]=[b,d]):=by rw[Bool.eq_iff_iff];simp
theorem Fv(a b c d e f:Int):((e==f)&&((a==b)&&(c==d)))=decide ([a,c,e]=[b,d,f]):=by rw[Bool.eq_iff_iff];simp;constructor<;>(intro h;simp[h])
theorem Fu(a b:Bool)(c d:Int):((a==b)&&(c==d))=decide ([bI a,c]=[bI b,d]):=by rw[Bool.eq_iff_iff];cases a<;>cases b<;>simp[bI]
theorem Dn{B:World}{σ:Env}{H:List HP}{d:Option Tmp}{ty:TypeId}{p:String}{af:Array Edge}{gd:Option (Nat×Bool)}{op:BinOp}{x y:Operand}{u:TypeId}{a b a' b':Int}{c:Bool}(hx:evO σ x=some (.agg #[i64 a,i64 b]))(hy:evO σ y=some (.agg #[i64 a',i64 b']))(hc:(match op with | .eql=>some ((a==a')&&(b==b')) | .neq=>some (!((a==a')&&(b==b'))) | _=>none)=some c):
 Evs Tryz.prog B σ H ⟨d,.binOp op 38 x y u,ty,p,af,gd⟩ (.bool c):=by
 intro e w kn hh
 have hs:Tryz.prog.stoodInHeld 38=false:=by kernel_rfl
 have h2:∀ p q:Int,(Op.equalIn 9999 3 (i64 p) (i64 q)).run Tryz.prog w= .ok (p==q) w:=fun p q=>by
  show(Op.equalIn (9998+1) _ _ _).run _ _=_
  rw[Op.equalIn];simp only[Sem.run_bind,runUnderlying3,Result.andThen_ok];rfl
 have key:(Op.equal 38 (.agg #[i64 a,i64 b]) (.agg #[i64 a',i64 b'])).run Tryz.prog w= .ok ((a==a')&&(b==b')) w:=by
  show(Op.equalIn (9999+1) _ _ _).run _ _=_
  rw[Op.equalIn];simp only[Sem.run_bind,runUnderlying38,Result.andThen_ok]
  by_cases ha:a=a'<;>by_cases hb:b=b'<;>simp[hs,part,isAgg3,h2,ha,hb]
 cases op<;>first
  | (cases hc;done)
  | (have e:=Option.some.inj (show some ((a==a')&&(b==b'))=some c from hc);subst e;simp only[execOp,kn.eval hx,kn.eval hy];simp[binOp,eqGuard,key])
  | (have e:=Option.some.inj (show some (!((a==a')&&(b==b')))=some c from hc);subst e;simp only[execOp,kn.eval hx,kn.eval hy];simp[binOp,eqGuard,key])
theorem CP(B:World)(Fr:List HP)(bh bm:Nat)(h:HpS)(s:Dev)(M:Md)(hW:dl h s)(hb:(s.block h.c).2=0)(hM:MdW M 999999)(A:DoW):
 ∀ w,Holds B (cy bh h::aG h.bd s::dI bm M::Fr) w→Calls Tryz.prog 28 [ptr bm,ptr bh,.agg #[.int .u8 A.k,.int .u8 A.a,.int .u8 A.b,.int .u8 A.c,w64 A.v]].toArray w (Ret B (fun rv H'=>∃ x y h' s' M',h.does s x h' s' (A.call M)∧M.does y M' (A.call M)∧rv= .bool (decide (x=y))∧H'=cy bh h'::aG h.bd s'::dI bm M'::Fr) (fun ch H'=>∃ s',h.cuts s s' (A.call M)∧ch=dN∧H'=aG h.bd s'::dI bm M::Fr)):=by
 refine au func28 aa ntmps28 aa ?_
 have hib:=A.ib
 have hkw:=A.kw
 refine ac (ab (aC aa (bx aa) .free aa aa ?_))
 rintro _ _ ⟨b5,rfl,rfl⟩
 refine kPa aa aa (ad (ac (cK Tryz.mixed (by kernel_rfl) (by kernel_rfl) ?_)))
 refine kQm aa aa (kQv (aj (m:=_) yQ aa aa) aa (kQv (ae isAgg5 aa aa) aa ?_))
 refine bH aa (aA call84 aa) (cY [3] [1,1,1] (pg B _ bm M hM _ (by first | exact A.aw | exact A.cw))) .free rfl ?_;refine kQm aa aa ?_;refine kQv (aj (m:=_) Df aa aa) aa ?_
 refine kQv (ae isAgg5 aa aa) aa ?_
 refine bH aa (aA call84 aa) (cY [3] [1,1,1] (pg B _ bm M hM _ (by first | exact A.aw | exact A.cw))) .free rfl ?_;refine kQa aa aa ?_;refine kQa aa aa ?_;refine bR ?_;refine ao [8,7,6,5,0,1] rfl ?_;refine ac ?_;refine ab ?_;refine kPv (aj (m:=_) lk aa aa) aa ?_;refine kPv (ae isAgg5 aa aa) aa ?_;refine kPv (gQ aa aa) aa ?_
 refine kPv (bP runUnderlying5 runUnderlying3 aa) aa (kPv (aj (m:=_) lk aa aa) aa (kPv (ae isAgg5 aa aa) aa (kPv (gQ aa aa) aa ?_)))
 first | refine aq rfl (gp rfl rfl (by decide) (wB (by omega))) .free rfl rfl ?_ | refine aq rfl (gp rfl rfl (by decide) rfl) .free rfl rfl ?_ | refine aq rfl (gp rfl rfl (by omega) rfl) .free rfl rfl ?_
 refine kPv (bP runUnderlying5 runUnderlying3 aa) aa (kPv (cU aa aa) aa (kPa aa aa (ad (ao [9,8,7,6,5,0,1] rfl (ac (ac (ab (kPv (aj (m:=_) Dg aa aa) aa (kPv (ae isAgg5 aa aa) aa (kPv (gQ aa aa) aa (ad ?_)))))))))))
 refine aO ?_
 refine oJ (ι:=Bool) [56,9,8,7,6,5,0,1] (fun cj=>(cj=decide (Int.tmod A.k 20=0∨Int.tmod A.k 20=1))) (fun cj=>[(57,.bool cj)]) (fun cj=>tF b5 A::cy bh h::aG h.bd s::dI bm M::Fr) ?_ ?_
 ·skip
  refine ac (ab (kPv (an aa aa aa) aa (kPa aa aa (ad ?_))))
  refine aW aa (fun h57=> ?_) (fun h57=> ?_)
  ·have f0:Int.tmod A.k 20=0:=by simpa using h57
   refine ay ?_
   exact fun a w st_=>⟨(Int.tmod A.k 20==0),by rw[Bool.eq_iff_iff];simp[f0],st_.to (aF aa) (fun hh=>hh)⟩
  ·have f0:¬ Int.tmod A.k 20=0:=by simpa using h57
   refine ab (kPv (an aa aa aa) aa (kPa aa aa (ad ?_)))
   exact fun a w st_=>⟨(Int.tmod A.k 20==1),by rw[Bool.eq_iff_iff];simp[f0],st_.to (aF aa) (fun hh=>hh)⟩
 rintro cj hcj
 try simp only at hcj ⊢
 refine cg (σ':=[(57,.bool cj),(56,_),(9,_),(8,_),(7,_),(6,_),(5,_),(0,_),(1,_)]) (aF aa) ?_
 refine aW aa (fun h57=> ?_) (fun h57=> ?_)
 ·have g57:Int.tmod A.k 20=0∨Int.tmod A.k 20=1:=by rw[hcj] at h57;simpa using h57
  have hcall:A.call M= .begin A.room:=by unfold DoW.call;rw[if_pos g57]
  refine ac (ab (kPv (aj (m:=_) lk aa aa) aa (kPv (ae isAgg5 aa aa) aa (kPv (gQ aa aa) aa (kPv (bP runUnderlying5 runUnderlying3 aa) aa (kPv (aj (m:=_) lk aa aa) aa (kPv (ae isAgg5 aa aa) aa (kPv (gQ aa aa) aa ?_))))))))
  first | refine aq rfl (gp rfl rfl (by decide) (wB (by omega))) .free rfl rfl ?_ | refine aq rfl (gp rfl rfl (by decide) rfl) .free rfl rfl ?_ | refine aq rfl (gp rfl rfl (by omega) rfl) .free rfl rfl ?_
  refine kPv (bP runUnderlying5 runUnderlying3 aa) aa (kPv (cU aa aa) aa (kPa aa aa (ad (ao [10,6,0,1] rfl (ac (ab (kPm aa aa (kPm aa aa (aJ [1,1] ?_)))))))))
  refine aY aa (aA call11 aa) (oH B _ bh h s hW hb A.room) .free aa aa ?_ ?_
  rotate_left
  ·rintro _ _ ⟨s9,hm9,rfl,rfl⟩
   exact bz fun w hh=>⟨_,⟨s9,by rw[hcall];exact hm9,rfl,rfl⟩,hh.dp [1]⟩
  rintro _ _ ⟨a2,h2,s2,hm2,rfl,rfl⟩
  refine kPm aa aa (kPm aa aa (aJ [3] (cL aa (aA call85 aa) (zB B _ bm M hM A.room) .free aa aa ?_)))
  refine kPv (an aa aa aa) aa (kPa aa aa (ad (ao [6,0,1] rfl (az ?_))))
  exact ax results28 aa (fun w hw=>⟨_,⟨[a2],[(M.begin A.room).1],h2,s2,(M.begin A.room).2,by rw[hcall];exact⟨a2,hm2,rfl⟩,by rw[hcall];exact⟨rfl,rfl⟩,by rw[wt],rfl⟩,((hw.dp [3]).pk [1,1])⟩)
 ·have g57:¬ (Int.tmod A.k 20=0∨Int.tmod A.k 20=1):=by rw[hcj] at h57;simpa using h57
  refine ac (ab (kPv (an aa aa aa) aa (kPa aa aa (ad ?_))))
  refine aW aa (fun h77=> ?_) (fun h77=> ?_)
  ·have g77:Int.tmod A.k 20=2:=by simpa using h77
   have hcall:A.call M= .commit:=by unfold DoW.call;rw[if_neg g57,if_pos g77]
   refine ac (ab (kPm aa aa (aJ [1,1] ?_)))
   refine aY aa (aA call15 aa) (rp B _ bh h s hW) .free aa aa ?_ ?_
   rotate_left
   ·rintro _ _ ⟨s9,hm9,rfl,rfl⟩
    exact bz fun w hh=>⟨_,⟨s9,by rw[hcall];exact hm9,rfl,rfl⟩,hh.dp [1]⟩
   rintro _ _ ⟨a2,h2,s2,hm2,rfl,rfl⟩
   refine kPm aa aa (aJ [3] (cL aa (aA call29 aa) (xe B _ bm M hM) .free aa aa ?_))
   refine kPv (an aa aa aa) aa (kPa aa aa (ad (ao [6,0,1] rfl (az ?_))))
   exact ax results28 aa (fun w hw=>⟨_,⟨[a2],[(M.commit).1],h2,s2,(M.commit).2,by rw[hcall];exact⟨a2,hm2,rfl⟩,by rw[hcall];exact⟨rfl,rfl⟩,by rw[wt],rfl⟩,((hw.dp [3]).pk [1,1])⟩)
  ·have g77:¬ (Int.tmod A.k 20=2):=by simpa using h77
   refine ac (ab (kPv (an aa aa aa) aa (kPa aa aa (ad ?_))))
   refine aW aa (fun h84=> ?_) (fun h84=> ?_)
   ·have g84:Int.tmod A.k 20=3:=by simpa using h84
    have hcall:A.call M= .abort:=by unfold DoW.call;rw[if_neg g57,if_neg g77,if_pos g84]
    refine ac (ab (kPm aa aa (aJ [1,1] ?_)))
    refine aY aa (aA call86 aa) (zQ B _ bh h s hW) .free aa aa ?_ ?_
    rotate_left
    ·rintro _ _ ⟨s9,hm9,rfl,rfl⟩
     exact bz fun w hh=>⟨_,⟨s9,by rw[hcall];exact hm9,rfl,rfl⟩,hh.dp [1]⟩
    rintro _ _ ⟨a2,h2,s2,hm2,rfl,rfl⟩
    refine kPm aa aa (aJ [3] (cL aa (aA call87 aa) (zD B _ bm M hM) .free aa aa ?_))
    refine kPv (an aa aa aa) aa (kPa aa aa (ad (ao [6,0,1] rfl (az ?_))))
    exact ax results28 aa (fun w hw=>⟨_,⟨[a2],[(M.abort).1],h2,s2,(M.abort).2,by rw[hcall];exact⟨a2,hm2,rfl⟩,by rw[hcall];exact⟨rfl,rfl⟩,by rw[wt],rfl⟩,((hw.dp [3]).pk [1,1])⟩)
   ·have g84:¬ (Int.tmod A.k 20=3):=by simpa using h84
    refine oJ (ι:=Bool) [56,9,8,7,6,5,0,1] (fun cj=>(cj=decide (Int.tmod A.k 20=4∨Int.tmod A.k 20=5∨Int.tmod A.k 20=6))) (fun cj=>[(91,.bool cj)]) (fun cj=>tF b5 A::cy bh h::aG h.bd s::dI bm M::Fr) ?_ ?_
    ·skip
     refine ac (ab (kPv (an aa aa aa) aa (kPa aa aa (ad ?_))))
     refine aW aa (fun h91=> ?_) (fun h91=> ?_)
     ·have f0:Int.tmod A.k 20=4:=by simpa using h91
      refine ay ?_
      exact fun a w st_=>⟨(Int.tmod A.k 20==4),by rw[Bool.eq_iff_iff];simp[f0],st_.to (aF aa) (fun hh=>hh)⟩
     ·have f0:¬ Int.tmod A.k 20=4:=by simpa using h91
      refine ac (ab (kPv (an aa aa aa) aa (kPa aa aa (ad (ao [91,56,9,8,7,6,5,0,1] rfl ?_)))))
      refine aW aa (fun h91=> ?_) (fun h91=> ?_)
      ·have f1:Int.tmod A.k 20=5:=by simpa using h91
       refine ay ?_
       exact fun a w st_=>⟨(Int.tmod A.k 20==5),by rw[Bool.eq_iff_iff];simp[f1],st_.to (aF aa) (fun hh=>hh)⟩
      ·have f1:¬ Int.tmod A.k 20=5:=by simpa using h91
       refine ab (kPv (an aa aa aa) aa (kPa aa aa (ad ?_)))
       exact fun a w st_=>⟨(Int.tmod A.k 20==6),by rw[Bool.eq_iff_iff];simp[f0,f1],st_.to (aF aa) (fun hh=>hh)⟩
    rintro cj hcj
    try simp only at hcj ⊢
    refine cg (σ':=[(91,.bool cj),(56,_),(9,_),(8,_),(7,_),(6,_),(5,_),(0,_),(1,_)]) (aF aa) ?_
    refine aW aa (fun h91=> ?_) (fun h91=> ?_)
    ·have g91:Int.tmod A.k 20=4∨Int.tmod A.k 20=5∨Int.tmod A.k 20=6:=by rw[hcj] at h91;simpa using h91
     have hcall:A.call M= .alloc (Int.tmod A.b 7) (Int.tmod A.a 4):=by unfold DoW.call;rw[if_neg g57,if_neg g77,if_neg g84,if_pos g91]
     refine ac (ab (kPv (aj (m:=_) yQ aa aa) aa (kPv (ae isAgg5 aa aa) aa (kPv (gQ aa aa) aa (kPv (bP runUnderlying5 runUnderlying3 aa) aa (kPv (aj (m:=_) lk aa aa) aa (kPv (ae isAgg5 aa aa) aa (kPv (gQ aa aa) aa (kPv (bP runUnderlying5 runUnderlying3 aa) aa (kPv (aZ aa (xG _ _ aa aa)) aa (aC aa (aN zeroValue38 aa) .free aa aa ?_)))))))))))
     rintro _ _ ⟨b11,rfl,rfl⟩
     refine aD aa (aI (vs:=_) sizeOf38 aa aa aa aa aa) .free aa ?_
     rintro _ _ rfl
     refine ad (ao [11,6,0,1] rfl (ac (ab (kPm aa aa (kPv (am isAgg38 sizeOf38 aa aa) aa ?_)))))
     refine aJ [2,2] ?_
     refine aY aa (aA call12 aa) (rh B _ bh h s hW (Int.tmod A.b 7) (Int.tmod A.a 4)) .free aa aa ?_ ?_
     rotate_left
     ·rintro _ _ ⟨s9,hm9,rfl,rfl⟩
      exact bz fun w hh=>⟨_,⟨s9,by rw[hcall];exact hm9,rfl,rfl⟩,hh.dp [1,1]⟩
     rintro _ _ ⟨a2,h2,s2,hm2,rfl,rfl⟩
     refine kPm aa aa (kPv (aB aa aa) aa (kPv (aB aa aa) aa (kPa aa aa (kPa aa aa (ad (ac (ab (kPm aa aa (kPv (am isAgg38 sizeOf38 aa aa) aa ?_)))))))))
     refine aJ [4] (aQ aa (aA call88 aa) (zC B _ bm M hM (Int.tmod A.b 7) (Int.tmod A.a 4)) .free aa aa ?_)
     rintro _ _ ⟨nb,c1,c2,nv,vv,hnb,rfl,rfl⟩
     refine kPm aa aa (kPv (aB aa aa) aa (kPv (aB aa aa) aa (kPa aa aa (kPa aa aa (ad (ao [15,14,13,12,6,0,1] rfl (ac (ab (kPm aa aa (kPm aa aa (kPv (an aa aa aa) aa ?_)))))))))))
     refine kPm aa aa ?_
     apply dr (tp:=123) (t:=119) (σ1:=[(119,_),(6,_),(0,_),(1,_)]) 4 rfl (aF rfl)
     ·intro hg1
      refine aq aa (ap aa) (.on aa aa (ah hg1)) aa aa (aq aa (ap aa) (.on aa aa (ah hg1)) aa aa (aq aa (an aa aa aa) (.on aa aa (ah hg1)) aa aa (kPv (aH aa hg1 aa) aa ?_)))
      exact ba aa (aF aa) (cV hg1)
     ·intro hg1
      refine ar aa (.on aa aa (ai hg1)) aa (ar aa (.on aa aa (ai hg1)) aa (ar aa (.on aa aa (ai hg1)) aa (kPv (aL aa hg1 aa) aa ?_)))
      exact ba aa (aF aa) (cW hg1)
     refine kPa aa aa (ad (az ?_))
     exact ax results28 aa (fun w hw=>⟨_,⟨[a2.1,a2.2],[(M.alloc (Int.tmod A.b 7) (Int.tmod A.a 4) nb c1 c2 nv vv).1.1,(M.alloc (Int.tmod A.b 7) (Int.tmod A.a 4) nb c1 c2 nv vv).1.2],h2,s2,(M.alloc (Int.tmod A.b 7) (Int.tmod A.a 4) nb c1 c2 nv vv).2,by rw[hcall];exact⟨a2,hm2,rfl⟩,by rw[hcall];exact⟨nb,c1,c2,nv,vv,hnb,rfl,rfl⟩,by rw[Dx],rfl⟩,((hw.dp [3,3]).pk [1,1])⟩)
    ·have g91:¬ (Int.tmod A.k 20=4∨Int.tmod A.k 20=5∨Int.tmod A.k 20=6):=by rw[hcj] at h91;simpa using h91
     refine ac (ab (kPv (an aa aa aa) aa (kPa aa aa (ad ?_))))
     refine aW aa (fun h124=> ?_) (fun h124=> ?_)
     ·have g124:Int.tmod A.k 20=7:=by simpa using h124
      have hcall:A.call M= .head (M.handle A.a):=by unfold DoW.call;rw[if_neg g57,if_neg g77,if_neg g84,if_neg g91,if_pos g124]
      refine ac (ab (kPm aa aa (kPm aa aa (aE aa (aA call27 aa) (cY [1,1] [2] (Br B _ bh h s hW (M.handle A.a))) .free aa aa ?_))))
      refine kPm aa aa (kPv (aB aa aa) aa (kPv (aB aa aa) aa (aC aa (aN zeroValue38 aa) .free aa aa ?_)))
      rintro _ _ ⟨b16,rfl,rfl⟩
      refine aD aa (aI (vs:=_) sizeOf38 aa aa aa aa aa) .free aa ?_
      rintro _ _ rfl
      refine kPa aa aa (ad (ao [17,16,7,6,0,1] rfl (ac (ab (kPm aa aa (kPm aa aa (aE aa (aA call89 aa) (cY [4] [1,1,1,1] (AZ B _ bm M hM (M.handle A.a))) .free aa aa ?_)))))))
      refine kPm aa aa (kPv (aB aa aa) aa (kPv (aB aa aa) aa (aC aa (aN zeroValue38 aa) .free aa aa ?_)))
      rintro _ _ ⟨b18,rfl,rfl⟩
      refine aD aa (aI (vs:=_) sizeOf38 aa aa aa aa aa) .free aa ?_
      rintro _ _ rfl
      refine kPa aa aa (ad (ao [19,18,17,16,6,0,1] rfl (ac (ab (kPm aa aa (kPm aa aa (kPv (an aa aa aa) aa (kPm aa aa ?_))))))))
      apply dr (tp:=145) (t:=141) (σ1:=[(141,_),(6,_),(0,_),(1,_)]) 4 rfl (aF rfl)
      ·intro hg2
       refine aq aa (am isAgg38 sizeOf38 aa aa) (.on aa aa (ah hg2)) aa aa ?_
       refine aq aa (am isAgg38 sizeOf38 aa aa) (.on aa aa (ah hg2)) aa aa ?_
       refine aq aa (Dn aa aa aa) (.on aa aa (ah hg2)) aa aa (kPv (aH aa hg2 aa) aa ?_)
       exact ba aa (aF aa) (cV hg2)
      ·intro hg2
       refine ar aa (.on aa aa (ai hg2)) aa (ar aa (.on aa aa (ai hg2)) aa (ar aa (.on aa aa (ai hg2)) aa (kPv (aL aa hg2 aa) aa ?_)))
       exact ba aa (aF aa) (cW hg2)
      refine kPa aa aa (ad (az ?_))
      exact ax results28 aa (fun w hw=>⟨_,⟨[(h.obj s (M.handle A.a)).1.1,(h.obj s (M.handle A.a)).1.2.1,(h.obj s (M.handle A.a)).2],[(M.head (M.handle A.a)).1.1,(M.head (M.handle A.a)).1.2,(M.head (M.handle A.a)).2],h,s,M,by rw[hcall];exact⟨rfl,rfl,rfl⟩,by rw[hcall];exact⟨rfl,rfl⟩,by rw[Fv],rfl⟩,(hw.dp [0,0,0])⟩)
     ·have g124:¬ (Int.tmod A.k 20=7):=by simpa using h124
      refine ac (ab (kPv (an aa aa aa) aa (kPa aa aa (ad ?_))))
      refine aW aa (fun h146=> ?_) (fun h146=> ?_)
      ·have g146:Int.tmod A.k 20=8:=by simpa using h146
       have hcall:A.call M= .read (M.handle A.a) A.i:=by unfold DoW.call;rw[if_neg g57,if_neg g77,if_neg g84,if_neg g91,if_neg g124,if_pos g146]
       refine ac (ab (kPm aa aa (kPm aa aa (kPm aa aa (aE aa (aA call21 aa) (cY [1,1] [2] (Bp B _ bh h s hW (M.handle A.a) A.i)) .free aa aa ?_)))))
       refine kPm aa aa (kPv (aB aa aa) aa (kPv (aB aa aa) aa (kPa aa aa (kPa aa aa (ad (ao [21,20,9,7,6,0,1] rfl (ac (ab (kPm aa aa (kPm aa aa (kPm aa aa ?_)))))))))))
       refine aE aa (aA call90 aa) (cY [3] [1,1,1] (AW B _ bm M hM (M.handle A.a) A.i)) .free aa aa ?_
       refine kPm aa aa (kPv (aB aa aa) aa (kPv (aB aa aa) aa (kPa aa aa (kPa aa aa (ad (ao [23,22,21,20,6,0,1] rfl (ac (ab (kPm aa aa (kPm aa aa (kPv (an aa aa aa) aa ?_)))))))))))
       refine kPm aa aa ?_
       apply dr (tp:=169) (t:=165) (σ1:=[(165,_),(6,_),(0,_),(1,_)]) 4 rfl (aF rfl)
       ·intro hg3
        refine aq aa (ap aa) (.on aa aa (ah hg3)) aa aa (aq aa (ap aa) (.on aa aa (ah hg3)) aa aa (aq aa (an aa aa aa) (.on aa aa (ah hg3)) aa aa (kPv (aH aa hg3 aa) aa ?_)))
        exact ba aa (aF aa) (cV hg3)
       ·intro hg3
        refine ar aa (.on aa aa (ai hg3)) aa (ar aa (.on aa aa (ai hg3)) aa (ar aa (.on aa aa (ai hg3)) aa (kPv (aL aa hg3 aa) aa ?_)))
        exact ba aa (aF aa) (cW hg3)
       refine kPa aa aa (ad (az ?_))
       exact ax results28 aa (fun w hw=>⟨_,⟨[(h.read s (M.handle A.a) A.i).1,(h.read s (M.handle A.a) A.i).2],[(M.read (M.handle A.a) A.i).1,(M.read (M.handle A.a) A.i).2],h,s,M,by rw[hcall];exact⟨rfl,rfl,rfl⟩,by rw[hcall];exact⟨rfl,rfl⟩,by rw[Dx],rfl⟩,(hw.dp [0])⟩)
      ·have g146:¬ (Int.tmod A.k 20=8):=by simpa using h146
       refine oJ (ι:=Bool) [56,9,8,7,6,5,0,1] (fun cj=>(cj=decide (Int.tmod A.k 20=9∨Int.tmod A.k 20=10))) (fun cj=>[(170,.bool cj)]) (fun cj=>tF b5 A::cy bh h::aG h.bd s::dI bm M::Fr) ?_ ?_
       ·skip
        refine ac (ab (kPv (an aa aa aa) aa (kPa aa aa (ad ?_))))
        refine aW aa (fun h170=> ?_) (fun h170=> ?_)
        ·have f0:Int.tmod A.k 20=9:=by simpa using h170
         refine ay ?_
         exact fun a w st_=>⟨(Int.tmod A.k 20==9),by rw[Bool.eq_iff_iff];simp[f0],st_.to (aF aa) (fun hh=>hh)⟩
        ·have f0:¬ Int.tmod A.k 20=9:=by simpa using h170
         refine ab (kPv (an aa aa aa) aa (kPa aa aa (ad (ao [170,56,9,8,7,6,5,0,1] rfl ?_))))
         exact fun a w st_=>⟨(Int.tmod A.k 20==10),by rw[Bool.eq_iff_iff];simp[f0],st_.to (aF aa) (fun hh=>hh)⟩
       rintro cj hcj
       try simp only at hcj ⊢
       refine cg (σ':=[(170,.bool cj),(56,_),(9,_),(8,_),(7,_),(6,_),(5,_),(0,_),(1,_)]) (aF aa) ?_
       refine aW aa (fun h170=> ?_) (fun h170=> ?_)
       ·have g170:Int.tmod A.k 20=9∨Int.tmod A.k 20=10:=by rw[hcj] at h170;simpa using h170
        have hcall:A.call M= .write (M.handle A.a) A.i A.v:=by unfold DoW.call;rw[if_neg g57,if_neg g77,if_neg g84,if_neg g91,if_neg g124,if_neg g146,if_pos g170]
        refine ac (cM [0,1,2,3,4,6,7,8,9,10,5,11,12,13] [5,11] [6,7,8,9,10] [5] [tF b5 A] Tryz.mixed (by kernel_rfl) ?_)
        refine aT aa aa aa (ap aa) .free aa (aT aa aa aa (ap aa) .free aa (aT aa aa aa (ap aa) .free aa (aT aa aa aa (aj (m:=_) yP aa aa) .free aa (aT aa aa aa (ae isAgg26 aa aa) .free aa (al aa aa aa (ap aa) .free aa (al aa aa aa (ap aa) .free aa (al aa aa aa (ap aa) .free aa (al aa aa aa (aj (m:=_) yP aa aa) .free aa (al aa aa aa (ae isAgg26 aa aa) .free aa (aU aa aa (aJ [1,1] ?_)))))))))))
        refine aY aa (aA call14 aa) (tg B _ bh h s hW (M.handle A.a) A.i A.v A.vw) .free aa aa ?_ ?_
        rotate_left
        ·rintro _ _ ⟨s9,hm9,rfl,rfl⟩
         exact bz fun w hh=>⟨_,⟨s9,by rw[hcall];exact hm9,rfl,rfl⟩,hh.dp [1]⟩
        rintro _ _ ⟨a2,h2,s2,hm2,rfl,rfl⟩
        refine ad (cN (aU aa aa (aJ [3] (aQ aa (aA call91 aa) (zt B _ bm M hM (M.handle A.a) A.i A.v) .free aa aa ?_))))
        rintro _ _ ⟨c1,c2,c3,rfl,rfl⟩
        refine ad (c9 aa (aT aa aa aa (an aa aa aa) .free aa (aT aa aa aa (bK aa) .free aa (cJ (ao [6,0,1] rfl (az ?_))))))
        exact ax results28 aa (fun w hw=>⟨_,⟨[a2],[(M.write (M.handle A.a) A.i A.v c1 c2 c3).1],h2,s2,(M.write (M.handle A.a) A.i A.v c1 c2 c3).2,by rw[hcall];exact⟨a2,hm2,rfl⟩,by rw[hcall];exact⟨c1,c2,c3,rfl,rfl⟩,by rw[wt],rfl⟩,((hw.dp [3]).pk [1,1])⟩)
       ·have g170:¬ (Int.tmod A.k 20=9∨Int.tmod A.k 20=10):=by rw[hcj] at h170;simpa using h170
        refine ac (ab (kPv (an aa aa aa) aa (kPa aa aa (ad ?_))))
        refine aW aa (fun h186=> ?_) (fun h186=> ?_)
        ·have g186:Int.tmod A.k 20=11:=by simpa using h186
         have hcall:A.call M= .ref (M.handle A.a) A.i:=by unfold DoW.call;rw[if_neg g57,if_neg g77,if_neg g84,if_neg g91,if_neg g124,if_neg g146,if_neg g170,if_pos g186]
         refine ac (ab (kPm aa aa (kPm aa aa (kPm aa aa (aJ [1,1] (cL aa (aA call25 aa) (CY B _ bh h s hW (M.handle A.a) A.i) .free aa aa ?_))))))
         refine kPm aa aa (kPv (aB aa aa) aa (kPv (aB aa aa) aa (kPa aa aa (kPa aa aa (ad (ao [25,24,9,7,6,0,1] rfl (ac (ab (kPm aa aa (kPm aa aa (kPm aa aa ?_)))))))))))
         refine aJ [3] (cL aa (aA call92 aa) (CL B _ bm M hM (M.handle A.a) A.i) .free aa aa ?_)
         refine kPm aa aa (kPv (aB aa aa) aa (kPv (aB aa aa) aa (kPa aa aa (kPa aa aa (ad (ao [27,26,25,24,6,0,1] rfl (ac (ab (kPm aa aa (kPm aa aa (kPv (an aa aa aa) aa ?_)))))))))))
         refine kPm aa aa ?_
         apply dr (tp:=209) (t:=205) (σ1:=[(205,_),(6,_),(0,_),(1,_)]) 4 rfl (aF rfl)
         ·intro hg4
          refine aq aa (ap aa) (.on aa aa (ah hg4)) aa aa (aq aa (ap aa) (.on aa aa (ah hg4)) aa aa (aq aa (an aa aa aa) (.on aa aa (ah hg4)) aa aa (kPv (aH aa hg4 aa) aa ?_)))
          exact ba aa (aF aa) (cV hg4)
         ·intro hg4
          refine ar aa (.on aa aa (ai hg4)) aa (ar aa (.on aa aa (ai hg4)) aa (ar aa (.on aa aa (ai hg4)) aa (kPv (aL aa hg4 aa) aa ?_)))
          exact ba aa (aF aa) (cW hg4)
         refine kPa aa aa (ad (az ?_))
         exact ax results28 aa (fun w hw=>⟨_,⟨[(h.ref s (M.handle A.a) A.i).1.1,(h.ref s (M.handle A.a) A.i).1.2],[(M.ref (M.handle A.a) A.i).1.1,(M.ref (M.handle A.a) A.i).1.2],(h.ref s (M.handle A.a) A.i).2,s,(M.ref (M.handle A.a) A.i).2,by rw[hcall];exact⟨rfl,rfl,rfl⟩,by rw[hcall];exact⟨rfl,rfl⟩,by rw[Dx],rfl⟩,((hw.dp [3]).pk [1,1])⟩)
        ·have g186:¬ (Int.tmod A.k 20=11):=by simpa using h186
         refine oJ (ι:=Bool) [56,9,8,7,6,5,0,1] (fun cj=>(cj=decide (Int.tmod A.k 20=12∨Int.tmod A.k 20=13))) (fun cj=>[(210,.bool cj)]) (fun cj=>tF b5 A::cy bh h::aG h.bd s::dI bm M::Fr) ?_ ?_
         ·skip
          refine ac (ab (kPv (an aa aa aa) aa (kPa aa aa (ad ?_))))
          refine aW aa (fun h210=> ?_) (fun h210=> ?_)
          ·have f0:Int.tmod A.k 20=12:=by simpa using h210
           refine ay ?_
           exact fun a w st_=>⟨(Int.tmod A.k 20==12),by rw[Bool.eq_iff_iff];simp[f0],st_.to (aF aa) (fun hh=>hh)⟩
          ·have f0:¬ Int.tmod A.k 20=12:=by simpa using h210
           refine ab (kPv (an aa aa aa) aa (kPa aa aa (ad ?_)))
           exact fun a w st_=>⟨(Int.tmod A.k 20==13),by rw[Bool.eq_iff_iff];simp[f0],st_.to (aF aa) (fun hh=>hh)⟩
         rintro cj hcj
         try simp only at hcj ⊢
         refine cg (σ':=[(210,.bool cj),(56,_),(9,_),(8,_),(7,_),(6,_),(5,_),(0,_),(1,_)]) (aF aa) ?_
         refine aW aa (fun h210=> ?_) (fun h210=> ?_)
         ·have g210:Int.tmod A.k 20=12∨Int.tmod A.k 20=13:=by rw[hcj] at h210;simpa using h210
          have hcall:A.call M= .point (M.handle A.a) A.i (M.handle A.c):=by unfold DoW.call;rw[if_neg g57,if_neg g77,if_neg g84,if_neg g91,if_neg g124,if_neg g146,if_neg g170,if_neg g186,if_pos g210]
          refine ac (ab (kPm aa aa (kPm aa aa (kPm aa aa (kPm aa aa (aJ [1,1] ?_))))))
          refine aY aa (aA call23 aa) (zM B _ bh h s hW (M.handle A.a) A.i (M.handle A.c)) .free aa aa ?_ ?_
          rotate_left
          ·rintro _ _ ⟨s9,hm9,rfl,rfl⟩
           exact bz fun w hh=>⟨_,⟨s9,by rw[hcall];exact hm9,rfl,rfl⟩,hh.dp [1]⟩
          rintro _ _ ⟨a2,h2,s2,hm2,rfl,rfl⟩
          refine kPm aa aa (kPm aa aa (kPm aa aa (kPm aa aa (aJ [3] (aQ aa (aA call93 aa) (zv B _ bm M hM (M.handle A.a) A.i (M.handle A.c)) .free aa aa ?_)))))
          rintro _ _ ⟨c1,c2,c3,rfl,rfl⟩
          refine kPv (an aa aa aa) aa (kPa aa aa (ad (ao [6,0,1] rfl (az ?_))))
          exact ax results28 aa (fun w hw=>⟨_,⟨[a2],[(M.point (M.handle A.a) A.i (M.handle A.c) c1 c2 c3).1],h2,s2,(M.point (M.handle A.a) A.i (M.handle A.c) c1 c2 c3).2,by rw[hcall];exact⟨a2,hm2,rfl⟩,by rw[hcall];exact⟨c1,c2,c3,rfl,rfl⟩,by rw[wt],rfl⟩,((hw.dp [3]).pk [1,1])⟩)
         ·have g210:¬ (Int.tmod A.k 20=12∨Int.tmod A.k 20=13):=by rw[hcj] at h210;simpa using h210
          refine ac (ab (kPv (an aa aa aa) aa (kPa aa aa (ad ?_))))
          refine aW aa (fun h224=> ?_) (fun h224=> ?_)
          ·have g224:Int.tmod A.k 20=14:=by simpa using h224
           have hcall:A.call M= .root A.i:=by unfold DoW.call;rw[if_neg g57,if_neg g77,if_neg g84,if_neg g91,if_neg g124,if_neg g146,if_neg g170,if_neg g186,if_neg g210,if_pos g224]
           refine ac (ab (kPm aa aa (kPm aa aa (aJ [1,1] (cL aa (aA call20 aa) (Bo B _ bh h s hW A.i) .free aa aa ?_)))))
           refine kPm aa aa (kPv (aB aa aa) aa (kPv (aB aa aa) aa (kPa aa aa (kPa aa aa (ad (ao [29,28,9,6,0,1] rfl (ac (ab (kPm aa aa (kPm aa aa (aJ [3] ?_)))))))))))
           refine cL aa (aA call94 aa) (AV B _ bm M hM A.i) .free aa aa ?_
           refine kPm aa aa (kPv (aB aa aa) aa (kPv (aB aa aa) aa (kPa aa aa (kPa aa aa (ad (ao [31,30,29,28,6,0,1] rfl (ac (ab (kPm aa aa (kPm aa aa (kPv (an aa aa aa) aa ?_)))))))))))
           refine kPm aa aa ?_
           apply dr (tp:=245) (t:=241) (σ1:=[(241,_),(6,_),(0,_),(1,_)]) 4 rfl (aF rfl)
           ·intro hg5
            refine aq aa (ap aa) (.on aa aa (ah hg5)) aa aa (aq aa (ap aa) (.on aa aa (ah hg5)) aa aa (aq aa (an aa aa aa) (.on aa aa (ah hg5)) aa aa (kPv (aH aa hg5 aa) aa ?_)))
            exact ba aa (aF aa) (cV hg5)
           ·intro hg5
            refine ar aa (.on aa aa (ai hg5)) aa (ar aa (.on aa aa (ai hg5)) aa (ar aa (.on aa aa (ai hg5)) aa (kPv (aL aa hg5 aa) aa ?_)))
            exact ba aa (aF aa) (cW hg5)
           refine kPa aa aa (ad (az ?_))
           exact ax results28 aa (fun w hw=>⟨_,⟨[(h.root s A.i).1.1,(h.root s A.i).1.2],[(M.root A.i).1.1,(M.root A.i).1.2],(h.root s A.i).2,s,(M.root A.i).2,by rw[hcall];exact⟨rfl,rfl,rfl⟩,by rw[hcall];exact⟨rfl,rfl⟩,by rw[Dx],rfl⟩,((hw.dp [3]).pk [1,1])⟩)
          ·have g224:¬ (Int.tmod A.k 20=14):=by simpa using h224
           refine oJ (ι:=Bool) [56,9,8,7,6,5,0,1] (fun cj=>(cj=decide (Int.tmod A.k 20=15∨Int.tmod A.k 20=16))) (fun cj=>[(246,.bool cj)]) (fun cj=>tF b5 A::cy bh h::aG h.bd s::dI bm M::Fr) ?_ ?_
           ·skip
            refine ac (ab (kPv (an aa aa aa) aa (kPa aa aa (ad ?_))))
            refine aW aa (fun h246=> ?_) (fun h246=> ?_)
            ·have f0:Int.tmod A.k 20=15:=by simpa using h246
             refine ay ?_
             exact fun a w st_=>⟨(Int.tmod A.k 20==15),by rw[Bool.eq_iff_iff];simp[f0],st_.to (aF aa) (fun hh=>hh)⟩
            ·have f0:¬ Int.tmod A.k 20=15:=by simpa using h246
             refine ab (kPv (an aa aa aa) aa (kPa aa aa (ad ?_)))
             exact fun a w st_=>⟨(Int.tmod A.k 20==16),by rw[Bool.eq_iff_iff];simp[f0],st_.to (aF aa) (fun hh=>hh)⟩
           rintro cj hcj
           try simp only at hcj ⊢
           refine cg (σ':=[(246,.bool cj),(56,_),(9,_),(8,_),(7,_),(6,_),(5,_),(0,_),(1,_)]) (aF aa) ?_
           refine aW aa (fun h246=> ?_) (fun h246=> ?_)
           ·have g246:Int.tmod A.k 20=15∨Int.tmod A.k 20=16:=by rw[hcj] at h246;simpa using h246
            have hcall:A.call M= .set A.i (M.handle A.c):=by unfold DoW.call;rw[if_neg g57,if_neg g77,if_neg g84,if_neg g91,if_neg g124,if_neg g146,if_neg g170,if_neg g186,if_neg g210,if_neg g224,if_pos g246]
            refine ac (ab (kPm aa aa (kPm aa aa (kPm aa aa (aJ [1,1] ?_)))))
            refine aY aa (aA call13 aa) (CX B _ bh h s hW A.i (M.handle A.c)) .free aa aa ?_ ?_
            rotate_left
            ·rintro _ _ ⟨s9,hm9,rfl,rfl⟩
             exact bz fun w hh=>⟨_,⟨s9,by rw[hcall];exact hm9,rfl,rfl⟩,hh.dp [1]⟩
            rintro _ _ ⟨a2,h2,s2,hm2,rfl,rfl⟩
            refine kPm aa aa (kPm aa aa (kPm aa aa (aJ [3] (aQ aa (aA call95 aa) (CK B _ bm M hM A.i (M.handle A.c)) .free aa aa ?_))))
            rintro _ _ ⟨c1,c2,c3,rfl,rfl⟩
            refine kPv (an aa aa aa) aa (kPa aa aa (ad (ao [6,0,1] rfl (az ?_))))
            exact ax results28 aa (fun w hw=>⟨_,⟨[a2],[(M.set A.i (M.handle A.c) c1 c2 c3).1],h2,s2,(M.set A.i (M.handle A.c) c1 c2 c3).2,by rw[hcall];exact⟨a2,hm2,rfl⟩,by rw[hcall];exact⟨c1,c2,c3,rfl,rfl⟩,by rw[wt],rfl⟩,((hw.dp [3]).pk [1,1])⟩)
           ·have g246:¬ (Int.tmod A.k 20=15∨Int.tmod A.k 20=16):=by rw[hcj] at h246;simpa using h246
            refine ac (ab (kPv (an aa aa aa) aa (kPa aa aa (ad ?_))))
            refine aW aa (fun h258=> ?_) (fun h258=> ?_)
            ·have g258:Int.tmod A.k 20=17:=by simpa using h258
             have hcall:A.call M= .drop (M.handle A.a):=by unfold DoW.call;rw[if_neg g57,if_neg g77,if_neg g84,if_neg g91,if_neg g124,if_neg g146,if_neg g170,if_neg g186,if_neg g210,if_neg g224,if_neg g246,if_pos g258]
             refine ac (ab (kPm aa aa (kPm aa aa (aJ [1,1] (cL aa (aA call26 aa) (zN B _ bh h s hW (M.handle A.a)) .free aa aa ?_)))))
             refine kPm aa aa (kPm aa aa (aJ [3] (cL aa (aA call96 aa) (A0 B _ bm M hM (M.handle A.a)) .free aa aa ?_)))
             refine kPv (an aa aa aa) aa (kPa aa aa (ad (ao [6,0,1] rfl (az ?_))))
             exact ax results28 aa (fun w hw=>⟨_,⟨[if (bi h.T.at_ (M.handle A.a)).isSome=true then 0 else 6],[(M.drop (M.handle A.a)).1],{h with T:=h.T.drop (M.handle A.a)},s,(M.drop (M.handle A.a)).2,by rw[hcall];exact⟨rfl,rfl,rfl⟩,by rw[hcall];exact⟨rfl,rfl⟩,by rw[wt],rfl⟩,((hw.dp [3]).pk [1,1])⟩)
            ·have g258:¬ (Int.tmod A.k 20=17):=by simpa using h258
             refine ac (ab (kPv (an aa aa aa) aa (kPa aa aa (ad (ao [267,6,5,0,1] rfl ?_)))))
             refine aW aa (fun h267=> ?_) (fun h267=> ?_)
             ·have g267:Int.tmod A.k 20=18:=by simpa using h267
              have hcall:A.call M= .step (Int.tmod A.b 9):=by unfold DoW.call;rw[if_neg g57,if_neg g77,if_neg g84,if_neg g91,if_neg g124,if_neg g146,if_neg g170,if_neg g186,if_neg g210,if_neg g224,if_neg g246,if_neg g258,if_pos g267]
              refine ac (ab (kPm aa aa (kPv (aj (m:=_) lk aa aa) aa (kPv (ae isAgg5 aa aa) aa (kPv (gQ aa aa) aa (kPv (bP runUnderlying5 runUnderlying3 aa) aa (aJ [1,1] ?_)))))))
              refine aY aa (aA call30 aa) (zK B _ bh h s hW hb (Int.tmod A.b 9) (by omega)) .free aa aa ?_ ?_
              rotate_left
              ·rintro _ _ ⟨s9,hm9,rfl,rfl⟩
               exact bz fun w hh=>⟨_,⟨s9,by rw[hcall];exact hm9,rfl,rfl⟩,hh.dp [1]⟩
              rintro _ _ ⟨d2,a2,h2,s2,hm2,rfl,rfl⟩
              refine kPm aa aa (kPv (aB aa aa) aa (kPv (aB aa aa) aa (kPa aa aa (kPa aa aa (ad (ao [33,32,6,5,0,1] rfl (ac (ab (kPm aa aa (kPv (aj (m:=_) lk aa aa) aa (kPv (ae isAgg5 aa aa) aa ?_)))))))))))
              refine kPv (gQ aa aa) aa (kPv (bP runUnderlying5 runUnderlying3 aa) aa (aJ [3] (cL aa (aA call97 aa) (AT B _ bm M hM (Int.tmod A.b 9) (by omega)) .free aa aa ?_)))
              refine kPm aa aa (kPv (aB aa aa) aa (kPv (aB aa aa) aa (kPa aa aa (kPa aa aa (ad (ao [35,34,33,32,6,0,1] rfl (ac (ab (kPm aa aa (kPm aa aa (kPv (rN runUnderlying4 aa aa aa) aa ?_)))))))))))
              refine kPm aa aa ?_
              apply dr (tp:=294) (t:=290) (σ1:=[(290,_),(6,_),(0,_),(1,_)]) 4 rfl (aF rfl)
              ·intro hg6
               refine aq aa (ap aa) (.on aa aa (ah hg6)) aa aa (aq aa (ap aa) (.on aa aa (ah hg6)) aa aa (aq aa (an aa aa aa) (.on aa aa (ah hg6)) aa aa (kPv (aH aa hg6 aa) aa ?_)))
               exact ba aa (aF aa) (cV hg6)
              ·intro hg6
               refine ar aa (.on aa aa (ai hg6)) aa (ar aa (.on aa aa (ai hg6)) aa (ar aa (.on aa aa (ai hg6)) aa (kPv (aL aa hg6 aa) aa ?_)))
               exact ba aa (aF aa) (cW hg6)
              refine kPa aa aa (ad (az ?_))
              exact ax results28 aa (fun w hw=>⟨_,⟨[bI d2,a2],[bI (M.step (Int.tmod A.b 9)).1.1,(M.step (Int.tmod A.b 9)).1.2],h2,s2,(M.step (Int.tmod A.b 9)).2,by rw[hcall];exact⟨d2,a2,hm2,rfl⟩,by rw[hcall];exact⟨rfl,rfl⟩,by rw[Fu],rfl⟩,((hw.dp [3]).pk [1,1])⟩)
             ·have g267:¬ (Int.tmod A.k 20=18):=by simpa using h267
              have hcall:A.call M= .collect:=by unfold DoW.call;rw[if_neg g57,if_neg g77,if_neg g84,if_neg g91,if_neg g124,if_neg g146,if_neg g170,if_neg g186,if_neg g210,if_neg g224,if_neg g246,if_neg g258,if_neg g267]
              refine ay (ac (ab (kPm aa aa (aJ [1,1] ?_))))
              refine aY aa (aA call24 aa) (nF B _ bh h s hW hb) .free aa aa ?_ ?_
              rotate_left
              ·rintro _ _ ⟨s9,hm9,rfl,rfl⟩
               exact bz fun w hh=>⟨_,⟨s9,by rw[hcall];exact hm9,rfl,rfl⟩,hh.dp [1]⟩
              rintro _ _ ⟨a2,h2,s2,hm2,rfl,rfl⟩
              refine kPm aa aa (aJ [3] (cL aa (aA call98 aa) (vy B _ bm M hM) .free aa aa ?_))
              refine kPv (an aa aa aa) aa (kPa aa aa (ad (ao [6] rfl (az ?_))))
              exact ax results28 aa (fun w hw=>⟨_,⟨[a2],[(M.collect).1],h2,s2,(M.collect).2,by rw[hcall];exact⟨a2,hm2,rfl⟩,by rw[hcall];exact⟨rfl,rfl⟩,by rw[wt],rfl⟩,((hw.dp [3]).pk [1,1])⟩)
theorem C2{B:World}{n:Nat}{D:List Deferred}{σ:Env}{b:Nat}{o:Bool}{S:bG}{Fr:List HP}{K:Act→World→Prop}(h:∀ bl o1 o2 M,(∀ Fr w,Holds B (dK b bl S o o1 o2::dz bl S.L::M::Fr) w→Holds B (mt o b S::Fr) w)→GO B n D σ (dK b bl S o o1 o2::dz bl S.L::M::Fr) K):GO B n D σ (mt o b S::Fr) K:=by
 cases o
 ·refine kY fun bl o1 o2=> ?_
  refine aK (fun w hh=>(hh.unpr (p:=True) trivial).back 2 (by simp)) (h bl o1 o2 (pr True) fun Fr w hh=> ?_)
  exact ei ((hh.front 2 aa).pr.2)
 ·refine nG fun bl o1 o2=> ?_
  refine aK (H':=dK b bl S true (some o1) (some o2)::dz bl S.L::grp [bJ .i64 cF o1 S.seen,bJ .i64 cF o2 S.dirty]::Fr) (fun w hh=> ?_) (h bl _ _ _ fun Fr w hh=> ?_)
  ·exact(Holds.ungrp (l:=[bJ .i64 cF o1 S.seen,bJ .i64 cF o2 S.dirty]) ((hh.front 2 aa).front 3 aa |>.front 1 aa)).back 2 (by simp)
  ·exact gj ((((hh.front 2 aa).grp).front 2 aa).front 3 aa |>.front 1 aa)
structure DV where
 used:Int
 reached:Int
 handles:Int
 records:Int
 open_:Bool
def HpS.stats(h:HpS)(s:Dev):DV:=⟨(h.blk s).used,s.reachSize h.c (h.blk s) (h.words++(h.blk s).rts),h.T.at_.length,h.S.L.n,h.o⟩
abbrev Ax(x:DV):Value:= .agg #[i64 x.used,i64 x.reached,i64 x.handles,i64 x.records,.bool x.open_]
theorem zi(B:World)(Fr:List HP)(bs bl:Nat)(S:bG)(o:Bool)(o1 o2:Option Nat):
 ∀ w,Holds B (dK bs bl S o o1 o2::Fr) w→Calls Tryz.prog 51 [ptr bs].toArray w (bB B (dK bs bl S o o1 o2::Fr) (.bool o)):=by
 refine au func51 aa ntmps51 aa (ac (ab (kPa aa aa (ad (ac (ab (kPm aa aa (kPv (ak aa) aa (kPv (aj (m:=_) eg aa aa) aa (kPv (ae isAgg4 aa aa) aa (kPa aa aa ?_)))))))))))
 refine ad (az ?_)
 exact ax results51 aa (fun w hw=>⟨rfl,hw⟩)
theorem oE(B:World)(Fr:List HP)(bh:Nat)(h:HpS)(s:Dev)(hW:dl h s):
 ∀ w,Holds B (cy bh h::aG h.bd s::Fr) w→Calls Tryz.prog 22 [ptr bh].toArray w (bB B (cy bh h::aG h.bd s::Fr) (Ax (h.stats s))):=by
 refine au func22 aa ntmps22 aa (ek fun bs bt x=>(aJ [1] (C2 fun bl o1 o2 M hM=>(aJ [3] ?_))))
 have hbk:=dM (s:=s) hW.c hW.u
 have hbl:(h.blk s).rts.length≤16:=fQ (s:=s) hW.c
 obtain⟨hwb,hwl⟩:=HpS.words_b hW
 have hwb2:∀ v∈h.words++(h.blk s).rts,0≤v∧v<18446744073709551616:=fun v hv=>(List.mem_append.1 hv).elim (hwb v) (gG hW.u v)
 refine ac (ab (aC aa (aN zeroValue58 aa) .free aa aa ?_))
 rintro _ _ ⟨b2,rfl,rfl⟩
 refine ad (ac (ab (kPm aa aa (aJ [1,6] (aQ aa (aA call52 aa) (fM B _ bh bs bt x h s hW.c hW.u) .free aa aa ?_)))))
 rintro _ _ ⟨sv,hsv,rfl,rfl⟩
 refine cP fun qb cb hqb hqbi=> ?_
 subst hqb
 refine aC aa (aN zeroValue95 aa) .free aa aa ?_
 rintro _ _ ⟨b3,rfl,rfl⟩
 refine aD aa (aI (vs:=_) sizeOf95 aa aa aa (by first | rfl | exact gK (by assumption)) rfl) .free rfl ?_
 rintro _ _ rfl
 refine ad (ac (aK (H':=row b3 [i64 (h.blk s).act,i64 (h.blk s).used,.slice qb (h.blk s).rts.length cb] 95::_) (fun w hh=>hh) (cM [0,1,2,3,4,5,6,7,8,9,10,11,14,15,16,17,20,21,22,23,24,25,26,28,29,30,31,12,13,18,19,27,32,33,34] [12,13,18,27,32,34] [0,1,2,3,4,5,6,7,8,9,10,14,15,16,17,20,21,22,23,24,25,26,28,29,30,31,19] [12,13,18,27,32] [cq bh bs bt x h,row b3 [i64 (h.blk s).act,i64 (h.blk s).used,.slice qb (h.blk s).rts.length cb] 95,dK bs bl h.S h.o o1 o2] Tryz.mixed (by kernel_rfl) ?_)))
 refine al aa aa aa (aj (m:=_) fj aa aa) .free aa (al aa aa aa (ae isAgg3 aa aa) .free aa (al aa aa aa (ap aa) .free aa (al aa aa aa (ak aa) .free aa (al aa aa aa (aj (m:=_) gO aa aa) .free aa (al aa aa aa (ae isAgg28 aa aa) .free aa (al aa aa aa (ap aa) .free aa (al aa aa aa (ak aa) .free aa (al aa aa aa (aj (m:=_) dW aa aa) .free aa (al aa aa aa (am isAgg40 sizeOf40 aa aa) .free aa ?_)))))))))
 refine al aa aa aa (am isAgg95 sizeOf95 aa aa) .free aa ?_
 refine aT aa aa aa (ap aa) .free aa (al aa aa aa (ap aa) .free aa (al aa aa aa (ak aa) .free aa (al aa aa aa (aj (m:=_) gN aa aa) .free aa (al aa aa aa (ae isAgg90 aa aa) .free aa (al aa aa aa (ap aa) .free aa (al aa aa aa (ak aa) .free aa (al aa aa aa (aj (m:=_) dt aa aa) .free aa (al aa aa aa (ae isAgg89 aa aa) .free aa (al aa aa aa (ak aa) .free aa (al aa aa aa (aj (m:=_) jv aa aa) .free aa (al aa aa aa (ae isAgg116 aa aa) .free aa ?_)))))))))))
 refine al aa aa aa (ap aa) .free aa (al aa aa aa (ak aa) .free aa (al aa aa aa (aj (m:=_) dt aa aa) .free aa (al aa aa aa (ae isAgg89 aa aa) .free aa (aU aa aa (aJ [2,7,2] (aQ aa (aA call74 aa) (C1 B _ bh bs bt x h s hW) .free aa aa ?_))))))
 rintro av _ ⟨hav,rfl⟩
 refine cP fun qa ca hqa hqai=> ?_
 subst hqa
 refine ad (cN (aJ [3] (aU aa aa (aE aa (aA call73 aa) (p5 B _ h.bd h.c hW.c (h.blk s) (.slice qb (h.blk s).rts.length cb) hbk aa s qa ca (h.words++(h.blk s).rts) hwb2 (by simp;omega) hqai (de (1 - 1) aa)) .free aa aa ?_))))
 refine ad (cN (aU aa aa (aJ [3] (aQ aa (aA call75 aa) (pm B _ bt h.T (by have:=hW.tl;omega)) .free aa aa ?_))))
 rintro rv _ rfl
 refine aK (fun w hh=>ww hh) (cP fun qn cn hqn hqi=> ?_)
 subst hqn
 refine ad (cN (al aa aa aa (bY aa runUnderlying125 ⟨_,rfl⟩ rfl) .free aa (aU aa aa (aE aa (aA call76 aa) (bU (q:=dz) (fun Fr=>yt _ Fr bl h.S.L)) .free aa aa ?_))))
 refine ad (cN (aJ [8] (aU aa aa (aE aa (aA call51 aa) (zi B _ bs bl h.S h.o o1 o2) .free aa aa ?_))))
 refine ad (cN (aT aa aa aa (aZ aa (oU _ _ _ _ _ aa aa aa aa aa)) .free aa (aU aa aa (aD aa (aI (vs:=_) sizeOf58 aa aa aa aa aa) .free aa ?_))))
 rintro _ _ rfl
 refine ad (c9 aa (cJ (ao [2] rfl (az ?_))))
 exact sQ results22 (.cellA aa isAgg58 sizeOf58 aa aa) (fun w hw=>⟨by simp[HpS.stats,cG];rfl,cz (bs:=bs) (bt:=bt) (x:=x) ((hM _ _ ((hw.dp [1,3,4,4,4]).pk [0,3,3,2,0,1])).front 1 aa)⟩)
theorem wX{s:Dev}(h:s.pow.lim<0):s.pow.out=false:=by unfold Pow.out;simp;omega
theorem uW{s:Dev}(h:s.pow.lim<0)(i v:Int):∃ a s',s.store i v= .ok a s'∧s'.pow.lim<0:=by
 unfold Dev.store
 split
 ·exact⟨_,_,rfl,h⟩
 ·rw[if_neg (by rw[wX h];decide)];exact⟨_,_,rfl,h⟩
theorem vR{s:Dev}(h:s.pow.lim<0)(i:Int):∃ a s',s.flush i= .ok a s'∧s'.pow.lim<0:=by
 unfold Dev.flush
 split
 ·exact⟨_,_,rfl,h⟩
 ·rw[if_neg (by rw[wX h];decide)];exact⟨_,_,rfl,h⟩
theorem vU{s:Dev}(h:s.pow.lim<0):∃ s',s.fence= .ok () s'∧s'.pow.lim<0:=by
 unfold Dev.fence
 rw[if_neg (by rw[wX h];decide)];exact⟨_,rfl,h⟩
theorem yg{c:Cfg}:∀ (k:Nat) (s:Dev),s.pow.lim<0→∃ s',jV undoS c k s= .ok () s'∧s'.pow.lim<0
 | 0,s,h=>⟨s,rfl,h⟩
 | k+1,s,h=>by
   unfold jV undoS
   obtain⟨a,s1,e1,h1⟩:=uW h (IntKind.i64.wrap (s.load (c.record k+1))) (s.load (c.record k+2))
   obtain⟨a2,s2,e2,h2⟩:=vR h1 (IntKind.i64.wrap (s.load (c.record k+1)))
   rw[e1]
   simp only[aX]
   rw[e2]
   simp only[aX]
   exact yg k s2 h2
theorem uR{L:ce}{s:Dev}(h:s.pow.lim<0):∃ L' s',L.truncate s= .ok L' s'∧s'.pow.lim<0:=by
 unfold ce.truncate
 split
 ·exact⟨_,_,rfl,h⟩
 ·obtain⟨a,s1,e1,h1⟩:=uW h 8 ((L.epoch+1)%4294967296)
  obtain⟨a2,s2,e2,h2⟩:=vR h1 8
  obtain⟨s3,e3,h3⟩:=vU h2
  rw[e1];simp only[aX];rw[e2];simp only[aX];rw[e3]
  exact⟨_,_,rfl,h3⟩
theorem Cm{L:ce}{s:Dev}(h:s.pow.lim<0):∃ L' s',L.undo s= .ok L' s'∧s'.pow.lim<0:=by
 unfold ce.undo
 obtain⟨s1,e1,h1⟩:=yg (c:=L.c) L.n.toNat s h
 rw[e1]
 simp only[aX]
 split
 ·obtain⟨s2,e2,h2⟩:=vU h1
  rw[e2];exact uR h2
 ·exact uR h1
def cpD(s:Dev)(pa:Nat):Dev:=⟨pa,⟨-1,0⟩,s.n,fun i=>(tab s.n s.now).getD i 0,fun i=>(tab s.n s.now).getD i 0,fun _=>none⟩
theorem DS{s:Dev}(hu:U64 s)(pa:Nat):U64 (cpD s pa):=fun i=>by
 show 0≤(tab s.n s.now).getD i 0∧(tab s.n s.now).getD i 0<_
 by_cases hi:i<s.n
 ·have e:tab s.n s.now=(List.range s.n).map s.now:=rfl
  rw[e,List.getD_eq_getElem?_getD]
  simp[hi];exact hu i
 ·rw[List.getD_eq_getElem?_getD,List.getElem?_eq_none (by rw[bu];omega)];decide
theorem SlR.tb{B:World}{H:List HP}{n b cap:Nat}{f:Nat→Value}{rest:List Value}{T:TypeId}{U:List Value→List HP}[gS H b (tab n f++rest) T U]:SlR B H (.slice (some ⟨b,0,none⟩) n cap) (tab n f):=
 SlR.row (cs:=Proofs.YtlcibdhmgclfjaaGreat.tab n f++rest) (T:=T) (U:=U) (by rw[List.drop_zero,List.take_append_of_le_length (by rw[bu];omega),List.take_of_length_le (by rw[bu];omega)]) (by rw[bu])
theorem CA{s:Dev}(h:s.readC.2=0):bC s.readC.1∧(s.n:Int)=s.readC.1.words:=by
 unfold Dev.readC at h ⊢
 split at h
 ·cases h
 split at h
 ·cases h
 split at h
 ·cases h
 ·rename_i h1 h2 h3
  rw[if_neg h1,if_neg h2,if_neg h3]
  simp only
  constructor
  ·exact Classical.byContradiction fun h4=>h3 (.inl h4)
  ·exact Classical.byContradiction fun h4=>h3 (.inr h4)
def vm(bd:Nat)(s:Dev)(e:Int):Prop:=
 (s.readC.2≠0∧e=s.readC.2)∨(s.readC.2=0∧0≤ly s s.readC.1 (cC bd s.readC.1 s).n.toNat 0∧e=9)∨
 (s.readC.2=0∧ly s s.readC.1 (cC bd s.readC.1 s).n.toNat 0<0∧∃ bc pa L1 t1,(cC bc s.readC.1 (cpD s pa)).undo (cpD s pa)= .ok L1 t1∧e=t1.check s.readC.1)
def ik(bd:Nat)(c:Cfg)(s:Dev):HpS:=⟨bd,c,⟨cC bd c s,0,0,[],[]⟩,false,⟨[],[],0⟩,none⟩
theorem zL(B:World)(Fr:List HP)(bd:Nat)(s:Dev)(hu:U64 s)(hn:s.n≤100000):
 ∀ w,Holds B (aG bd s::Fr) w→Calls Tryz.prog 19 [ptr bd].toArray w (Ret B (fun rv H'=>(∃ e,e≠0∧vm bd s e∧rv= .tuple #[.pointer none,i64 e]∧H'=aG bd s::Fr)∨(∃ bh L' s',vm bd s 0∧(cC bd s.readC.1 s).undo s= .ok L' s'∧rv= .tuple #[ptr bh,i64 0]∧H'=cy bh (ik bd s.readC.1 s')::aG bd s'::Fr)) (fun ch H'=>∃ s',vm bd s 0∧(cC bd s.readC.1 s).undo s= .off s'∧ch=dN∧H'=aG bd s'::Fr)):=by
 refine au func19 aa ntmps19 aa (mA bd fun hn1 hn2 hn3=>(ac (ab (kPa aa aa (kPa aa aa (ad (ac (ab (kPm aa aa (aE aa (aA call63 aa) (bU (q:=aG) (fun Fr=>tZ _ Fr bd s)) .free aa aa ?_))))))))))
 refine kPm aa aa (kPv (aB aa aa) aa (kPv (aB aa aa) aa (aC aa (aN zeroValue40 aa) .free aa aa ?_)))
 rintro _ _ ⟨b4,rfl,rfl⟩
 refine aD aa (aI (vs:=_) sizeOf40 aa aa aa aa aa) .free aa ?_
 rintro _ _ rfl
 refine kPa aa aa (ad (ac (ac (ab (kPm aa aa (kPv (an aa aa aa) aa (ad ?_)))))))
 refine aW aa (fun h15=> ?_) (fun h15=> ?_)
 ·have hc0:s.readC.2≠0:=by simpa using h15
  refine ac (ab (kPm aa aa (kPa aa aa (kPa aa aa (ad (ao [3,2,4,0] rfl (az ?_)))))))
  exact bg results19 aa aa (fun w hw=>⟨_,.inl ⟨_,hc0,.inl ⟨hc0,rfl⟩,rfl,rfl⟩,(hw.dp [0])⟩)
 ·have hc0:s.readC.2=0:=by simpa using h15
  have hc:=(CA hc0).1
  have hLw:dZ (cC bd s.readC.1 s):=jH hc
  refine ay (ac (ab (kPm aa aa (kPv (am isAgg40 sizeOf40 aa aa) aa ?_))))
  refine aJ [1] (aQ aa (aA call64 aa) (lO B _ bd s s.readC.1 hc) .free aa aa ?_)
  rintro _ _ ⟨bl,rfl,rfl⟩
  refine kPa aa aa (ad (ao [6,4,3,2,0] rfl (ac (ac (ab (kPm aa aa (aE aa (aA call65 aa) (Bc B _ bl (cC bd s.readC.1 s) s hLw) .free aa aa ?_)))))))
  refine kPv (an aa aa aa) aa (ad ?_)
  refine aW aa (fun h22=> ?_) (fun h22=> ?_)
  ·have hg:0≤ly s s.readC.1 (cC bd s.readC.1 s).n.toNat 0:=by
    have h9:0≤ly s (cC bd s.readC.1 s).c (cC bd s.readC.1 s).n.toNat 0:=by simpa using h22
    exact h9
   refine ac (ab (kPa aa aa (kPa aa aa (ad (az ?_)))))
   exact bg results19 aa aa (fun w hw=>⟨_,.inl ⟨9,by decide,.inr (.inl ⟨hc0,hg,rfl⟩),rfl,rfl⟩,(hw.dp [0,1])⟩)
  ·have hg:ly s s.readC.1 (cC bd s.readC.1 s).n.toNat 0<0:=by
    have h9:ly s (cC bd s.readC.1 s).c (cC bd s.readC.1 s).n.toNat 0<0:=by simpa using h22
    exact h9
   refine ay (ac (ab (aQ aa (aA call35 aa) (t7 _ _ _) .free aa aa ?_)))
   rintro _ _ ⟨pb,rfl,rfl⟩
   refine kPm aa aa (aJ [2] (aQ aa (aA call42 aa) (zq _ _ bd s) .free aa aa ?_))
   rintro _ _ ⟨bw,rest,rfl,rfl⟩
   refine aJ [2] (aQ aa (aA call66 aa) (ym B _ pb ⟨-1,0⟩ _ (tab s.n s.now) (by rw[bu];omega) (by rw[bu];omega) (by rw[na];exact SlR.tb)) .free aa aa ?_)
   rintro _ _ ⟨bc,rfl,rfl⟩
   refine aK (H':=aG bc (cpD s pb)::_) (fun w hh=>by unfold cpD;rw[bu,show(s.n+7) / 8*8=s.n by omega] at hh;exact hh) ?_
   obtain⟨L1,t1,hu1,_⟩:=Cm (s:=cpD s pb) (L:=cC bc s.readC.1 (cpD s pb)) (show(-1:Int)<0 by decide)
   have hk1:=As (jH hc) hu1
   have hut1:=hk1.1 (DS hu pb)
   refine kPa aa aa (ad (ao [7,6,4,3,2,0] rfl (ac (ab (kPm aa aa (kPv (am isAgg40 sizeOf40 aa aa) aa ?_))))))
   refine aQ aa (aA call64 aa) (lO B _ bc (cpD s pb) s.readC.1 hc) .free aa aa ?_
   rintro _ _ ⟨bl2,rfl,rfl⟩
   refine aY aa (aA call67 aa) (q6 B _ bl2 (cC bc s.readC.1 (cpD s pb)) (cpD s pb) (jH hc)) .free aa aa ?_ ?_
   rotate_left
   ·rintro _ _ ⟨s9,hm9, -, -⟩
    cases hu1.symm.trans hm9
   rintro _ _ ⟨L9,t9,hm9,rfl,rfl⟩
   cases hu1.symm.trans hm9
   refine aK (H':=dz bl2 _::aG bc t1::_) (fun w hh=>hh) (ad (ac (ac (aJ [1] (ab (kPm aa aa (kPv (am isAgg40 sizeOf40 aa aa) aa ?_)))))))
   refine aE aa (aA call68 aa) (mn B _ bc t1 s.readC.1 hc hut1) .free aa aa ?_
   refine kPa aa aa (ad (ao [8,6,4,3,2,0] rfl (ac (ab (kPm aa aa (kPv (an aa aa aa) aa (ad ?_)))))))
   refine aW aa (fun h35=> ?_) (fun h35=> ?_)
   ·have hk:t1.check s.readC.1≠0:=by simpa using h35
    refine ac (ab (kPm aa aa (kPa aa aa (kPa aa aa (ad (az ?_))))))
    exact bg results19 aa aa (fun w hw=>⟨_,.inl ⟨_,hk,.inr (.inr ⟨hc0,hg,bc,pb,L1,t1,hu1,rfl⟩),rfl,rfl⟩,(hw.dp [0,0,0,1,1])⟩)
   ·have hk:t1.check s.readC.1=0:=by simpa using h35
    have hE:vm bd s 0:= .inr (.inr ⟨hc0,hg,bc,pb,L1,t1,hu1,hk.symm⟩)
    refine ay (ac (ab (kPm aa aa (aJ [4,3] ?_))))
    refine aY aa (aA call67 aa) (q6 B _ bl (cC bd s.readC.1 s) s hLw) .free aa aa ?_ ?_
    rotate_left
    ·rintro _ _ ⟨s9,hm9,rfl,rfl⟩
     exact bz fun w hh=>⟨_,⟨s9,hE,hm9,rfl,rfl⟩,(show Holds B (dz bl _::aG bd s9::_) w from hh).dp [0,1,1,1,1]⟩
    rintro _ _ ⟨L3,s2,hm3,rfl,rfl⟩
    refine aK (H':=dz bl _::aG bd s2::_) (fun w hh=>hh) (ad (ac (aJ [5] (aK (H':=row b4 [i64 s.readC.1.log,i64 s.readC.1.roots,i64 s.readC.1.space] 40::_) (fun w hh=>hh) (cM [0,1,2,3,4,5,6,7,8,9] [4,5,7] [0,1] [4,5] [row b4 [i64 s.readC.1.log,i64 s.readC.1.roots,i64 s.readC.1.space] 40] Tryz.mixed (by kernel_rfl) ?_)))))
    refine al aa aa aa (ap aa) .free aa (al aa aa aa (am isAgg40 sizeOf40 aa aa) .free aa ?_)
    refine aT aa aa aa (ap aa) .free aa (aT aa aa aa (am isAgg40 sizeOf40 aa aa) .free aa ?_)
    refine aU aa aa (aJ [2] (aQ aa (aA call69 aa) (tU B _ bd s2 s.readC.1 hc) .free aa aa ?_))
    rintro _ _ ⟨bs,rfl,rfl⟩
    refine ad (cN (aU aa aa (aQ aa (aA call70 aa) (yE _ _) .free aa aa ?_)))
    rintro _ _ ⟨bt,rfl,rfl⟩
    refine ad (cN ?_)
    refine aT aa aa aa (aZ aa (rU _ _ _ _ _ _ (by first | rfl | assumption) (by first | rfl | assumption) (by first | rfl | assumption))) .free rfl ?_;refine aU aa aa ?_;refine aC aa (bx aa) .free aa aa ?_
    rintro _ _ ⟨b46,rfl,rfl⟩
    refine ad (c9 aa (aT aa aa aa (bK aa) .free aa (aT aa aa aa (bK aa) .free aa (cJ (ao [3,2] rfl (az ?_))))))
    exact bg results19 aa aa (fun w hw=>⟨_,.inr ⟨b46,L3,s2,hE,hm3,rfl,rfl⟩,vE (h:=ik bd s.readC.1 s2) (bs:=bs) (bt:=bt) (x:=0) aa aa ((hw.dp [4,4,4,4,4]).pk [0,1])⟩)
def kA{α:Type}(m:Out α)(ok:α→Dev→Prop)(off:Dev→Prop):Prop:=match m with
 | .ok a s=>ok a s
 | .off s=>off s
theorem kA.bind{α β:Type}{m:Out α}{f:α→Dev→Out β}{ok:α→Dev→Prop}{ok':β→Dev→Prop}{off:Dev→Prop}(h:kA m ok off)(g:∀ a s,ok a s→kA (f a s) ok' off):kA (m.then f) ok' off:=by
 cases m with
 | ok a s=>exact g a s h
 | off s=>exact h
theorem kA.mono{α:Type}{m:Out α}{ok ok':α→Dev→Prop}{off off':Dev→Prop}(h:kA m ok off)(f:∀ a s,ok a s→ok' a s)(g:∀ s,off s→off' s):kA m ok' off':=by
 cases m with
 | ok a s=>exact f a s h
 | off s=>exact g s h
structure lB(lo hi:Int)(J:Dev→Prop):Prop where
 n:∀ s,J s→0≤lo∧hi≤s.n
 st:∀ s i v,J s→lo≤i→i<hi→0≤v→v<18446744073709551616→J (s.up.st i.toNat v)
 fl:∀ s i,J s→lo≤i→i<hi→J (s.up.fl i.toNat)
 fe:∀ s,J s→J s.up.fe
abbrev r8(J:Dev→Prop)(s:Dev):Prop:=J s∧s.pow.out=true
def pz(m:Int→Int)(i v:Int):Int→Int:=fun j=>if j=i then v else m j
theorem lB.has{lo hi:Int}{J:Dev→Prop}(h:lB lo hi J){s:Dev}(hs:J s){i:Int}(h1:lo≤i)(h2:i<hi):s.has i=true:=by
 have:=h.n s hs
 unfold Dev.has;simp;omega
theorem Cr{s:Dev}{i v:Int}(h:s.has i=true):(s.up.st i.toNat v).load=pz s.load i v:=by
 funext j
 unfold Dev.has at h
 simp only[Bool.and_eq_true,decide_eq_true_eq] at h
 unfold pz Dev.load
 have e:(s.up.st i.toNat v).has j=s.has j:=rfl
 rw[e]
 by_cases hj:j=i
 ·subst hj
  rw[if_pos rfl,if_pos (by unfold Dev.has;simp;omega)]
  show upd s.now j.toNat v j.toNat=v
  simp[upd]
 ·rw[if_neg hj]
  by_cases hh:s.has j=true
  ·rw[if_pos hh,if_pos hh]
   unfold Dev.has at hh
   simp only[Bool.and_eq_true,decide_eq_true_eq] at hh
   show upd s.now i.toNat v j.toNat=s.now j.toNat
   unfold upd
   rw[if_neg (by omega)]
  ·rw[if_neg hh,if_neg hh]
theorem lB.store{lo hi:Int}{J:Dev→Prop}(h:lB lo hi J){s:Dev}(hs:J s){i v:Int}(h1:lo≤i)(h2:i<hi)(h3:0≤v)(h4:v<18446744073709551616):
 kA (s.store i v) (fun a s'=>a=0∧J s'∧s'.load=pz s.load i v) (r8 J):=by
 have hh:=h.has hs h1 h2
 unfold Dev.store
 rw[if_neg (by rw[hh];decide)]
 by_cases hp:s.pow.out=true
 ·rw[if_pos hp];exact⟨hs,hp⟩
 ·rw[if_neg hp];exact⟨rfl,h.st s i v hs h1 h2 h3 h4,Cr hh⟩
theorem lB.flush{lo hi:Int}{J:Dev→Prop}(h:lB lo hi J){s:Dev}(hs:J s){i:Int}(h1:lo≤i)(h2:i<hi):
 kA (s.flush i) (fun a s'=>a=0∧J s'∧s'=s.up.fl i.toNat) (r8 J):=by
 have hh:=h.has hs h1 h2
 unfold Dev.flush
 rw[if_neg (by rw[hh];decide)]
 by_cases hp:s.pow.out=true
 ·rw[if_pos hp];exact⟨hs,hp⟩
 ·rw[if_neg hp];exact⟨rfl,h.fl s i hs h1 h2,rfl⟩
theorem lB.fence{lo hi:Int}{J:Dev→Prop}(h:lB lo hi J){s:Dev}(hs:J s):
 kA s.fence (fun _ s'=>J s'∧s'=s.up.fe) (r8 J):=by
 unfold Dev.fence
 by_cases hp:s.pow.out=true
 ·rw[if_pos hp];exact⟨hs,hp⟩
 ·rw[if_neg hp];exact⟨h.fe s hs,rfl⟩
theorem lB.cpy{lo hi:Int}{J:Dev→Prop}(h:lB lo hi J):∀ (k:Nat) (i a f:Int) (s:Dev),J s→0≤i→lo≤a+i→a+i+k≤hi→(f+i+k≤a+i∨a+i+k≤f+i)→(∀ x,0≤s.load x∧s.load x<18446744073709551616)→
 kA (pB k i a f s) (fun _ s'=>J s'∧s'.load=fun j=>if a+i≤j∧j<a+i+k then s.load (f+(j - a)) else s.load j) (r8 J)
 | 0,i,a,f,s,hs,_,_,_,_,_=>by
   refine⟨hs,?_⟩
   funext j
   rw[if_neg (by omega)]
 | k+1,i,a,f,s,hs,hi0,h1,h2,h3,hu=>by
   rw[kx]
   refine(h.store hs (i:=a+i) (v:=s.load (f+i)) h1 (by omega) (hu _).1 (hu _).2).bind fun r s1 ⟨_,hs1,e1⟩=> ?_
   have hu1:∀ x,0≤s1.load x∧s1.load x<18446744073709551616:=fun x=>by rw[e1];unfold pz;split;exact hu _;exact hu _
   refine(h.cpy k (i+1) a f s1 hs1 (by omega) (by omega) (by omega) (by omega) hu1).mono (fun _ s2 ⟨hs2,e2⟩=>⟨hs2,?_⟩) (fun _ h=>h)
   rw[e2]
   funext j
   rw[e1]
   unfold pz
   by_cases hj:j=a+i
   ·subst hj
    rw[if_neg (by omega),if_pos rfl,if_pos (by omega)]
    congr 1;omega
   ·by_cases hr:a+(i+1)≤j∧j<a+(i+1)+k
    ·rw[if_pos hr,if_neg (by omega),if_pos (by omega)]
    ·rw[if_neg hr,if_neg hj,if_neg (by omega)]
def osz(m:Int→Int)(k:Int):Int:=(unp (m k)).1+1
def orf(m:Int→Int)(k:Int):Int:=(unp (m k)).2.1
theorem cu(m:Int→Int)(k:Int):1≤osz m k∧osz m k≤65∧0≤orf m k∧orf m k+1≤osz m k:=by
 have:=sE (m k);unfold osz orf;omega
def gq(m:Int→Int):Int→List Int→Int→Prop
 | a,[],e=>a=e
 | a,k::t,e=>k=a∧(unp (m a)).2.2=true∧gq m (a+osz m a) t e
theorem gq.le{m:Int→Int}:∀ {L:List Int} {a e:Int},gq m a L e→a≤e
 | [],a,e,h=>Int.le_of_eq h
 | k::t,a,e,h=>by have:=h.2.2.le;have:=cu m a;omega
theorem gq.mem{m:Int→Int}:∀ {L:List Int} {a e k:Int},gq m a L e→k∈L→a≤k∧k+osz m k≤e∧(unp (m k)).2.2=true
 | [],_,_,_,_,h=>by cases h
 | x::t,a,e,k,h,hk=>by
   obtain⟨rfl,h2,h3⟩:=h
   have:=cu m x
   rcases List.mem_cons.1 hk with rfl | hk
   ·exact⟨Int.le_refl _,h3.le,h2⟩
   ·have:=gq.mem h3 hk;exact⟨by omega,this.2⟩
theorem gq.disj{m:Int→Int}:∀ {L:List Int} {a e k k':Int},gq m a L e→k∈L→k'∈L→k<k'→k+osz m k≤k'
 | [],_,_,_,_,_,h,_,_=>by cases h
 | x::t,a,e,k,k',h,hk,hk',hlt=>by
   obtain⟨rfl,h2,h3⟩:=h
   rcases List.mem_cons.1 hk with e1 | hk2
   ·rcases List.mem_cons.1 hk' with e2 | hk3
    ·omega
    ·subst e1;exact(gq.mem h3 hk3).1
   ·rcases List.mem_cons.1 hk' with e2 | hk3
    ·have:=(gq.mem h3 hk2).1;have:=cu m x;omega
    ·exact gq.disj h3 hk2 hk3 hlt
def iz(f:Int→Int)(l:List Int):Int:=(l.map f).sum
theorem gq.sum{m:Int→Int}:∀ {L:List Int} {a e:Int},gq m a L e→e=a+iz (osz m) L
 | [],a,e,h=>by simp[iz];exact h.symm
 | x::t,a,e,h=>by
   obtain⟨rfl,h2,h3⟩:=h
   have:=gq.sum h3
   simp only[iz,List.map_cons,List.sum_cons] at this ⊢
   omega
theorem o9{f:Int→Int}(hf:∀ x,0≤f x):∀ l,0≤iz f l
 | []=>by simp[iz]
 | x::t=>by have:=o9 hf t;have:=hf x;simp only[iz,List.map_cons,List.sum_cons] at*;omega
theorem qj{f:Int→Int}:∀ {l:List Int} {x:Int},x∈l→iz f l=f x+iz f (l.erase x)
 | [],_,h=>by cases h
 | y::t,x,h=>by
   by_cases e:y=x
   ·subst e;simp[iz]
   ·have h2:x∈t:=by rcases List.mem_cons.1 h with h | h;exact absurd h.symm e;exact h
    have:=qj (f:=f) h2
    rw[List.erase_cons_tail (by simpa using e)]
    simp only[iz,List.map_cons,List.sum_cons] at*
    omega
theorem lG{f:Int→Int}(hf:∀ x,0≤f x):∀ {l l':List Int},l.Nodup→(∀ x∈l,x∈l')→iz f l≤iz f l'
 | [],l',_,_=>by have:=o9 hf l';simpa [iz] using this
 | x::t,l',hn,hs=>by
   rw[List.nodup_cons] at hn
   have h1:=qj (f:=f) (hs x (List.mem_cons_self ..))
   have h2:=lG hf (l:=t) (l':=l'.erase x) hn.2 (fun y hy=>(List.mem_erase_of_ne (by intro e;subst e;exact hn.1 hy)).2 (hs y (List.mem_cons_of_mem _ hy)))
   simp only[iz,List.map_cons,List.sum_cons] at*
   omega
theorem sG{f:Int→Int}(hf:∀ x,0≤f x){l l':List Int}(h1:l.Nodup)(h2:l'.Nodup)(h:∀ x,x∈l↔x∈l'):iz f l=iz f l':=
 Int.le_antisymm (lG hf h1 fun x=>(h x).1) (lG hf h2 fun x=>(h x).2)
structure kD(c:Cfg)(b:Blk)(m:Int→Int)(L:List Int):Prop where
 tile:gq m (b.place c 0) L (b.place c b.used)
 names:∀ k∈L,∀ i,0≤i→i<orf m k→m (k+1+i)=0∨m (k+1+i)∈L
 roots:∀ w∈b.rts,w=0∨w∈L
inductive Rch (m:Int→Int) (ws:List Int):Int→Prop
 | word {w:Int}:w∈ws→w≠0→Rch m ws w
 | name {k i:Int}:Rch m ws k→0≤i→i<orf m k→m (k+1+i)≠0→Rch m ws (m (k+1+i))
theorem oG{c:Cfg}(hc:bC c){b:Blk}(hb:fg c b){m:Int→Int}{L:List Int}(h:kD c b m L){k:Int}(hk:k∈L):c.frm b.act≤k∧k+osz m k≤c.frm b.act+b.used∧24<k∧k<20000:=by
 have h1:=h.tile.mem hk
 have h2:=hb.act;have h3:=hb.used
 have h4:=gE hc (k:=b.act) (by omega)
 have:=cu m k;have:=hc.s1
 have h5:(2 - b.act)*c.space=c.space∨(2 - b.act)*c.space=2*c.space:=by
  rcases (by omega:b.act=0∨b.act=1) with e | e<;>rw[e]
  ·exact .inr (by omega)
  ·exact .inl (by omega)
 unfold Blk.place at h1
 omega
theorem mh{c:Cfg}(hc:bC c){b:Blk}(hb:fg c b){s:Dev}{L:List Int}(h:kD c b s.load L){k:Int}(hk:k∈L):s.objOf c b k=((osz s.load k - 1,orf s.load k,k),0)∧b.has c k=true:=by
 have h1:=h.tile.mem hk
 have h2:=oG hc hb h hk
 have h5:=cu s.load k
 have hh:b.has c k=true:=by unfold Blk.has;simp;omega
 refine⟨?_,hh⟩
 unfold Dev.objOf
 rw[if_neg (by rw[hh];simp;omega),if_neg (by rw[h1.2.2];unfold osz at h1;simp;omega)]
 unfold osz orf
 simp
def eW(m:Int→Int):Int→List (Int×Int)→Int→Prop
 | a,[],e=>a=e
 | a,q::t,e=>q.2=a∧eW m (a+osz m q.1) t e
theorem eW.le{m:Int→Int}:∀ {W:List (Int×Int)} {a e:Int},eW m a W e→a≤e
 | [],a,e,h=>Int.le_of_eq h
 | q::t,a,e,h=>by have:=h.2.le;have:=cu m q.1;omega
theorem eW.mem{m:Int→Int}:∀ {W:List (Int×Int)} {a e:Int} {q:Int×Int},eW m a W e→q∈W→a≤q.2∧q.2+osz m q.1≤e
 | [],_,_,_,_,h=>by cases h
 | x::t,a,e,q,h,hq=>by
   obtain⟨h1,h2⟩:=h
   have:=cu m x.1
   rcases List.mem_cons.1 hq with rfl | hq
   ·have:=h2.le;omega
   ·have:=eW.mem h2 hq;omega
theorem eW.snoc{m:Int→Int}{k:Int}:∀ {W:List (Int×Int)} {a e:Int},eW m a W e→eW m a (W++[(k,e)]) (e+osz m k)
 | [],a,e,h=>by cases h;exact⟨rfl,rfl⟩
 | x::t,a,e,h=>⟨h.1,h.2.snoc⟩
theorem eW.sum{m:Int→Int}:∀ {W:List (Int×Int)} {a e:Int},eW m a W e→e=a+iz (osz m) (W.map Prod.fst)
 | [],a,e,h=>by cases h;simp[iz]
 | x::t,a,e,h=>by
   have:=eW.sum h.2
   simp only[iz,List.map_cons,List.sum_cons] at*
   omega
theorem eW.app{m:Int→Int}:∀ {W V:List (Int×Int)} {a e x:Int},eW m a W x→eW m a (W++V) e→eW m x V e
 | [],V,a,e,x,h,h2=>by cases h;exact h2
 | q::t,V,a,e,x,h,h2=>eW.app h.2 h2.2
theorem eW.disj{m:Int→Int}:∀ {W:List (Int×Int)} {a e:Int} {q q':Int×Int},eW m a W e→q∈W→q'∈W→q.2<q'.2→q.2+osz m q.1≤q'.2
 | [],_,_,_,_,_,h,_,_=>by cases h
 | x::t,a,e,q,q',h,hq,hq',hlt=>by
   have hx:=cu m x.1
   rcases List.mem_cons.1 hq with e1 | hq2
   ·rcases List.mem_cons.1 hq' with e2 | hq3
    ·subst e1;subst e2;omega
    ·subst e1;have:=(eW.mem h.2 hq3).1;have:=h.1;omega
   ·rcases List.mem_cons.1 hq' with e2 | hq3
    ·subst e2;have:=(eW.mem h.2 hq2).1;have:=h.1;omega
    ·exact eW.disj h.2 hq2 hq3 hlt
theorem eW.inj{m:Int→Int}:∀ {W:List (Int×Int)} {a e:Int} {q q':Int×Int},eW m a W e→q∈W→q'∈W→q.2=q'.2→q=q'
 | [],_,_,_,_,_,h,_,_=>by cases h
 | x::t,a,e,q,q',h,hq,hq',heq=>by
   have hx:=cu m x.1
   rcases List.mem_cons.1 hq with e1 | hq2
   ·rcases List.mem_cons.1 hq' with e2 | hq3
    ·rw[e1,e2]
    ·subst e1;have:=(eW.mem h.2 hq3).1;have:=h.1;omega
   ·rcases List.mem_cons.1 hq' with e2 | hq3
    ·subst e2;have:=(eW.mem h.2 hq2).1;have:=h.1;omega
    ·exact eW.inj h.2 hq2 hq3 heq
theorem eW.tile{m m':Int→Int}:∀ {W:List (Int×Int)} {a e:Int},eW m a W e→(∀ q∈W,m' q.2=m q.1)→(∀ q∈W,(unp (m q.1)).2.2=true)→gq m' a (W.map Prod.snd) e
 | [],a,e,h,_,_=>h
 | q::t,a,e,h,h1,h2=>by
   have e1:=h1 q (List.mem_cons_self ..)
   obtain⟨rfl,h3⟩:=h
   refine⟨rfl,by rw[e1];exact h2 q (List.mem_cons_self ..),?_⟩
   rw[show osz m' q.2=osz m q.1 by unfold osz;rw[e1]]
   exact h3.tile (fun x hx=>h1 x (List.mem_cons_of_mem _ hx)) (fun x hx=>h2 x (List.mem_cons_of_mem _ hx))
theorem yp{W:List (Int×Int)}{w:Int}(h:w∉W.map Prod.fst):bi W w=none:=by
 induction W with
 | nil=>rfl
 | cons x t ih=>
   rw[List.map_cons,List.mem_cons] at h
   unfold bi
   rw[if_neg (fun e=>h (.inl e.symm)),ih (fun hm=>h (.inr hm))]
def tr(W:List (Int×Int))(w:Int):Int:=(bi W w).getD 0
theorem xZ{W:List (Int×Int)}(hn:(W.map Prod.fst).Nodup){q:Int×Int}(hq:q∈W):tr W q.1=q.2:=by
 unfold tr
 have:bi W q.1=some q.2:=by
  induction W with
  | nil=>cases hq
  | cons x t ih=>
    rw[List.map_cons,List.nodup_cons] at hn
    unfold bi
    rcases List.mem_cons.1 hq with rfl | hq
    ·rw[if_pos rfl]
    ·rw[if_neg (fun e=>hn.1 (by rw[e];exact List.mem_map_of_mem hq))];exact ih hn.2 hq
 rw[this];rfl
theorem mF{W:List (Int×Int)}{w:Int}(h:w∉W.map Prod.fst):tr W w=0:=by
 unfold tr;rw[yp h];rfl
theorem D3{W V:List (Int×Int)}{w:Int}(h:w∈W.map Prod.fst):tr (W++V) w=tr W w:=by
 unfold tr
 have:bi (W++V) w=bi W w:=by
  induction W with
  | nil=>cases h
  | cons x t ih=>
    rw[List.map_cons,List.mem_cons] at h
    rw[List.cons_append]
    unfold bi
    split
    ·rfl
    ·rename_i hne;exact ih (h.resolve_left fun e=>hne e.symm)
 rw[this]
structure GcH(c:Cfg)(b:Blk)(m0:Int→Int)(L:List Int)(lo hi:Int):Prop where
 hc:bC c
 hb:fg c b
 heap:kD c b m0 L
 lo_:lo=c.frm (1 - b.act)
 hi_:hi=lo+c.space
 u:∀ x,0≤m0 x∧m0 x<18446744073709551616
theorem GcH.apart{c:Cfg}{b:Blk}{m0:Int→Int}{L:List Int}{lo hi:Int}(G:GcH c b m0 L lo hi):(c.frm b.act+c.space≤lo∨hi≤c.frm b.act)∧24<lo∧hi≤c.words∧hi≤20000∧c.active+2+c.roots≤lo:=by
 have h1:=G.hb.act
 have h2:=gE G.hc (k:=1 - b.act) (by omega)
 have h3:=G.lo_;have h4:=G.hi_
 have h6:=G.hc.s1;have h7:=G.hc.s2
 have h5:=dU (n:=c.space) (by omega)
 have e0:c.frm 0=gm (c.root c.roots):=by simp[Cfg.frm]
 have e1:c.frm 1=gm (c.root c.roots)+gm c.space:=by simp[Cfg.frm]
 rcases (by omega:b.act=0∨b.act=1) with e | e
 ·rw[e] at h2 h3 ⊢;rw[show(1:Int) - 0=1 from rfl] at h2 h3;rw[e0];rw[e1] at h2 h3;omega
 ·rw[e] at h2 h3 ⊢;rw[show(1:Int) - 1=0 from rfl] at h2 h3;rw[e1];rw[e0] at h2 h3;omega
structure CI(c:Cfg)(b:Blk)(m0:Int→Int)(L:List Int)(lo:Int)(ws:List Int)(S:bE)(m:Int→Int)(p:Int):Prop where
 cc:S.c=c
 bb:S.b=b
 tt:S.to_=lo
 nd:(S.went.map Prod.fst).Nodup
 inL:∀ q∈S.went,q.1∈L
 offs:eW m0 lo S.went S.free
 out:∀ j,j<lo∨S.free≤j→m j=m0 j
 hd:∀ q∈S.went,m q.2=m0 q.1
 cp:∀ q∈S.went,∀ j,0≤j→j+1<osz m0 q.1→m (q.2+1+j)=if j<orf m0 q.1∧q.2+1+j<p then tr S.went (m0 (q.1+1+j)) else m0 (q.1+1+j)
 dn:∀ q∈S.went,∀ j,0≤j→j<orf m0 q.1→q.2+1+j<p→m0 (q.1+1+j)=0∨m0 (q.1+1+j)∈S.went.map Prod.fst
 rc:∀ q∈S.went,Rch m0 ws q.1
 u:∀ x,0≤m x∧m x<18446744073709551616
section
variable {c:Cfg} {b:Blk} {m0 m:Int→Int} {L ws:List Int} {lo hi p:Int} {S:bE} {J:Dev→Prop} {s:Dev}
theorem CI.free{c:Cfg}(G:GcH c b m0 L lo hi)(h:CI c b m0 L lo ws S m p):lo≤S.free∧S.free≤lo+b.used∧S.free≤hi:=by
 have h1:=h.offs.le
 have h2:=h.offs.sum
 have h3:=G.heap.tile.sum
 have h4:=lG (f:=osz m0) (fun x=>by have:=cu m0 x;omega) h.nd (fun x hx=>by obtain⟨q,hq,rfl⟩:=List.mem_map.1 hx;exact h.inL q hq)
 have h5:=G.hb.used;have h6:=G.hi_
 unfold Blk.place at h3
 omega
theorem GcH.zero(G:GcH c b m0 L lo hi):(0:Int)∉L:=fun h=>by have:=oG G.hc G.hb G.heap h;omega
theorem CI.zero(G:GcH c b m0 L lo hi)(h:CI c b m0 L lo ws S m p):(0:Int)∉S.went.map Prod.fst:=fun hm=>by
 obtain⟨q,hq,e⟩:=List.mem_map.1 hm
 exact G.zero (e▸h.inL q hq)
theorem CI.old(G:GcH c b m0 L lo hi)(h:CI c b m0 L lo ws S m p){k j:Int}(hk:k∈L)(h0:0≤j)(h1:j<osz m0 k):m (k+j)=m0 (k+j):=by
 have h2:=oG G.hc G.hb G.heap hk
 have h3:=G.apart;have h4:=h.free G;have h5:=G.hb.used;have h6:=G.hi_
 exact h.out _ (by omega)
theorem CI.copied(G:GcH c b m0 L lo hi)(hJ:lB lo hi J)(h:CI c b m0 L lo ws S s.load p)(hs:J s){w:Int}(hw:w=0∨w∈L)(hr:w≠0→Rch m0 ws w)(hp:p≤S.free):
 kA (S.copied s w) (fun r s'=>J s'∧CI c b m0 L lo ws r.2 s'.load p∧r.1=tr r.2.went w∧(w=0∨w∈r.2.went.map Prod.fst)∧(∃ V,r.2.went=S.went++V)∧r.2.scan=S.scan∧r.2.todo=S.todo∧r.2.done=S.done∧S.free≤r.2.free) (r8 J):=by
 have hfr:=h.free G
 unfold bE.copied
 by_cases hm:(bi S.went w).isSome=true
 ·rw[if_pos hm]
  refine⟨hs,h,rfl,.inr ?_,⟨[],by simp⟩,rfl,rfl,rfl,Int.le_refl _⟩
  apply Classical.byContradiction
  intro hn
  rw[yp hn] at hm;cases hm
 rw[if_neg hm]
 have hmn:bi S.went w=none:=by
  cases hx:bi S.went w with
  | none=>rfl
  | some v=>rw[hx] at hm;exact absurd aa hm
 rcases hw with rfl | hw
 ·have h2:S.b.has S.c 0=false:=by
   cases hx:S.b.has S.c 0 with
   | false=>rfl
   | true=>rw[h.bb,h.cc] at hx;have:=jX G.hc G.hb hx;omega
  rw[if_pos h2]
  exact⟨hs,h,by unfold tr;rw[hmn];rfl,.inl aa,⟨[],by simp⟩,rfl,rfl,rfl,Int.le_refl _⟩
 have hb0:=oG G.hc G.hb G.heap hw
 have hz:=cu m0 w
 have hlw:s.load w=m0 w:=by have:=h.old G hw (j:=0) (Int.le_refl 0) (by omega);simpa using this
 have hob:s.objOf S.c S.b w=((osz m0 w - 1,orf m0 w,w),0)∧S.b.has S.c w=true:=by
  rw[h.cc,h.bb]
  have h1:=G.heap.tile.mem hw
  have hh:b.has c w=true:=by unfold Blk.has;simp;omega
  refine⟨?_,hh⟩
  unfold Dev.objOf
  rw[if_neg (by rw[hh];simp;omega),if_neg (by rw[hlw,h1.2.2];unfold osz at h1;simp;omega),hlw]
  unfold osz orf
  simp
 rw[if_neg (by rw[hob.2];decide),if_neg (by rw[hob.1];simp),hob.1]
 have hap:=G.apart;have hus:=G.hb.used;have hhi:=G.hi_
 simp only
 rw[show((osz m0 w - 1)+1).toNat=(osz m0 w).toNat by congr 1;omega]
 
 have hfit:S.free+osz m0 w≤hi:=by
  have hnk:w∉S.went.map Prod.fst:=fun hx=>by
   obtain⟨q,hq,e⟩:=List.mem_map.1 hx
   have:=xZ h.nd hq
   unfold tr at this
   rw[e,hmn] at this
   have h1:=(h.offs.mem hq).1
   simp at this;omega
  have h2:=h.offs.sum
  have h3:=G.heap.tile.sum
  have h4:=lG (f:=osz m0) (l:=w::S.went.map Prod.fst) (l':=L) (fun x=>by have:=cu m0 x;omega) (List.nodup_cons.2 ⟨hnk,h.nd⟩) (fun x hx=>by
   rcases List.mem_cons.1 hx with rfl | hx
   ·exact hw
   ·obtain⟨q,hq,rfl⟩:=List.mem_map.1 hx;exact h.inL q hq)
  unfold Blk.place at h3
  simp only[iz,List.map_cons,List.sum_cons] at h2 h3 h4
  omega
 refine(hJ.cpy (osz m0 w).toNat 0 S.free w s hs (Int.le_refl 0) (by omega) (by omega) (by omega) h.u).bind fun _ s' ⟨hs',e'⟩=> ?_
 have hk0:w∉S.went.map Prod.fst:=i0 hmn
 have e1:mset S.went w S.free=S.went++[(w,S.free)]:=dO hmn
 have hmem:∀ j,s'.load j=if S.free≤j∧j<S.free+osz m0 w then m0 (w+(j - S.free)) else s.load j:=fun j=>by
  rw[e']
  show(if S.free+0≤j∧j<S.free+0+ ↑(osz m0 w).toNat then s.load (w+(j - S.free)) else s.load j)=_
  by_cases hj:S.free≤j∧j<S.free+osz m0 w
  ·rw[if_pos (by omega),if_pos hj,h.old G hw (by omega) (by omega)]
  ·rw[if_neg (by omega),if_neg hj]
 have htr:∀ x,x=0∨x∈S.went.map Prod.fst→tr (S.went++[(w,S.free)]) x=tr S.went x:=fun x hx=>by
  rcases hx with rfl | hx
  ·rw[mF (h.zero G),mF]
   rw[List.map_append,List.mem_append]
   exact fun hx=>hx.elim (h.zero G) (fun hx=>by simp at hx;omega)
  ·exact D3 hx
 show J s'∧CI c b m0 L lo ws {S with free:=S.free+(osz m0 w - 1+1),went:=mset S.went w S.free} s'.load p∧_
 rw[show S.free+(osz m0 w - 1+1)=S.free+osz m0 w by omega,e1]
 refine⟨hs',⟨h.cc,h.bb,h.tt,?_,fun q hq=> ?_,h.offs.snoc,fun j hj=> ?_,fun q hq=> ?_,fun q hq j h0 h1=> ?_,fun q hq j h0 h1 h2=> ?_,fun q hq=> ?_,fun x=> ?_⟩,?_,.inr (by simp),⟨_,rfl⟩,rfl,rfl,rfl,by simp only;omega⟩
 ·rw[List.map_append,List.nodup_append]
  exact⟨h.nd,by simp,fun a ha b' hb'=>by simp at hb';subst hb';intro e;subst e;exact hk0 ha⟩
 ·rcases List.mem_append.1 hq with hq | hq
  ·exact h.inL q hq
  ·rw[List.mem_singleton.1 hq];exact hw
 ·simp only at hj
  rw[hmem,if_neg (by omega)];exact h.out j (by omega)
 ·rcases List.mem_append.1 hq with hq | hq
  ·have:=h.offs.mem hq;have:=cu m0 q.1
   rw[hmem,if_neg (by omega)];exact h.hd q hq
  ·rw[List.mem_singleton.1 hq,hmem,if_pos (by simp only;omega)];simp
 ·rcases List.mem_append.1 hq with hq | hq
  ·have:=h.offs.mem hq
   rw[hmem,if_neg (by omega),h.cp q hq j h0 h1]
   by_cases hc:j<orf m0 q.1∧q.2+1+j<p
   ·rw[if_pos hc,if_pos hc];exact(htr _ (h.dn q hq j h0 hc.1 hc.2)).symm
   ·rw[if_neg hc,if_neg hc]
  ·rw[List.mem_singleton.1 hq] at h1 ⊢
   simp only at h1 ⊢
   rw[hmem,if_pos (by omega),if_neg (by omega)]
   congr 1;omega
 ·rcases List.mem_append.1 hq with hq | hq
  ·rcases h.dn q hq j h0 h1 h2 with hz | hz
   ·exact .inl hz
   ·exact .inr (by rw[List.map_append];exact List.mem_append_left _ hz)
  ·rw[List.mem_singleton.1 hq] at h2;simp only at h2;omega
 ·rcases List.mem_append.1 hq with hq | hq
  ·exact h.rc q hq
  ·rw[List.mem_singleton.1 hq];exact hr (by omega)
 ·rw[hmem];split
  ·exact G.u _
  ·exact h.u x
 ·have:=xZ (W:=S.went++[(w,S.free)]) (by
   rw[List.map_append,List.nodup_append]
   exact⟨h.nd,by simp,fun a ha b' hb'=>by simp at hb';subst hb';intro e;subst e;exact hk0 ha⟩) (q:=(w,S.free)) (by simp)
  exact this.symm
end
section
variable {c:Cfg} {b:Blk} {m0 m:Int→Int} {L ws:List Int} {lo hi p:Int} {S:bE} {J:Dev→Prop} {s:Dev}
theorem CI.names(G:GcH c b m0 L lo hi)(h:CI c b m0 L lo ws S m p){q:Int×Int}(hq:q∈S.went){i:Int}(h0:0≤i)(h1:i<orf m0 q.1):m0 (q.1+1+i)=0∨m0 (q.1+1+i)∈L:=G.heap.names _ (h.inL q hq) i h0 h1
theorem CI.tr_b(G:GcH c b m0 L lo hi)(h:CI c b m0 L lo ws S m p)(w:Int):0≤tr S.went w∧tr S.went w<18446744073709551616:=by
 by_cases hw:w∈S.went.map Prod.fst
 ·obtain⟨q,hq,rfl⟩:=List.mem_map.1 hw
  rw[xZ h.nd hq]
  have h1:=h.offs.mem hq
  have h2:=h.free G;have h3:=G.apart;have:=cu m0 q.1
  omega
 ·rw[mF hw];omega
theorem CI.field(G:GcH c b m0 L lo hi)(h:CI c b m0 L lo ws S m p){q:Int×Int}(hq:q∈S.went){i:Int}(h0:0≤i)(h1:i<orf m0 q.1)(hp:p=q.2+1+i)(hn:m0 (q.1+1+i)=0∨m0 (q.1+1+i)∈S.went.map Prod.fst):
 CI c b m0 L lo ws S (pz m p (tr S.went (m0 (q.1+1+i)))) (p+1):=by
 have hz:=cu m0 q.1
 have hm:=h.offs.mem hq
 have hsame:∀ q'∈S.went,∀ j,0≤j→j+1<osz m0 q'.1→q'.2+1+j=p→q'=q∧j=i:=fun q' hq' j g0 g1 e=>by
  have:q'.2=q.2:=by
   rcases Int.lt_trichotomy q'.2 q.2 with hl | he | hl
   ·have:=h.offs.disj hq' hq hl;omega
   ·exact he
   ·have:=h.offs.disj hq hq' hl;omega
  exact⟨h.offs.inj hq' hq this,by omega⟩
 refine⟨h.cc,h.bb,h.tt,h.nd,h.inL,h.offs,fun j hj=> ?_,fun q' hq'=> ?_,fun q' hq' j g0 g1=> ?_,fun q' hq' j g0 g1 g2=> ?_,h.rc,fun x=> ?_⟩
 ·unfold pz;rw[if_neg (by omega)];exact h.out j hj
 ·unfold pz
  have hz':=cu m0 q'.1
  rw[if_neg]
  ·exact h.hd q' hq'
  ·intro e
   rcases Int.lt_trichotomy q'.2 q.2 with hl | he | hl
   ·have:=h.offs.disj hq' hq hl;omega
   ·omega
   ·have:=h.offs.disj hq hq' hl;omega
 ·unfold pz
  by_cases e:q'.2+1+j=p
  ·obtain⟨rfl,rfl⟩:=hsame q' hq' j g0 g1 e
   rw[if_pos e,if_pos ⟨h1,by omega⟩]
  ·rw[if_neg e,h.cp q' hq' j g0 g1]
   by_cases hc:j<orf m0 q'.1∧q'.2+1+j<p
   ·rw[if_pos hc,if_pos ⟨hc.1,by omega⟩]
   ·rw[if_neg hc,if_neg (fun hx=>hc ⟨hx.1,by omega⟩)]
 ·by_cases e:q'.2+1+j=p
  ·obtain⟨rfl,rfl⟩:=hsame q' hq' j g0 (by have:=cu m0 q'.1;omega) e
   exact hn
  ·exact h.dn q' hq' j g0 g1 (by omega)
 ·unfold pz;split
  ·exact h.tr_b G _
  ·exact h.u x
theorem CI.skip(h:CI c b m0 L lo ws S m p){q:Int×Int}(hq:q∈S.went)(hp:p=q.2+1+orf m0 q.1):CI c b m0 L lo ws S m (q.2+osz m0 q.1):=by
 have hz:=cu m0 q.1
 have key:∀ q'∈S.went,∀ j,0≤j→j<orf m0 q'.1→(q'.2+1+j<p↔q'.2+1+j<q.2+osz m0 q.1):=fun q' hq' j g0 g1=>by
  have hz':=cu m0 q'.1
  rcases Int.lt_trichotomy q'.2 q.2 with hl | he | hl
  ·have:=h.offs.disj hq' hq hl;omega
  ·have:=h.offs.inj hq' hq he;subst this;omega
  ·have:=h.offs.disj hq hq' hl;omega
 refine⟨h.cc,h.bb,h.tt,h.nd,h.inL,h.offs,h.out,h.hd,fun q' hq' j g0 g1=> ?_,fun q' hq' j g0 g1 g2=> ?_,h.rc,h.u⟩
 ·rw[h.cp q' hq' j g0 g1]
  by_cases hc:j<orf m0 q'.1
  ·have:=key q' hq' j g0 hc
   by_cases hd:q'.2+1+j<p
   ·rw[if_pos ⟨hc,hd⟩,if_pos ⟨hc,this.1 hd⟩]
   ·rw[if_neg (fun x=>hd x.2),if_neg (fun x=>hd (this.2 x.2))]
  ·rw[if_neg (fun x=>hc x.1),if_neg (fun x=>hc x.1)]
 ·exact h.dn q' hq' j g0 g1 ((key q' hq' j g0 g1).2 g2)
theorem ze{m:Int→Int}{p v:Int}(h:m p=v):pz m p v=m:=by
 funext j;unfold pz;split
 ·rename_i e;rw[e,h]
 ·rfl
theorem CI.refs(G:GcH c b m0 L lo hi)(hJ:lB lo hi J)(k0:Int):∀ (n:Nat) (i:Int) (S:bE) (s:Dev),0≤i→(n:Int)+i=orf m0 k0→CI c b m0 L lo ws S s.load (S.scan+1+i)→(k0,S.scan)∈S.went→J s→
 kA (jG n i S s) (fun S' s'=>J s'∧CI c b m0 L lo ws S' s'.load (S'.scan+1+orf m0 k0)∧S'.scan=S.scan∧S'.todo=S.todo∧S'.done=S.done∧(∃ V,S'.went=S.went++V)∧S.free≤S'.free) (r8 J)
 | 0,i,S,s,hi0,hn,h,hq,hs=>by
   have e:i=orf m0 k0:=by simpa using hn
   rw[e] at h
   exact⟨hs,h,rfl,rfl,rfl,⟨[],by simp⟩,Int.le_refl _⟩
 | n+1,i,S,s,hi0,hn,h,hq,hs=>by
   have hz:=cu m0 k0
   have hi1:i<orf m0 k0:=by omega
   have hm:=h.offs.mem hq
   have hfr:=h.free G;have hap:=G.apart
   have hx:s.load (S.scan+1+i)=m0 (k0+1+i):=by
    have:=h.cp _ hq i hi0 (by simp only;omega)
    rw[if_neg (by simp only;omega)] at this
    exact this
   have hin:=h.names G hq hi0 hi1
   simp only at hin
   rw[gk,hx]
   by_cases h0:m0 (k0+1+i)=0
   ·rw[if_pos h0]
    have h1:=h.field G hq hi0 hi1 rfl (.inl h0)
    simp only at h1
    rw[ze (by rw[hx,h0,mF (h.zero G)])] at h1
    have:=CI.refs G hJ k0 n (i+1) S s (by omega) (by omega) (by rw[show S.scan+1+(i+1)=S.scan+1+i+1 by omega];exact h1) hq hs
    exact this
   ·rw[if_neg h0]
    refine(h.copied G hJ hs hin (fun _=> .name (h.rc _ hq) hi0 hi1 h0) (by simp only at hm;omega)).bind fun r s1 ⟨hs1,g1,g2,g3,⟨V,g4⟩,g5,g6,g7,g8⟩=> ?_
    have hq1:(k0,S.scan)∈r.2.went:=by rw[g4];exact List.mem_append_left _ hq
    have hb:=g1.tr_b G (m0 (k0+1+i))
    simp only at hm
    refine(hJ.store hs1 (i:=S.scan+1+i) (v:=r.1) (by omega) (by omega) (by rw[g2];exact hb.1) (by rw[g2];exact hb.2)).bind fun a s2 ⟨_,hs2,e2⟩=> ?_
    have h2:=g1.field G hq1 hi0 hi1 rfl g3
    simp only at h2
    rw[←g2] at h2
    have:=CI.refs G hJ k0 n (i+1) r.2 s2 (by omega) (by omega) (by rw[g5,e2,show S.scan+1+(i+1)=S.scan+1+i+1 by omega];exact h2) (by rw[g5];exact hq1) hs2
    refine this.mono (fun S' s' ⟨k1,k2,k3,k4,k5,⟨V',k6⟩,k7⟩=>⟨k1,k2,k3.trans g5,k4.trans g6,k5.trans g7,⟨V++V',by rw[k6,g4,List.append_assoc]⟩,by omega⟩) (fun _ h=>h)
structure SI(c:Cfg)(b:Blk)(m0:Int→Int)(L:List Int)(lo:Int)(ws:List Int)(S:bE)(s:Dev):Prop where
 ci:CI c b m0 L lo ws S s.load S.scan
 bd:∃ W V,S.went=W++V∧eW m0 lo W S.scan
 td:∃ pre,ws=pre++S.todo∧∀ w∈pre,w=0∨w∈S.went.map Prod.fst
 dn:S.done=false
theorem SI.scan(h:SI c b m0 L lo ws S s):lo≤S.scan∧S.scan≤S.free:=by
 obtain⟨W,V,e,h1⟩:=h.bd
 have h2:=h.ci.offs
 rw[e] at h2
 exact⟨h1.le,(h1.app h2).le⟩
def Dur(lo hi:Int)(s:Dev):Prop:=∀ i:Nat,lo≤i→i<hi→s.kept i=s.now i∧s.q (i / 8)=none
structure DI(c:Cfg)(b:Blk)(m0:Int→Int)(L:List Int)(lo:Int)(ws:List Int)(S:bE)(s:Dev):Prop where
 ci:CI c b m0 L lo ws S s.load S.free
 ws:∀ w∈ws,w=0∨w∈S.went.map Prod.fst
 dur:Dur lo S.free s
theorem lB.keepN(hJ:lB lo hi J):∀ (f:Nat) (i e:Int) (s:Dev),lo≤i→e≤hi→i%8=0→e - i<f→J s→(∀ k:Nat,lo≤k→(k:Int)<i→s.q (k / 8)=some fun x=>s.now (k / 8*8+x))→
 kA (keepN f i e s) (fun _ s'=>J s'∧s'.load=s.load∧s'.now=s.now∧∀ k:Nat,lo≤k→(k:Int)<e→s'.q (k / 8)=some fun x=>s'.now (k / 8*8+x)) (r8 J)
 | 0,i,e,s,_,_,_,hf,hs,hq=>by
   refine⟨hs,rfl,rfl,fun k h1 h2=>hq k h1 (by omega)⟩
 | f+1,i,e,s,h1,h2,h3,hf,hs,hq=>by
   rw[fA]
   by_cases h4:i<e
   ·rw[if_pos h4]
    have h0:=(hJ.n s hs).1
    refine(hJ.flush hs (i:=i) h1 (by omega)).bind fun _ s1 ⟨_,hs1,e1⟩=> ?_
    subst e1
    refine(hJ.keepN f (i+8) e _ (by omega) h2 (by omega) (by omega) hs1 fun k k1 k2=> ?_).mono (fun _ s' ⟨g1,g2,g3,g4⟩=>⟨g1,g2,g3,g4⟩) (fun _ h=>h)
    show upd s.q (i.toNat / 8) (some fun x=>s.now (i.toNat / 8*8+x)) (k / 8)=some fun x=>s.now (k / 8*8+x)
    unfold upd
    by_cases hk:k / 8=i.toNat / 8
    ·rw[if_pos hk,hk]
    ·rw[if_neg hk];exact hq k k1 (by omega)
   ·rw[if_neg h4]
    exact⟨hs,rfl,rfl,fun k k1 k2=>hq k k1 (by omega)⟩
theorem CR{c:Cfg}{k:Int}:c.frm k%8=0:=by
 unfold Cfg.frm gm
 have:k*((c.space+7) / 8*8)=(k*((c.space+7) / 8))*8:=by rw[Int.mul_assoc]
 rw[this];omega
theorem SI.keep(G:GcH c b m0 L lo hi)(hJ:lB lo hi J)(h:SI c b m0 L lo ws S s)(hs:J s)(hc:S.scan=S.free)(ht:S.todo=[]):
 kA (S.keep s) (fun _ s'=>J s'∧DI c b m0 L lo ws {S with done:=true} s') (r8 J):=by
 have hfr:=h.ci.free G
 have hto:=h.ci.tt
 have hci:=h.ci
 rw[hc] at hci
 have hws:∀ w∈ws,w=0∨w∈S.went.map Prod.fst:=by
  obtain⟨pre,e,h1⟩:=h.td
  rw[ht,List.append_nil] at e
  rw[e];exact h1
 unfold bE.keep
 refine(hJ.keepN _ S.to_ S.free s (by omega) hfr.2.2 (by rw[hto,G.lo_];exact CR) (by omega) hs (fun k k1 k2=>by omega)).bind fun _ s1 ⟨hs1,e1,e2,hq⟩=> ?_
 by_cases hlt:S.to_<S.free
 ·rw[if_pos hlt]
  refine(hJ.fence hs1).mono (fun _ s2 ⟨hs2,e3⟩=>⟨hs2,?_⟩) (fun _ h=>h)
  subst e3
  have el:s1.up.fe.load=s.load:=e1▸rfl
  refine⟨?_,hws,fun i h1 h2=>⟨?_,rfl⟩⟩
  ·rw[el];exact⟨hci.cc,hci.bb,hci.tt,hci.nd,hci.inL,hci.offs,hci.out,hci.hd,hci.cp,hci.dn,hci.rc,hci.u⟩
  ·show eT s1.kept s1.q i=s1.now i
   unfold eT
   rw[hq i h1 h2]
   show s1.now (i / 8*8+i%8)=s1.now i
   congr 1;omega
 ·rw[if_neg hlt]
  refine⟨hs1,?_,hws,fun i h1 h2=> ?_⟩
  ·rw[e1];exact⟨hci.cc,hci.bb,hci.tt,hci.nd,hci.inL,hci.offs,hci.out,hci.hd,hci.cp,hci.dn,hci.rc,hci.u⟩
  ·simp only at h2;omega
theorem SI.step(G:GcH c b m0 L lo hi)(hJ:lB lo hi J)(h:SI c b m0 L lo ws S s)(hs:J s)(hw:∀ w∈ws,w=0∨w∈L){W V:List (Int×Int)}(hWV:S.went=W++V)(hO:eW m0 lo W S.scan):
 kA (S.step s) (fun r s'=>J s'∧if r.1=true then DI c b m0 L lo ws r.2 s'∧r.2.done=true∧r.2.went=S.went∧S.todo=[]∧V=[] else SI c b m0 L lo ws r.2 s'∧∃ W' V',r.2.went=W'++V'∧eW m0 lo W' r.2.scan∧(r.2.todo.length:Int) - W'.length=S.todo.length - W.length - 1) (r8 J):=by
 unfold bE.step
 rw[if_neg (by rw[h.dn];decide)]
 cases ht:S.todo with
 | cons w t=>
   simp only
   obtain⟨pre,e,h1⟩:=h.td
   rw[ht] at e
   have hwm:w∈ws:=by rw[e];simp
   refine(h.ci.copied G hJ hs (hw w hwm) (fun hz=> .word hwm hz) h.scan.2).bind fun r s' ⟨k1,k2,k3,k4,⟨V',k5⟩,k6,k7,k8,k9⟩=> ?_
   refine⟨k1,?_⟩
   rw[if_neg (by simp)]
   refine⟨⟨?_,⟨W,V++V',by simp only;rw[k5,hWV,List.append_assoc],by simp only;rw[k6];exact hO⟩,⟨pre++[w],by rw[e];simp,fun x hx=> ?_⟩,k8.trans h.dn⟩,W,V++V',by simp only;rw[k5,hWV,List.append_assoc],by simp only;rw[k6];exact hO,by simp only[List.length_cons];omega⟩
   ·have:=k2;rw[←k6] at this;exact⟨this.cc,this.bb,this.tt,this.nd,this.inL,this.offs,this.out,this.hd,this.cp,this.dn,this.rc,this.u⟩
   ·rcases List.mem_append.1 hx with hx | hx
    ·rcases h1 x hx with hz | hz
     ·exact .inl hz
     ·exact .inr (by simp only;rw[k5,List.map_append];exact List.mem_append_left _ hz)
    ·rw[List.mem_singleton.1 hx];exact k4
 | nil=>
   simp only
   have hsc:=h.scan
   by_cases hlt:S.scan<S.free
   ·rw[if_pos hlt]
    have e:=hWV
    have h1:=hO
    have h2:=h.ci.offs
    rw[e] at h2
    have h3:=h1.app h2
    cases V with
    | nil=>exact absurd h3 (by show ¬ S.scan=S.free;omega)
    | cons q V=>
      obtain⟨k0,v0⟩:=q
      obtain⟨hv,h4⟩:=h3
      simp only at hv h4
      subst hv
      have hq:(k0,S.scan)∈S.went:=by rw[e];simp
      have hhd:=h.ci.hd _ hq
      simp only at hhd
      have hz:=cu m0 k0
      have er:(unp (s.load S.scan)).2.1=orf m0 k0:=by rw[hhd];rfl
      have ez:(unp (s.load S.scan)).1+1=osz m0 k0:=by rw[hhd];rfl
      rw[er,ez]
      have hci:CI c b m0 L lo ws S s.load (S.scan+1+0):=by
       have:=h.ci
       refine⟨this.cc,this.bb,this.tt,this.nd,this.inL,this.offs,this.out,this.hd,fun q' hq' j g0 g1=> ?_,fun q' hq' j g0 g1 g2=> ?_,this.rc,this.u⟩
       ·rw[this.cp q' hq' j g0 g1]
        have hz':=cu m0 q'.1
        by_cases hc:j<orf m0 q'.1∧q'.2+1+j<S.scan
        ·rw[if_pos hc,if_pos ⟨hc.1,by omega⟩]
        ·rw[if_neg hc,if_neg (fun hx=>hc ⟨hx.1,by
          rcases Int.lt_trichotomy q'.2 S.scan with hl | he | hl
          ·have:=this.offs.disj hq' hq hl;omega
          ·omega
          ·omega⟩)]
       ·refine this.dn q' hq' j g0 g1 ?_
        have hz':=cu m0 q'.1
        rcases Int.lt_trichotomy q'.2 S.scan with hl | he | hl
        ·have:=this.offs.disj hq' hq hl;omega
        ·omega
        ·omega
      refine(CI.refs G hJ k0 (orf m0 k0).toNat 0 S s (Int.le_refl 0) (by omega) hci hq hs).bind fun S' s' ⟨k1,k2,k3,k4,k5,⟨V',k6⟩,k7⟩=> ?_
      refine⟨k1,?_⟩
      rw[if_neg (by simp)]
      have hq':(k0,S'.scan)∈S'.went:=by rw[k3,k6];exact List.mem_append_left _ hq
      have k8:=k2.skip hq' rfl
      simp only at k8
      have kb:({S' with scan:=S'.scan+osz m0 k0}:bE).went=(W++[(k0,S.scan)])++(V++V')∧eW m0 lo (W++[(k0,S.scan)]) (S'.scan+osz m0 k0):=⟨by simp only;rw[k6,e];simp,by rw[k3];exact h1.snoc⟩
      refine⟨⟨⟨k8.cc,k8.bb,k8.tt,k8.nd,k8.inL,k8.offs,k8.out,k8.hd,k8.cp,k8.dn,k8.rc,k8.u⟩,⟨_,_,kb.1,kb.2⟩,?_,k5.trans h.dn⟩,_,_,kb.1,kb.2,by simp only[k4,ht,List.length_append,List.length_singleton];omega⟩
      obtain⟨pre,e5,h5⟩:=h.td
      refine⟨pre,by simp only;rw[k4];exact e5,fun x hx=> ?_⟩
      rcases h5 x hx with hz | hz
      ·exact .inl hz
      ·exact .inr (by simp only;rw[k6,List.map_append];exact List.mem_append_left _ hz)
   ·rw[if_neg hlt]
    refine(h.keep G hJ hs (by omega) ht).bind fun _ s' ⟨k1,k2⟩=> ?_
    rw[ht] at k2
    refine⟨k1,?_⟩
    rw[if_pos rfl]
    refine⟨k2,rfl,rfl,trivial,?_⟩
    have h2:=h.ci.offs
    rw[hWV] at h2
    have h3:=hO.app h2
    cases V with
    | nil=>rfl
    | cons q V=>have:=eW.le h3.2;have:=cu m0 q.1;omega
theorem SI.run(G:GcH c b m0 L lo hi)(hJ:lB lo hi J)(hJu:∀ s,J s→U64 s)(hw:∀ w∈ws,w=0∨w∈L):∀ (f:Nat) (S:bE) (s:Dev),SI c b m0 L lo ws S s→J s→ev S→S.meas<f→
 kA (so f S s) (fun S' s'=>J s'∧DI c b m0 L lo ws S' s'∧S'.done=true) (r8 J)
 | 0,S,s,_,_,_,hf=>absurd hf (Nat.not_lt_zero _)
 | f+1,S,s,h,hs,hW,hf=>by
   rw[hZ]
   obtain⟨W,V,hWV,hO⟩:=h.bd
   have h1:=h.step G hJ hs hw hWV hO
   cases e:S.step s with
   | off s'=>rw[e] at h1;exact h1
   | ok r s'=>
     rw[e] at h1
     obtain⟨g1,g2⟩:=h1
     have h2:=lI hW (hJu s hs) e
     show kA (if r.1=true then .ok r.2 s' else so f r.2 s') _ _
     by_cases hr:r.1=true
     ·rw[if_pos hr] at g2 ⊢;exact⟨g1,g2.1,g2.2.1⟩
     ·rw[if_neg hr] at g2 ⊢
      have h3:=h2.2.2.2.2.2.2.2 (by simpa using hr)
      exact SI.run G hJ hJu hw f r.2 s' g2.1 g1 h2.1 (by omega)
end
section
variable {c:Cfg} {b:Blk} {m0 m:Int→Int} {L ws:List Int} {lo hi p:Int} {S:bE} {J:Dev→Prop} {s:Dev}
theorem Ay{bd:Nat}(G:GcH c b m0 L lo hi)(hm:s.load=m0)(ws:List Int):SI c b m0 L lo ws (dR bd c b ws) s:=by
 have h:=G.lo_
 refine⟨⟨rfl,rfl,h.symm,List.nodup_nil,fun _ h=>(by cases h),?_,fun j _=>by rw[hm],fun _ h=>(by cases h),fun _ h=>(by cases h),fun _ h=>(by cases h),fun _ h=>(by cases h),fun x=>by rw[hm];exact G.u x⟩,⟨[],[],rfl,?_⟩,⟨[],rfl,fun _ h=>(by cases h)⟩,rfl⟩
 ·exact h
 ·exact h
theorem DI.keys(h:DI c b m0 L lo ws S s){k:Int}:k∈S.went.map Prod.fst↔Rch m0 ws k:=by
 constructor
 ·intro hk
  obtain⟨q,hq,rfl⟩:=List.mem_map.1 hk
  exact h.ci.rc q hq
 ·intro r
  induction r with
  | word h1 h2=>exact(h.ws _ h1).resolve_left h2
  | name _ h1 h2 h3 ih=>
    obtain⟨q,hq,e⟩:=List.mem_map.1 ih
    subst e
    have:=h.ci.offs.mem hq
    have:=cu m0 q.1
    exact(h.ci.dn q hq _ h1 h2 (by omega)).resolve_left h3
theorem DI.head(h:DI c b m0 L lo ws S s){q:Int×Int}(hq:q∈S.went):osz s.load q.2=osz m0 q.1∧orf s.load q.2=orf m0 q.1∧s.load q.2=m0 q.1:=by
 have:=h.ci.hd q hq
 exact⟨by unfold osz;rw[this],by unfold orf;rw[this],this⟩
theorem DI.fld(h:DI c b m0 L lo ws S s){q:Int×Int}(hq:q∈S.went){j:Int}(h0:0≤j)(h1:j+1<osz m0 q.1):s.load (q.2+1+j)=if j<orf m0 q.1 then tr S.went (m0 (q.1+1+j)) else m0 (q.1+1+j):=by
 have h2:=h.ci.offs.mem hq
 rw[h.ci.cp q hq j h0 h1]
 by_cases hj:j<orf m0 q.1
 ·rw[if_pos ⟨hj,by omega⟩,if_pos hj]
 ·rw[if_neg (fun x=>hj x.1),if_neg hj]
theorem DI.trm(h:DI c b m0 L lo ws S s){w:Int}(hw:w∈S.went.map Prod.fst):tr S.went w∈S.went.map Prod.snd∧(w,tr S.went w)∈S.went:=by
 obtain⟨q,hq,rfl⟩:=List.mem_map.1 hw
 rw[xZ h.ci.nd hq]
 exact⟨List.mem_map_of_mem hq,hq⟩
theorem DI.name(h:DI c b m0 L lo ws S s){q:Int×Int}(hq:q∈S.went){j:Int}(h0:0≤j)(h1:j<orf m0 q.1):m0 (q.1+1+j)=0∨m0 (q.1+1+j)∈S.went.map Prod.fst:=by
 have:=h.ci.offs.mem hq
 have:=cu m0 q.1
 exact h.ci.dn q hq j h0 h1 (by omega)
theorem DI.block(G:GcH c b m0 L lo hi)(h:DI c b m0 L lo ws S s):S.block=⟨1 - b.act,S.free - lo,b.rts.map (tr S.went)⟩:=by
 unfold bE.block
 rw[h.ci.bb,h.ci.tt];rfl
theorem DI.heap(G:GcH c b m0 L lo hi)(h:DI c b m0 L lo ws S s)(hr:∀ w∈b.rts,w∈ws){m':Int→Int}(hm:∀ j,lo≤j→j<S.free→m' j=s.load j):kD c S.block m' (S.went.map Prod.snd):=by
 have hin:∀ q∈S.went,∀ j,0≤j→j<osz m0 q.1→m' (q.2+j)=s.load (q.2+j):=fun q hq j h0 h1=>by
  have:=h.ci.offs.mem hq
  exact hm _ (by omega) (by omega)
 have h0:∀ q∈S.went,m' q.2=m0 q.1:=fun q hq=>by
  have:=hin q hq 0 (Int.le_refl 0) (by have:=cu m0 q.1;omega)
  rw[Int.add_zero] at this
  rw[this];exact h.ci.hd q hq
 rw[h.block G]
 refine⟨?_,fun k hk i g0 g1=> ?_,fun w hw=> ?_⟩
 ·have:=h.ci.offs.tile h0 (fun q hq=>(G.heap.tile.mem (h.ci.inL q hq)).2.2)
  unfold Blk.place
  simp only
  rw[←G.lo_,Int.add_zero,show lo+(S.free - lo)=S.free by omega]
  exact this
 ·obtain⟨q,hq,rfl⟩:=List.mem_map.1 hk
  have e:orf m' q.2=orf m0 q.1:=by unfold orf;rw[h0 q hq]
  rw[e] at g1
  have hz:=cu m0 q.1
  have e2:=hin q hq (1+i) (by omega) (by omega)
  rw[←Int.add_assoc] at e2
  rw[e2,h.fld hq g0 (by omega),if_pos g1]
  rcases h.name hq g0 g1 with hz | hz
  ·rw[hz,mF (h.ci.zero G)];exact .inl aa
  ·exact .inr (h.trm hz).1
 ·obtain⟨u,hu,rfl⟩:=List.mem_map.1 hw
  rcases h.ws u (hr u hu) with hz | hz
  ·rw[hz,mF (h.ci.zero G)];exact .inl aa
  ·exact .inr (h.trm hz).1
theorem DI.used(G:GcH c b m0 L lo hi)(h:DI c b m0 L lo ws S s):S.block.used=iz (osz m0) (S.went.map Prod.fst)∧0≤S.block.used∧S.block.used≤b.used:=by
 rw[h.block G]
 have h1:=h.ci.offs.sum
 have h2:=h.ci.free G
 simp only
 omega
end
end Go.Proofs.YtlcibdhmgclfjaaGreat
