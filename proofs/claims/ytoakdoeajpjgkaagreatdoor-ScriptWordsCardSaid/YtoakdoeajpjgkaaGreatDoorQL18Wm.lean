/- Part of a law's texts. Conditions: none. -/
import Derived.Test.YtoakdoeajpjgkaaGreatDoorQL18Wl
import Derived.Laws.Externs
import Derived.ProofKit
import Derived.OpenShut
import Derived.ChangeOld
import Derived.Below
import Derived.ChangeSlices
import Derived.Deep.Grids
import Derived.Deep.Strs
open Go.Proofs.Tryz
set_option linter.all false
namespace Go.Proofs.YtoakdoeajpjgkaaGreatDoor
open Go
section
variable {B:World} {σ:Env} {H:List HP} {P:Program} {d:Option Tmp} {ty:TypeId} {p:String} {af:Array Edge} {g:Option (Nat×Bool)}
theorem uA{t k e:TypeId}{q:Option Nat}(ht:∀ w,(underlying t).run P w= .ok (.map k e) w)(w:World):(Op.equal t (.map q) (.map none)).run P w= .ok q.isNone w:=by
 show(Op.equalIn (9999+1) t (.map q) (.map none)).run P w=_
 rw[Op.equalIn];simp only[Sem.run_bind,ht,Result.andThen_ok];cases q<;>rfl
theorem CC{op:BinOp}{x y:Operand}{q:Option Nat}{c:Bool}{t u k e:TypeId}(ht:∀ w,(underlying t).run P w= .ok (.map k e) w)(hx:evO σ x=some (.map q))(hy:evO σ y=some (.map none))(hc:(match op with | .eql=>some q.isNone | .neq=>some (!q.isNone) | _=>none)=some c):
 Evs P B σ H ⟨d,.binOp op t x y u,ty,p,af,g⟩ (.bool c):=by
 intro a w kn _
 cases op<;>simp at hc<;>subst hc<;>simp only[execOp,kn.eval hx,kn.eval hy]<;>simp[binOp,eqGuard,uA ht]
theorem CA{x:Operand}{s t:TypeId}{v:Value}{td:TypeDesc}(ht:∀ w,(underlying t).run P w= .ok td w)(hi:xw td=false)(hx:evO σ x=some (.iface t v)):Evs P B σ H ⟨d,.typeAssert x s t false,ty,p,af,g⟩ v:=by
 intro a w kn _
 cases td<;>simp[xw] at hi<;>simp[execOp,kn.eval hx,Instr.typeAssert,ht]
theorem xM{α:Type}{kk:IntKind}{enc:α→Value}{r:Nat}{l:List (Int×α)}{U:List (Int×α)→List HP}{f:FuncId}{x:Operand}{t:TypeId}{at_:Array TypeId}(hc:∀ (args:Array Value) (w:World),(callFunc f args).run P w=((Extern.MapsClone.clone args).run P w).andThen fun v w'=> .ok (.value v) w')
 (hx:evO σ x=some (.iface t (.map (some r)))) [m:jO H r kk enc l U]:
 Chg P B σ H ⟨d,.call ⟨.value (.func f), #[x],at_⟩,ty,p,af,g⟩ (fun v H'=>∃ b,v= .iface t (.map (some b))∧H'=bu kk enc b l::H):=by
 intro a w kn hh
 obtain⟨bn,clock,ho,hm⟩:=m.obj hh
 refine⟨.value (.iface t (.map (some w.heap.size))),{w with heap:=w.heap.push (.map (bT kk enc bn l).toArray clock)},?_,_,.inl aa,_,⟨_,rfl,rfl⟩,?_⟩
 ·have e:Extern.MapsClone.clone #[.iface t (.map (some r))]=(getObj r>>=fun o=>match o with
   | .map entries clock=>(newObj (.map entries clock)>>=fun n=>pure (.iface t (.map (some n))))
   | _=>stuck "maps.clone: a map expected"):=rfl
  have hg:(getObj r).run P w= .ok (.map (bT kk enc bn l).toArray clock) w:=by simp[getObj,Sem.run,ho]
  have hfe:a.eval (.func f)= .func (.func f) #[] #[]:=rfl
  simp[execOp,resolve,Deferred.ofValue,invoke,hfe,kn.eval hx,hc,e,hg]
 ·exact(hh.new (.map (bT kk enc bn l).toArray clock)).map fun _ a=>lQ (fun k hk=>⟨bn,clock,hk,hm⟩) a
end
theorem xo(B:World)(H:List HP)(r:Nat)(l:List (Int×Int))(U:List (Int×Int)→List HP)(m:jO H r .i64 i64 l U):
 ∀ w,Holds B H w→Calls Tryz.prog 210 [.map (some r)].toArray w (Ret B (fun rv H'=>∃ b,rv= .map (some b)∧H'=bu .i64 i64 b l::H) (fun _ _=>False)):=by
 refine ap func210 aa ntmps210 aa (ac (ab (kPa aa aa (ad (ac (ac (ab (kPm aa aa (kPv (CC runUnderlying196 aa aa aa) aa (ad (bG aa (rfl) ?_)))))))))))
 refine aq (ac (ab (kPm aa aa (kPv (zM runUnderlying196 aa aa) aa (kPb (xM (fun args w=>run_callFunc_extern func217 (by kernel_rfl) (by kernel_rfl) (by kernel_rfl) (e:=Extern.MapsClone.clone) (by kernel_rfl) args w) aa) aa fun b=> ?_)))))
 refine kPv (CA runUnderlying196 aa aa) aa (kPa aa aa (ad (am [2] rfl (ay ?_))))
 exact au results210 aa (fun w hh=>⟨_,⟨b,rfl,rfl⟩,hh⟩)
structure BX(B:World)(f:FuncId)(fi ca:List Value)(ε:Type)(ExL:ε→List HP)(okp:Int→Prop)(to_:Int→Int)(st:Int→ε→ε):Prop where
 enter:∀ args w,(callFunc f args).run Tryz.prog w= .ok (.enter f args) w
 says:∀ (Fr:List HP) (p:Int) (e:ε),okp p→∀ w,Holds B (ExL e++Fr) w→Calls Tryz.prog f (fi++[i64 p]++ca).toArray w (Ret B (fun rv H'=>rv=i64 (to_ p)∧H'=ExL (st p e)++Fr) (fun _ _=>False))
def dr(to_:Int→Int)(x:List (Int×Int)×List (Int×Int))(p:Int×Int):List (Int×Int)×List (Int×Int):=if to_ p.2≠0 then (mset x.1 p.1 (to_ p.2),mset x.2 (to_ p.2) p.1) else x
def gG.moved(to_:Int→Int)(last:Int)(ord:List (Int×Int)):gG:=⟨(ord.foldl (dr to_) ([],[])).1,(ord.foldl (dr to_) ([],[])).2,last⟩
theorem Holds.hop0{B:World}{w:World}(L M:List HP){E:List HP}(h:Holds B (L++(M++E)) w):Holds B (M++(L++E)) w:=
 h.perm (by rw[←List.append_assoc, ←List.append_assoc];exact List.Perm.append_right _ List.perm_append_comm)
theorem sS{α:Type}{l:List (Int×α)}(h:(l.map Prod.fst).Nodup):l.Nodup:=List.Pairwise.of_map Prod.fst (fun a b h e=>h (by rw[e])) h
theorem jI{α β:Type}(f:β→α→β)(l:List α)(a:α)(b:β):(l++[a]).foldl f b=f (l.foldl f b) a:=by rw[List.foldl_append];rfl
theorem xA(B:World)(Fr:List HP)(b:Nat)(T:gG)(f:FuncId)(fi ca:List Value)(ε:Type)(ExL:ε→List HP)(okp:Int→Prop)(to_:Int→Int)(st:Int→ε→ε)(hM:BX B f fi ca ε ExL okp to_ st)(hok:∀ p∈T.at_,okp p.2)(e0:ε):
 ∀ w,Holds B (gc b T::(ExL e0++Fr)) w→Calls Tryz.prog 186 [ptr b,.func (.func f) fi.toArray ca.toArray].toArray w (Ret B (fun _ H'=>∃ ord:List (Int×Int),ord.Perm T.at_∧H'=gc b (gG.moved to_ T.last ord)::(ExL (ord.foldl (fun e (p:Int×Int)=>st p.2 e) e0)++Fr)) (fun _ _=>False)):=by
 refine ap func186 aa ntmps186 aa (rA fun b1 b2=>(ac (ab (kPf jd isAgg196 aa aa aa aa (aJ aa (ar call210 aa) (xo B _ b1 T.at_ _ inferInstance) .free aa aa ?_)))))
 rintro _ _ ⟨bo,rfl,rfl⟩
 refine kPa aa aa (ad (ac (ab (kPf jd isAgg196 aa aa aa aa (kPs (mq aa runUnderlying196 aa) aa (ad (am [4,0,1] rfl (ac (ab (kPf ma isAgg196 aa aa aa aa (kPs (mq aa runUnderlying196 aa) aa ?_)))))))))))
 refine ad (ac (ab (kPm aa aa (kPb (mp runUnderlying196 aa) aa fun it=>(ad (aF (cy (ι:=List (Int×Int)) [22,0,1] (fun done=>(done.length≤T.at_.length)) (fun done=>[]) (fun done=>row b [.map (some b1),.map (some b2),i64 T.last] 198::bu .i64 i64 b1 (done.foldl (dr to_) ([],[])).1::bu .i64 i64 b2 (done.foldl (dr to_) ([],[])).2::fF .i64 i64 bo it T.at_ done::(ExL (done.foldl (fun e (p:Int×Int)=>st p.2 e) e0)++Fr)) (fun done=>T.at_.length - done.length) ([]) (Nat.zero_le _) (fun a w st=>st.to trivial (fun hh=>(hh.pk [1,1,1]))) ?_)))))))
 rintro done hdl
 try simp only at hdl ⊢
 refine bZ (σ':=[(22,_),(0,_),(1,_)]) (aC aa) (ac (ab (cK aa (nN aa) .free aa aa ?_)))
 rintro _ _ ⟨bb0,vs,done',rfl,hvs,rfl,hno,hyes⟩
 refine kPv (aA aa hvs) aa (ad (ac ?_))
 refine aZ aa (fun h24=> ?_) (fun h24=> ?_)
 ·obtain⟨pp,hpl,hpn,rfl⟩:=hyes h24
  refine iD it fun hl hd hsub=>(aq (aF (ac (ab (kPv (mi (p0:=pp) (dn:=done) aa) aa (kPv (aA aa aa) aa (kPv (aA aa aa) aa (kPa aa aa (kPa aa aa (ad (ac ?_)))))))))))
  refine ab (kPm aa aa (kPm aa aa ?_))
  refine aU aa (kw hM.enter aa aa) (fun w hh=>hM.says ([row b [.map (some b1),.map (some b2),i64 T.last] 198,bu .i64 i64 b1 (done.foldl (dr to_) ([],[])).1,bu .i64 i64 b2 (done.foldl (dr to_) ([],[])).2,fF .i64 i64 bo it T.at_ (done++[pp])]++Fr) pp.2 (done.foldl (fun e (p:Int×Int)=>st p.2 e) e0) (hok pp hpl) w (Holds.hop0 [row b [.map (some b1),.map (some b2),i64 T.last] 198,bu .i64 i64 b1 (done.foldl (dr to_) ([],[])).1,bu .i64 i64 b2 (done.foldl (dr to_) ([],[])).2,fF .i64 i64 bo it T.at_ (done++[pp])] (ExL (done.foldl (fun e (p:Int×Int)=>st p.2 e) e0)) hh)) .free aa aa ?_ ?_
  rotate_left
  ·rintro _ _ ⟨⟩
  rintro _ _ ⟨rfl,rfl⟩
  refine aN (H':=[row b [.map (some b1),.map (some b2),i64 T.last] 198,bu .i64 i64 b1 (done.foldl (dr to_) ([],[])).1,bu .i64 i64 b2 (done.foldl (dr to_) ([],[])).2,fF .i64 i64 bo it T.at_ (done++[pp])]++(ExL (st pp.2 (done.foldl (fun e (p:Int×Int)=>st p.2 e) e0))++Fr)) (fun w hh=>Holds.hop0 (ExL (st pp.2 (done.foldl (fun e (p:Int×Int)=>st p.2 e) e0))) [row b [.map (some b1),.map (some b2),i64 T.last] 198,bu .i64 i64 b1 (done.foldl (dr to_) ([],[])).1,bu .i64 i64 b2 (done.foldl (dr to_) ([],[])).2,fF .i64 i64 bo it T.at_ (done++[pp])] hh) ?_
  simp only[List.cons_append,List.nil_append]
  refine kPa aa aa (ad (am [7,5,22,0,1] rfl (ac (ab (kPm aa aa (kPv (al aa aa aa) aa (ad ?_)))))))
  refine aZ aa (fun h32=> ?_) (fun h32=> ?_)
  ·have hnz:to_ pp.2≠0:=by simpa using h32
   refine cI [0,1,2,3,4,5,6,7,8,9,10,11,12,13,14,15,16,17] [12,14,15,17] [9,10,11] [12,14,15] [row b [.map (some b1),.map (some b2),i64 T.last] 198] Tryz.mixed (by kernel_rfl) ?_
   refine aP aa aa aa (aj aa) .free aa (aP aa aa aa (aK aa) .free aa (aP aa aa aa (aE (m:=_) jd aa aa) .free aa (aP aa aa aa (ai isAgg196 aa aa) .free aa (aP aa aa aa (aj aa) .free aa (aP aa aa aa (aj aa) .free aa (aP aa aa aa (aK aa) .free aa (aP aa aa aa (aE (m:=_) ma aa aa) .free aa (aP aa aa aa (ai isAgg196 aa aa) .free aa (an aa aa aa (aj aa) .free aa (an aa aa aa (aj aa) .free aa (an aa aa aa (aj aa) .free aa ?_)))))))))))
   refine aT aa aa (aS [1] (cK aa (iI (u0:=(0:Int)) runUnderlying196 runUnderlying3 zeroValue3 aa aa) .free aa aa ?_))
   rintro _ _ ⟨z1,st1,rfl,rfl⟩
   refine ad (cL (aP aa aa aa (aA aa aa) .free aa (aT aa aa (kPs (gH aa aa aa aa) aa (ad (cL (aT aa aa (aS [2] (cK aa (iI (u0:=(0:Int)) runUnderlying196 runUnderlying3 zeroValue3 aa aa) .free aa aa ?_)))))))))
   rintro _ _ ⟨z2,st2,rfl,rfl⟩
   refine ad (cL (aP aa aa aa (aA aa aa) .free aa (aT aa aa (kPs (gH aa aa aa aa) aa (ad (c6 aa (cF (am [22,0,1] rfl ?_))))))))
   have hle:=iC hd hsub
   exact fun a w st_=>⟨done++[pp],by first | omega | (simp;omega),by first | omega | (simp;omega),st_.to ⟨rfl,rfl,rfl,trivial⟩ (fun hh=>(by have h:=(hh.pk [2,1]);rw[jB,jB] at h;rw[jI,jI,show dr to_ (done.foldl (dr to_) ([],[])) pp=(mset _ pp.1 (to_ pp.2),mset _ (to_ pp.2) pp.1) from if_pos hnz];exact h))⟩
  ·have hnz:to_ pp.2=0:=by simpa using h32
   refine aq ?_
   have hle:=iC hd hsub
   exact fun a w st_=>⟨done++[pp],by first | omega | (simp;omega),by first | omega | (simp;omega),st_.to ⟨rfl,rfl,rfl,trivial⟩ (fun hh=>(by have h:=hh;rw[jI,jI,show dr to_ (done.foldl (dr to_) ([],[])) pp=_ from if_neg (by simpa using hnz)];exact h))⟩
 ·obtain⟨rfl,hall⟩:=hno h24
  refine iD it fun hl hd hsub=>(bz ?_)
  exact cP results186 (fun w hh=>⟨_,⟨done',(List.perm_ext_iff_of_nodup (sS hd) (sS hl)).2 fun x=>⟨hsub x,hall x⟩,rfl⟩,gq (T:=gG.moved to_ T.last done') (hh.dp [3])⟩)
def dj(c:Cfg)(b:Blk)(ml:List (Int×da))(v:Int):Bool:=v==0||(b.has c v&&(bJ ml v).isSome)
def sE(s:Dev)(nf:Int→Bool)(o:da):Bool:=(List.range o.2.1.toNat).all fun k=>nf (s.load (o.2.2+1+(k:Int)))
def stC(s:Dev)(nf:Int→Bool)(p:da×Int)(x:Int):Bool×Int:=if sE s nf p.1=true then (true,x) else (false,9)
def Dev.check(s:Dev)(c:Cfg):Int:=
 if (s.block c).2≠0 then (s.block c).2
 else if (s.starts c (s.block c).1).2≠0 then (s.starts c (s.block c).1).2
 else if (s.block c).1.rts.all (dj c (s.block c).1 (s.starts c (s.block c).1).1)=true then
  (itl (stC s (dj c (s.block c).1 (s.starts c (s.block c).1).1)) (s.objs c (s.block c).1 ((s.block c).1.used.toNat+1) ((s.block c).1.place c 0)) 0).2
 else 9
theorem yU(o:Option da):pQ gU (.agg #[i64 0,i64 0,i64 0]) o=gU (o.getD (0,0,0)):=by cases o<;>rfl
theorem pO{α:Type}{l:List α}{f:α→Bool}{k:Nat}(hk:k<l.length)(h:(l.take k).all f=true)(h2:f l[k]=true):(l.take (k+1)).all f=true:=by
 rw[List.take_succ_eq_append_getElem hk,List.all_append,h];simp[h2]
theorem oD{f:Nat→Bool}{k:Nat}(h:(List.range k).all f=true)(h2:f k=true):(List.range (k+1)).all f=true:=by
 rw[List.range_succ,List.all_append,h];simp[h2]
theorem qP(B:World)(Fr:List HP)(b1 b2 b3 mb:Nat)(c:Cfg)(hc:bx c)(b:Blk)(sv:Value)(hb:gg c b)(hsv:aM sv=true)(ml:List (Int×da))(v:Int)(hv:0≤v∧v<18446744073709551616):
 ∀ w,Holds B (row b1 [i64 b.act,i64 b.used,sv] 151::row b2 [i64 c.log,i64 c.roots,i64 c.space] 134::row b3 [.map (some mb)] 259::bu .i64 gU mb ml::Fr) w→Calls Tryz.prog 181 [w64 v,ptr b1,ptr b2,ptr b3].toArray w (a8 B (row b1 [i64 b.act,i64 b.used,sv] 151::row b2 [i64 c.log,i64 c.roots,i64 c.space] 134::row b3 [.map (some mb)] 259::bu .i64 gU mb ml::Fr) (.bool (dj c b ml v))):=by
 refine ap func181 aa ntmps181 aa (ac (ab (kPa aa aa (ad (ac (ac (ab (kPm aa aa (kPv (al aa aa aa) aa (ad ?_))))))))))
 refine aZ aa (fun h9=> ?_) (fun h9=> ?_)
 ·have hres:dj c b ml v=true:=by unfold dj;simp[show v=0 by simpa using h9]
  refine ac (ab (kPa aa aa (ad (ay ?_))))
  exact au results181 aa (fun w hh=>⟨by rw[hres],hh⟩)
 ·have hne:¬ v=0:=by simpa using h9
  refine aq (ac (ac (ab (kPv (ah isAgg151 sizeOf151 aa aa) aa ?_))))
  refine kPv (ah isAgg134 sizeOf134 aa aa) aa ?_
  refine kPm aa aa (aw aa (ar call182 aa) (ry _ _ c hc b sv hb hsv _ hv) .free aa aa ?_)
  refine kPv (bj aa) aa (ad (am [14,5,0,3] rfl ?_))
  refine aZ aa (fun h14=> ?_) (fun h14=> ?_)
  ·have hh0:b.has c v=false:=by simpa using h14
   have hres:dj c b ml v=false:=by unfold dj;simp[hne,hh0]
   refine ac (ab (kPa aa aa (ad (ay ?_))))
   exact au results181 aa (fun w hh=>⟨by rw[hres],hh⟩)
  ·have hh0:b.has c v=true:=by simpa using h14
   have hvb:=kD hc hb hh0
   have hres:dj c b ml v=(bJ ml v).isSome:=by unfold dj;simp[hne,hh0]
   refine aq (ac (ab (kPv (ai isAgg259 aa aa) aa (kPm aa aa (kPv (bP runUnderlying25 runUnderlying3 aa) aa (kPv ((fu runUnderlying259 runUnderlying3 zeroValue160 aa aa).eq (congrArg (fun v=>Value.tuple #[v,.bool _]) (yU _))) aa (kPm aa aa (kPv (aA aa aa) aa (kPv (aA aa aa) aa (kPb (aD zeroValue160 aa) aa fun b6=>(kPs (az (vs:=[i64 _,i64 _,i64 _]) sizeOf160 aa aa aa aa aa) aa ?_)))))))))))
   refine kPa aa aa (ad (am [7,5] rfl (ac (ab (kPm aa aa (kPa aa aa (ad (ay ?_))))))))
   exact au results181 aa (fun w hh=>⟨by rw[hres];rfl,hh.tail⟩)
theorem kS(B:World)(Fr:List HP)(bd:Nat)(s:Dev)(c:Cfg)(hc:bx c)(hu:U64 s):
 ∀ w,Holds B (aB bd s::Fr) w→Calls Tryz.prog 130 [ptr bd,dS c].toArray w (a8 B (aB bd s::Fr) (i64 (s.check c))):=by
 refine eH func130 aa ntmps130 aa ?_
 have hrl:=fI (s:=s) hc
 refine ac (ab (kPb (dF aa aa) aa fun b2=>(kPb (aY aa) aa fun b3=>(kPa aa aa (ad (wt (ac (ab (kPv (ai isAgg90 aa aa) aa (kPv (ah isAgg134 sizeOf134 aa aa) aa ?_))))))))))
 refine aS [2] (aJ aa (ar call117 aa) (fQ _ _ _ _ c hc hu) .free aa aa ?_)
 rintro _ _ ⟨sv,hsv,rfl,rfl⟩
 have hbk:=dA (s:=s) hc hu
 refine kPm aa aa (kPv (aA aa aa) aa (kPv (aA aa aa) aa (kPb (aD zeroValue151 aa) aa fun b5=>(kPs (az (vs:=[i64 _,i64 _,sv]) sizeOf151 aa aa aa (ew hsv) aa) aa (kPa aa aa (ad (am [6,5,4,3,2] rfl (ac (ac (ab (kPm aa aa ?_)))))))))))
 refine kPv (al aa aa aa) aa (ad ?_)
 refine aZ aa (fun h21=> ?_) (fun h21=> ?_)
 ·have he:(s.block c).2≠0:=by simpa using h21
  have hres:s.check c=(s.block c).2:=by unfold Dev.check;rw[if_pos he]
  refine ac (ab (kPm aa aa (kPa aa aa (ad (ay ?_)))))
  exact fB results130 aa (.nil) (fun w hh=>⟨by rw[hres]<;>rfl,(hh.dp [0,0,1,1])⟩)
 ·have he:(s.block c).2=0:=by simpa using h21
  refine aq (ac (ab (kPv (ai isAgg90 aa aa) aa (kPv (ah isAgg134 sizeOf134 aa aa) aa ?_))))
  refine kPv (ah isAgg151 sizeOf151 aa aa) aa ?_
  refine aS [2] (aJ aa (ar call180 aa) (nT _ _ bd s c hc (s.block c).1 sv hbk hsv) .free aa aa ?_)
  rintro _ _ ⟨mb,rfl,rfl⟩
  refine kPm aa aa (kPv (aA aa aa) aa (kPv (aA aa aa) aa (kPb (cg zeroValue259 aa) aa fun b7=>(kPs (aO sizeOf259 aa aa aa aa) aa (kPa aa aa (ad (am [6,7,5,4,3,2] rfl (ac (ac (ab (kPm aa aa ?_)))))))))))
  refine kPv (al aa aa aa) aa (ad ?_)
  refine aZ aa (fun h31=> ?_) (fun h31=> ?_)
  ·have he2:(s.starts c (s.block c).1).2≠0:=by simpa using h31
   have hres:s.check c=(s.starts c (s.block c).1).2:=by unfold Dev.check;rw[if_neg (by omega),if_pos he2]
   refine ac (ab (kPm aa aa (kPa aa aa (ad (ay ?_)))))
   exact fB results130 aa (.nil) (fun w hh=>⟨by rw[hres]<;>rfl,(hh.dp [0,0,1,1,1,1])⟩)
  ·have he2:(s.starts c (s.block c).1).2=0:=by simpa using h31
   refine aq (ac (ab (kPb (cg zeroValue36 aa) aa fun b8=>(kPs (aO sizeOf36 aa aa aa aa) aa (ad (ac (ab (kPv (dt aa aa) aa (kPb (cg zeroValue264 aa) aa fun b9=>(kPs (aO sizeOf264 aa aa aa aa) aa (aS [6] ?_)))))))))))
   refine cC fun qo co hqe hqo=> ?_
   subst hqe
   refine ad (ac (ac (ab (kPl eY isAgg30 aa aa aa aa (kPv (bB aa runUnderlying30 ⟨_,rfl⟩ rfl) aa (kPm aa aa (ad (aF (cy (ι:=Nat) [36,35,9,8,5,4,3,2] (fun k=>(k≤(s.block c).1.rts.length)∧(((s.block c).1.rts.take k).all (dj c (s.block c).1 (s.starts c (s.block c).1).1)=true)) (fun k=>[(37,i64 k)]) (fun k=>row b5 [i64 (s.block c).1.act,i64 (s.block c).1.used,.slice qo (s.block c).1.rts.length co] 151::row b3 [i64 c.log,i64 c.roots,i64 c.space] 134::row b7 [.map (some mb)] 259::bu .i64 gU mb (s.starts c (s.block c).1).1::cS 0 (.slice qo (s.block c).1.rts.length co,(s.block c).1.rts)::aB bd s::row b8 [i64 0] 36::row b9 [.func (.func 181) #[] #[ptr b5,ptr b3,ptr b7]] 264::row b2 [ptr bd] 90::Fr) (fun k=>(s.block c).1.rts.length - k) (0) (⟨Nat.zero_le _,rfl⟩) (fun a w st=>st.to ⟨rfl,trivial⟩ (fun hh=>(hh.pk [6,6,3,3,0,2,1]))) ?_)))))))))
   rintro k ⟨hk0,hkr⟩
   try simp only at hk0 hkr ⊢
   refine bZ (σ':=[(37,i64 k),(36,_),(35,_),(9,_),(8,_),(5,_),(4,_),(3,_),(2,_)]) (aC aa) (ac (ab (kPv (al aa aa aa) aa (ad (ac ?_)))))
   refine aZ aa (fun h38=> ?_) (fun h38=> ?_)
   ·have hk:k<(s.block c).1.rts.length:=by simp at h38;omega
    obtain⟨bq,oq,rfl⟩:=hqo k hk
    have hul:0≤(s.block c).1.rts[k]∧(s.block c).1.rts[k]<18446744073709551616:=fH hu _ (List.getElem_mem hk)
    refine aq (ac (aF (ac (ab (kPv (cj runUnderlying30 sizeOf25 aa aa (by omega) (by omega)) aa ?_)))))
    refine kPv (bM (v:=w64 (s.block c).1.rts[k]) isAgg25 (cO 4 aa) aa (by rw[Int.toNat_natCast,List.getElem?_map,List.getElem?_eq_getElem hk];rfl)) aa ?_
    refine kPa aa aa (ad (ac (ab (kPv (ai isAgg264 aa aa) aa (kPm aa aa ?_)))))
    refine aw aa (kw call181 aa aa) (qP B _ b5 b3 b7 mb c hc (s.block c).1 _ hbk aa (s.starts c (s.block c).1).1 (s.block c).1.rts[k] hul) .free aa aa ?_
    refine kPv (bj aa) aa (ad (am [44,37,36,35,9,8,5,4,3,2] rfl ?_))
    refine aZ aa (fun h44=> ?_) (fun h44=> ?_)
    ·have hnr:¬ (dj c (s.block c).1 (s.starts c (s.block c).1).1) (s.block c).1.rts[k]=true:=by simpa using h44
     have hres:s.check c=9:=by unfold Dev.check;rw[if_neg (by omega),if_neg (by omega),if_neg (fun hh=>hnr (List.all_eq_true.1 hh _ (List.getElem_mem hk)))]
     refine ac (ab (kPa aa aa (ad (ay ?_))))
     exact fB results130 aa (.nil) (fun w hh=>⟨by rw[hres]<;>rfl,(hh.dp [0,0,0,0,0,1,1,1])⟩)
    ·have hnr:(dj c (s.block c).1 (s.starts c (s.block c).1).1) (s.block c).1.rts[k]=true:=by simpa using h44
     refine aq (ab (kPv (aL aa aa) aa (kPm aa aa (ad ?_))))
     exact fun a w st_=>⟨k+1,⟨by first | omega | (simp only;omega),pO hk hkr hnr⟩,by first | omega | (simp only;omega),st_.to (aC aa) (fun hh=>hh)⟩
   ·have hk:¬ k<(s.block c).1.rts.length:=by simp at h38;omega
    obtain rfl:k=(s.block c).1.rts.length:=by omega
    have hres:s.check c=(itl (stC s (dj c (s.block c).1 (s.starts c (s.block c).1).1)) (s.objs c (s.block c).1 ((s.block c).1.used.toNat+1) ((s.block c).1.place c 0)) 0).2:=by unfold Dev.check;rw[if_neg (by omega),if_neg (by omega),if_pos (by rw[List.take_length] at hkr;exact hkr)]
    refine bz (ac (wu (ac (ac (ab (kPv (ai isAgg90 aa aa) aa (kPv (ah isAgg134 sizeOf134 aa aa) aa ?_)))))))
    refine kPv (ah isAgg151 sizeOf151 aa aa) aa ?_
    refine aJ aa (ar call183 aa) (nY _ _ bd c (s.block c).1 (.slice qo (s.block c).1.rts.length co) aa) .free aa aa ?_
    rintro _ _ ⟨c3,c4,c5,rfl,rfl⟩
    refine ad (am [49,9,8,4,2] rfl (aF (kO aa call208 ?_)))
    intro l m tmps hts hkn w hh
    have hk9:=hkn 9 _ rfl
    have hk2:=hkn 2 _ rfl
    have hk8:=hkn 8 _ rfl
    refine(rZ B (blk m (.deferred (some []))::cS 0 (.slice qo (s.block c).1.rts.length co,(s.block c).1.rts)::Fr) l 130 c3 c4 c5 bd c hc (s.block c).1 _ hbk aa s Int _ aa aa (fun x=>True) (fun x=>[row b8 [i64 x] 36,row b5 [i64 (s.block c).1.act,i64 (s.block c).1.used,.slice qo (s.block c).1.rts.length co] 151,row b3 [i64 c.log,i64 c.roots,i64 c.space] 134,row b7 [.map (some mb)] 259,bu .i64 gU mb (s.starts c (s.block c).1).1,row b9 [.func (.func 181) #[] #[ptr b5,ptr b3,ptr b7]] 264,row b2 [ptr bd] 90]) (fun _=> .exit 2) (stC s (dj c (s.block c).1 (s.starts c (s.block c).1).1)) 0 trivial ?_ w (hh.pk [0,1,1,1,6,6,1,1,1,1,2,2])).mono (Ret.mono ?_ fun _ _ h=>h.elim)
    ·intro p x hpw _
     have hp2:=hpw.r
     have hp1:=hpw.w
     have hp3:=hpw.at_
     refine⟨trivial,fun E=> ?_⟩
     simp only[List.cons_append,List.nil_append]
     refine gL (n:=70) (σ:=[(50,gU p.1),(51,i64 p.2),(9,ptr b9),(2,ptr b2),(8,ptr b8)]) func130 (by simp[fL,hts]) (KnA.knows (by simp[KnA,fL,hts];exact⟨(Array.getElem?_eq_some_iff.1 hk9).2,(Array.getElem?_eq_some_iff.1 hk2).2,(Array.getElem?_eq_some_iff.1 hk8).2⟩)) aa ?_
     refine ab (kPb (aD zeroValue160 aa) aa fun b12=>(kPs (az (vs:=[i64 p.1.1,i64 p.1.2.1,i64 p.1.2.2]) sizeOf160 aa aa aa aa aa) aa (ad (aS [1] (ki (aF (ac ?_)))))))
     generalize hrec:({state:=LoopState.busy, ..}:Loop)=rec
     refine ab (kPv (aE (m:=_) eX aa aa) aa (kPl fX isAgg3 aa aa aa aa (kPm aa aa (ad (aF ?_)))))
     refine cy (ι:=Nat) [54,12,9,2,8] (fun j=>((j:Int)≤p.1.2.1)∧((List.range j).all (fun k=>(dj c (s.block c).1 (s.starts c (s.block c).1).1) (s.load (p.1.2.2+1+(k:Int))))=true)) (fun j=>[(55,i64 j)]) (fun j=>row b5 [i64 (s.block c).1.act,i64 (s.block c).1.used,.slice qo (s.block c).1.rts.length co] 151::row b3 [i64 c.log,i64 c.roots,i64 c.space] 134::row b7 [.map (some mb)] 259::bu .i64 gU mb (s.starts c (s.block c).1).1::row b12 [i64 p.1.1,i64 p.1.2.1,i64 p.1.2.2] 160::blk l (.loop rec)::row c5 [i64 (s.block c).1.act,i64 (s.block c).1.used,.slice qo (s.block c).1.rts.length co] 151::row c4 [i64 c.log,i64 c.roots,i64 c.space] 134::row c3 [ptr bd] 90::aB bd s::row b8 [i64 x] 36::row b9 [.func (.func 181) #[] #[ptr b5,ptr b3,ptr b7]] 264::row b2 [ptr bd] 90::E) (fun j=>p.1.2.1.toNat - j) (0) (⟨by first | omega | (simp only;omega),rfl⟩) (fun a w st=>st.to ⟨rfl,trivial⟩ (fun hh=>(hh.pk [7,7,7,7,1]))) ?_
     rintro j ⟨hj0,hall⟩
     try simp only at hj0 hall ⊢
     refine bZ (σ':=[(55,i64 j),(54,_),(12,_),(9,_),(2,_),(8,_)]) (aC aa) (ac (ab (kPv (al aa aa aa) aa (ad (ac ?_)))))
     refine aZ aa (fun h56=> ?_) (fun h56=> ?_)
     ·have hj:(j:Int)<p.1.2.1:=by simpa using h56
      refine aq (ac (aF (ac (ab (kPm aa aa (kPa aa aa (ad (ac (cM Tryz.mixed (by kernel_rfl) (by kernel_rfl) ?_)))))))))
      refine kQv (ai isAgg264 aa aa) aa (kQv (ai isAgg90 aa aa) aa (kQv (aE (m:=_) kr aa aa) aa (kQv (ai isAgg3 aa aa) aa (kQv (aL aa aa) aa (kQm aa aa (kQv (aL aa aa) aa (bF aa (ar call173 aa) (bH (q:=aB) (fun Fr=>cq _ Fr _ _ _)) .free aa ?_)))))))
      refine bF aa (kw call181 aa aa) (qP B _ b5 b3 b7 mb c hc (s.block c).1 _ hbk aa (s.starts c (s.block c).1).1 (s.load (p.1.2.2+1+(j:Int))) (hu.load _)) .free aa ?_
      refine kQv (bj aa) aa (ce (am [67,55,54,12,9,2,8] rfl ?_))
      refine aZ aa (fun h67=> ?_) (fun h67=> ?_)
      ·have hnall:¬ (dj c (s.block c).1 (s.starts c (s.block c).1).1) (s.load (p.1.2.2+1+(j:Int)))=true:=by simpa using h67
       subst hrec
       refine ac (ab (kPs (aO sizeOf36 aa aa aa aa) aa (ad (bz ?_))))
       have hst:stC s (dj c (s.block c).1 (s.starts c (s.block c).1).1) p x=(false,9):=by unfold stC;rw[if_neg (show ¬ sE s (dj c (s.block c).1 (s.starts c (s.block c).1).1) p.1=true from fun hh=>hnall (List.all_eq_true.1 hh j (List.mem_range.2 (by omega))))]
       refine aS [5] ?_
       exact wp fun w hh=>⟨_,⟨by rw[hst],rfl⟩,by rw[hst];exact((hh.dp [5]).pk [0,4,4,4,4,4])⟩
      ·have hnm:(dj c (s.block c).1 (s.starts c (s.block c).1).1) (s.load (p.1.2.2+1+(j:Int)))=true:=by simpa using h67
       refine aq (ab (kPv (aL aa aa) aa (kPm aa aa (ad ?_))))
       exact fun a w st_=>⟨j+1,⟨by first | omega | (simp only;omega),oD hall hnm⟩,by first | omega | (simp only;omega),st_.to (aC aa) (fun hh=>hh)⟩
     ·have hj:¬ (j:Int)<p.1.2.1:=by simpa using h56
      have hall2:sE s (dj c (s.block c).1 (s.starts c (s.block c).1).1) p.1=true:=by unfold sE;rw[show p.1.2.1.toNat=j by omega];exact hall
      subst hrec
      refine bz ?_
      have hst:stC s (dj c (s.block c).1 (s.starts c (s.block c).1).1) p x=(true,x):=by unfold stC;rw[if_pos hall2]
      refine aS [5] ?_
      exact kh fun w hh=>⟨_,⟨by rw[hst],rfl⟩,by rw[hst];exact((hh.dp [5]).pk [0,4,4,4,4,4])⟩
    rintro _ _ ⟨_,rfl⟩
    simp only[List.cons_append,List.nil_append]
    refine⟨_,_,fun w hh=>hh,j9 (by simp[fL]),fun hp=> ?_,fun c' hc'=> ?_⟩
    rotate_left
    ·obtain⟨h1,rfl⟩:=j8 rfl hc'
     refine bz (ac (ab (kPv (ai isAgg36 aa aa) aa (kPa aa aa (ad (ay ?_))))))
     exact fB results130 aa (.at 12 (.nil)) (fun w hh=>⟨by rw[hres]<;>rfl,(hh.dp [0,0,0,0,1,1,1,1,1,1,1,1,1])⟩)
    refine ac (ab (kPv (ai isAgg36 aa aa) aa (kPa aa aa (ad (ay ?_)))))
    exact fB results130 aa (.at 12 (.nil)) (fun w hh=>⟨by rw[hres]<;>rfl,(hh.dp [0,0,0,0,1,1,1,1,1,1,1,1,1])⟩)
def iL(x:Blk×Int)(b:Blk)(e:Int):Bool:=x.1.act==b.act&&x.1.used==b.used&&x.1.rts==b.rts&&x.2==e
theorem dX{x:Blk×Int}{b:Blk}{e:Int}(h:iL x b e=true):x=(b,e):=by
 obtain⟨⟨a1,a2,a3⟩,a4⟩:=x
 obtain⟨b1,b2,b3⟩:=b
 simp only[iL,Bool.and_eq_true,beq_iff_eq] at h
 obtain⟨⟨⟨rfl,rfl⟩,rfl⟩,rfl⟩:=h
 rfl
def xd(x:Int×Int)(a e:Int):Bool:=x.1==a&&x.2==e
theorem nF{x:Int×Int}{a e:Int}(h:xd x a e=true):x=(a,e):=by
 simp only[xd,Bool.and_eq_true,beq_iff_eq] at h
 exact Prod.ext h.1 h.2
def Cl(x:da×Int)(o:da)(e:Int):Bool:=x.1.1==o.1&&x.1.2.1==o.2.1&&x.1.2.2==o.2.2&&x.2==e
theorem AJ{x:da×Int}{o:da}{e:Int}(h:Cl x o e=true):x=(o,e):=by
 simp only[Cl,Bool.and_eq_true,beq_iff_eq] at h
 exact Prod.ext (Prod.ext h.1.1.1 (Prod.ext h.1.1.2 h.1.2)) h.2
theorem iK:bx ⟨3,1,48⟩:=⟨by decide,by decide,by decide,by decide,by decide,by decide⟩
theorem sV:(⟨3,1,48⟩:Cfg)=mkC 0 0 40:=rfl
abbrev c8:Cfg:=⟨3,1,8⟩
abbrev c48:Cfg:=⟨3,1,48⟩
theorem n48{N:Nat}(h:(N:Int)=c48.words):N=136:=by have:(N:Int)=136:=h.trans (by decide);omega
theorem uG(B:World)(Fr:List HP)(bd:Nat)(o:da)(ho:lF o)(i v:Int)(hv:0≤v∧v<18446744073709551616)(s:Dev)(hl:s.pow.lim<0)(hu:U64 s):
 ∀ w_,Holds B (aB bd s::Fr) w_→Calls Tryz.prog 88 [gU o,i64 i,w64 v,.func (.func 145) [ptr bd].toArray #[]].toArray w_ (Ret B (fun rv H'=>∃ x s',iM gk o i false v s ()= .ok (x,()) s'∧rv=i64 x∧s'.pow.lim<0∧s'.n=s.n∧U64 s'∧H'=aB bd s'::Fr) (fun _ _=>False)):=fun w_ hh=>by
 obtain⟨y,s2,hg,_,hg2,hg3⟩:=tx (o:=o) (i:=i) (v:=v) (r:=false) hl
 refine(qe B Fr _ [ptr bd] bd 0 Unit (fun _ _=>pr True) gk _ (ur B bd 0) o ho i v hv s () hu w_ ((hh.unpr (p:=True) trivial).back 1 (by simp))).mono fun en w' h=> ?_
 cases en with
 | returned rv=>
   obtain⟨H,⟨x,e',s',hm,rfl,hok,rfl⟩,hh⟩:=h
   obtain⟨rfl,rfl⟩:y=(x,e')∧s2=s':=by rw[hg] at hm;cases hm;exact⟨rfl,rfl⟩
   exact⟨_,⟨x,s2,hm,rfl,hg2,hg3,hok,rfl⟩,(hh.front 1 aa).tail⟩
 | panicked c=>
   obtain⟨H,⟨s',hm,_⟩,_⟩:=h
   rw[hg] at hm;cases hm
 | outgrown=>exact h
theorem Br(pa:Nat):okB ((iR pa [] 56).format c8) (fun _ s=>iL (s.block c8) ⟨0,0,[0]⟩ 0)=true:=by kernel_rfl
theorem Bq(pa:Nat):okB ((iR pa [] 56).format c8) (fun _ s=>okB (cN gk c8 2 0 s ()) fun x s1=>xd x.1 40 0&&okB (cN gk c8 5 0 s1 ()) fun y _=>xd y.1 0 4)=true:=by kernel_rfl
theorem zY(pa:Nat):okB ((iR pa [] 136).format c48) (fun _ s=>okB (gW c48 [(1,2)] s []) fun out sF=>out==[40]&&iL (sF.block c48) ⟨0,3,[0]⟩ 0&&Cl (sF.objOf c48 ⟨0,3,[0]⟩ 40) (2,1,40) 0&&xd (sF.objRead (2,1,40) 0) 0 5&&okB (iM gk (2,1,40) 1 false 9 sF ()) fun a s2=>a.1==0&&xd (s2.objRead (2,1,40) 1) 9 0)=true:=by kernel_rfl
theorem zX(pa:Nat):okB ((iR pa [] 136).format c48) (fun _ s=>okB (gW c48 [(0,1)] s []) fun out sF=>out==[40]&&iL (sF.block c48) ⟨0,2,[0]⟩ 0&&okB (eE c48 ⟨0,2,[0]⟩ (di [] [40] 0) [40] 0 sF) fun n1 s1=>n1==some 0&&okB (fE c48 (di [] [40] 0) 1 0 0 s1) fun _ s2=>iL (s2.block c48) ⟨0,2,[0]⟩ 0&&(s2.starts c48 ⟨0,2,[0]⟩).1==[(40,(1,0,40))]&&(s2.starts c48 ⟨0,2,[0]⟩).2==0)=true:=by kernel_rfl
theorem zW(pa:Nat):okB ((iR pa [] 56).format c8) (fun _ s=>s.check c8==0&&okB (s.store 34 5) fun _ s1=>s1.check c8==9)=true:=by kernel_rfl
theorem xS(B:World)(Fr:List HP):
 ∀ w,Holds B Fr w→Calls Tryz.prog 239 [].toArray w (a8 B Fr (.bool true)):=by
 refine ap func239 aa ntmps239 aa (ac (ab (kPa aa aa (ad (ac (ac (ab (aw aa (ar call240 aa) (xT _ _) .free aa aa ?_))))))))
 refine kPv (bj aa) aa (ad (bG aa (rfl) (aq (ac (ab (kPv (aQ aa (df _ _ _ aa aa aa)) aa (kPb (aD zeroValue134 aa) aa fun b1=>(kPs (az (vs:=_) sizeOf134 aa aa aa aa aa) aa (ad (ac (ab ?_)))))))))))
 refine kPv (ah isAgg134 sizeOf134 aa aa) aa ?_
 refine aJ aa (ar call74 aa) (dQ _ _ ⟨3,1,8⟩ gb none 0 [] (by decide) (fun _ h=>absurd h (Nat.not_lt_zero _)) SlR.nil) .free aa aa ?_
 rintro _ _ ⟨bd,pa,N,s0,hN,hf,rfl,rfl⟩
 obtain rfl:N=56:=by have:(N:Int)=56:=hN.trans (by decide);omega
 have hfm:=pl gb hN hf
 have hu0:=im (kx pa 56) gb hf
 refine kPm aa aa (kPv (aA aa aa) aa (kPv (aA aa aa) aa (kPa aa aa (kPa aa aa (ad (am [3,2,1,0] rfl (ac (ac (ab (kPm aa aa (kPv (bj aa) aa ?_)))))))))))
 refine ad (bG aa (rfl) (aq (ac (ab (kPm aa aa (kPv (ah isAgg134 sizeOf134 aa aa) aa ?_))))))
 refine aJ aa (ar call117 aa) (fQ _ _ _ _ ⟨3,1,8⟩ gb hu0) .free aa aa ?_
 rintro _ _ ⟨sv,hsv,rfl,rfl⟩
 rw[dX (bX (Br pa) hf)]
 refine cC fun qv cv hqv hqi=> ?_
 subst hqv
 refine kPm aa aa (kPv (aA aa aa) aa (kPv (aA aa aa) aa (kPb (aD zeroValue151 aa) aa fun b4=> ?_)))
 refine kPs (az (vs:=_) sizeOf151 aa aa aa (by first | rfl | exact ew (by assumption)) rfl) rfl ?_;refine kPa aa aa ?_;refine ad ?_;refine am [5,4,1,0] rfl ?_;refine ac ?_;refine ab ?_;refine kPm aa aa ?_;refine kPv (al aa aa aa) aa ?_;refine kPm aa aa ?_
 refine ak aa (aE (m:=_) ir aa aa) (.on aa aa (ae aa)) aa aa (ak aa (ai isAgg3 aa aa) (.on aa aa (ae aa)) aa aa (ak aa (al aa aa aa) (.on aa aa (ae aa)) aa aa (kPv (ax aa aa aa) aa (kPm aa aa (ak aa (aE (m:=_) dz aa aa) (.on aa aa (ae aa)) aa aa (ak aa (ai isAgg3 aa aa) (.on aa aa (ae aa)) aa aa (ak aa (al aa aa aa) (.on aa aa (ae aa)) aa aa (kPv (ax aa aa aa) aa (kPm aa aa (ak aa (aE (m:=_) eY aa aa) (.on aa aa (ae aa)) aa aa (ak aa (ai isAgg30 aa aa) (.on aa aa (ae aa)) aa aa ?_)))))))))))
 refine ak aa (bB aa runUnderlying30 ⟨_,rfl⟩ rfl) (.on aa aa (ae aa)) aa aa (ak aa (al aa aa aa) (.on aa aa (ae aa)) aa aa (kPv (ax aa aa aa) aa (kPm aa aa (ak aa (ah isAgg151 sizeOf151 aa aa) (.on aa aa (ae aa)) aa aa ?_))))
 refine ak aa (ah isAgg134 sizeOf134 aa aa) (.on aa aa (ae aa)) aa aa ?_
 refine aw aa (ar call137 aa) (ie _ _ ⟨3,1,8⟩ gb ⟨0,0,[0]⟩ _ ⟨⟨by decide,by decide⟩,⟨by decide,by decide⟩⟩ hsv 3 (by decide)) (.on aa aa (ae aa)) aa aa ?_
 refine ak aa (al aa aa aa) (.on aa aa (ae aa)) aa aa (kPv (ax aa aa aa) aa (kPa aa aa (ad (am [0] rfl (ay ?_)))))
 exact au results239 aa (fun w hh=>⟨rfl,(hh.dp [0,0,0,0])⟩)
theorem xR(B:World)(Fr:List HP):
 ∀ w,Holds B Fr w→Calls Tryz.prog 236 [].toArray w (a8 B Fr (.bool true)):=by
 refine ap func236 aa ntmps236 aa (ac (ab (kPa aa aa (ad (ac (ac (ab (aw aa (ar call239 aa) (xS _ _) .free aa aa ?_))))))))
 refine kPv (bj aa) aa (ad (bG aa (rfl) (aq (ac (ab (kPv (aQ aa (df _ _ _ aa aa aa)) aa (kPb (aD zeroValue134 aa) aa fun b1=>(kPs (az (vs:=_) sizeOf134 aa aa aa aa aa) aa (ad (ac (ab ?_)))))))))))
 refine kPv (ah isAgg134 sizeOf134 aa aa) aa ?_
 refine aJ aa (ar call74 aa) (dQ _ _ ⟨3,1,8⟩ gb none 0 [] (by decide) (fun _ h=>absurd h (Nat.not_lt_zero _)) SlR.nil) .free aa aa ?_
 rintro _ _ ⟨bd,pa,N,s0,hN,hf,rfl,rfl⟩
 obtain rfl:N=56:=by have:(N:Int)=56:=hN.trans (by decide);omega
 have hfm:=pl gb hN hf
 have hu0:=im (kx pa 56) gb hf
 refine kPm aa aa (kPv (aA aa aa) aa (kPv (aA aa aa) aa (kPa aa aa (kPa aa aa (ad (am [3,2,1,0] rfl (ac (ac (ab (kPm aa aa (kPv (bj aa) aa ?_)))))))))))
 refine ad (bG aa (rfl) (aq (ac (ab (kPm aa aa (kPv (ah isAgg134 sizeOf134 aa aa) aa ?_))))))
 refine kPv (aQ aa (qR _ aa)) aa (kPm aa aa (kPv (dt aa aa) aa (aJ aa (ar call85 aa) (mT _ _ bd ⟨3,1,8⟩ gb 2 0 s0 hfm.lim hu0) .free aa aa ?_)))
 rintro _ _ ⟨x1,s1,hm1,rfl,hl1,hn1,hu1,rfl⟩
 have hev:=bX (bX (Bq pa) hf) hm1
 simp only[Bool.and_eq_true] at hev
 rw[nF hev.1]
 refine kPm aa aa (kPv (aA aa aa) aa (kPv (aA aa aa) aa (kPa aa aa (kPa aa aa (ad (am [5,4,2,1,0] rfl (ac (ab (kPm aa aa (kPv (ah isAgg134 sizeOf134 aa aa) aa ?_))))))))))
 refine kPv (aQ aa (qR _ aa)) aa (kPm aa aa (kPv (dt aa aa) aa (aJ aa (ar call85 aa) (mT _ _ bd ⟨3,1,8⟩ gb 5 0 s1 hl1 hu1) .free aa aa ?_)))
 rintro _ _ ⟨x2,s2,hm2,rfl,hl2,hn2,hu2,rfl⟩
 rw[show x2=((0:Int),(4:Int)) from nF (bX hev.2 hm2)]
 refine kPm aa aa (kPv (aA aa aa) aa (kPv (aA aa aa) aa (kPa aa aa (kPa aa aa (ad (am [7,5,4,1,0] rfl (ac (ab (kPm aa aa (kPv (ah isAgg134 sizeOf134 aa aa) aa ?_))))))))))
 refine aw aa (ar call119 aa) (jH _ _ ⟨3,1,8⟩ gb 0 (by decide) (by decide)) .free aa aa ?_
 refine kPv (al aa aa aa) aa (kPm aa aa (ak aa (aj aa) (.on aa aa (ae aa)) aa aa (ak aa (al aa aa aa) (.on aa aa (ae aa)) aa aa (kPv (ax aa aa aa) aa (kPm aa aa (ak aa (aj aa) (.on aa aa (ae aa)) aa aa (ak aa (al aa aa aa) (.on aa aa (ae aa)) aa aa (kPv (ax aa aa aa) aa (kPa aa aa (ad (am [0] rfl ?_)))))))))))
 refine ay ?_
 exact au results236 aa (fun w hh=>⟨rfl,(hh.dp [0,0])⟩)
abbrev DH(h:Int×Int):List Value:=[u8 h.1,u8 h.2]
theorem py:mX 2 DH:=⟨fun _=>rfl,fun _=>rfl⟩
theorem hh1{a b:Int}(h1:0≤a∧a<256)(h2:0≤b∧b<256):∀ h∈[(a,b)],(0≤h.1∧h.1<256)∧(0≤h.2∧h.2<256):=fun h hm=>by rw[List.mem_singleton.1 hm];exact⟨h1,h2⟩
theorem B4{B:World}{H:List HP}{b:Nat}{x y:Value}{T1:TypeId}{U:List Value→List HP}[fM H b [x,y] T1 U]{cap:Nat}:SlN B H (.slice (some ⟨b,0,none⟩) 1 cap) 2 [[x,y]]:=
 SlN.row (cs:=[[x,y]]) fun i c h=>by
  cases i with
  | zero=>cases h;exact⟨rfl,fun j _=>by rw[Nat.zero_mul,Nat.zero_add,Nat.zero_add]⟩
  | succ i=>cases h
theorem vp(B:World)(Fr:List HP):
 ∀ w,Holds B Fr w→Calls Tryz.prog 229 [].toArray w (a8 B Fr (.bool true)):=by
 refine ap func229 aa ntmps229 aa (ac (ab (kPa aa aa (ad (ac (ac (ab (aw aa (ar call236 aa) (xR _ _) .free aa aa ?_))))))))
 refine kPv (bj aa) aa (ad (bG aa (rfl) (aq (ac (ab (kPv (aQ aa (jk _ aa)) aa (kPv (aQ aa (ub _ _ aa aa)) aa (kPb (lB py (v:=(1,2)) runUnderlying190 sizeOf189 zeroValue189 ⟨⟨by decide,by decide⟩,rfl⟩ rfl aa) aa fun b17=>(aJ aa (ar call168 aa) (qL _ _ 0 0 40 ⟨by decide,by decide,by decide⟩ ⟨3,1,48⟩ sV [(1,2)] (hh1 ⟨by decide,by decide⟩ ⟨by decide,by decide⟩) (by decide) (some ⟨b17,0,none⟩) 1 B4) .free aa aa ?_)))))))))
 rintro _ _ ⟨bd,pa,N,s0,sF,out,ov,sv,hfm,hN,⟨hus0,hf⟩,hfill,huF,hlF,hnF,hov,hsv,rfl,rfl⟩
 obtain rfl:=n48 hN
 have hev:=bX (bX (zY pa) hf) hfill
 simp only[Bool.and_eq_true,beq_iff_eq] at hev
 obtain⟨⟨⟨⟨rfl,e1⟩,e2⟩,e3⟩,e4⟩:=hev
 rw[dX e1]
 refine aS [2] (cC fun qo co hqo hqi=> ?_)
 subst hqo
 obtain⟨bO,oO,rfl⟩:=hqi 0 (by decide)
 have ho:lF (2,1,40):=⟨⟨by decide,by decide⟩,⟨by decide,by decide⟩,⟨by decide,by decide⟩⟩
 refine kPm aa aa (kPv (aA aa aa) aa (kPv (aA aa aa) aa (kPv (aA aa aa) aa (kPv (aA aa aa) aa (kPb (aD zeroValue134 aa) aa fun b2=>(kPb (aD zeroValue151 aa) aa fun b3=>(kPa aa aa (kPs (az (vs:=_) sizeOf134 aa aa aa aa aa) aa ?_))))))))
 refine kPs (az (vs:=_) sizeOf151 aa aa aa (by first | rfl | exact ew (by assumption)) rfl) rfl ?_;refine kPa aa aa ?_;refine ad ?_;refine am [4,1,3,2,0] rfl ?_;refine ac ?_;refine ac ?_;refine ab ?_;refine kPm aa aa ?_;refine kPv (du runUnderlying90 aa aa aa) aa ?_;refine kPm aa aa ?_;refine ak aa (aj aa) (.on aa aa (ae aa)) aa aa ?_
 refine ak aa (bB aa runUnderlying166 ⟨_,rfl⟩ rfl) (.on aa aa (ae aa)) aa aa (ak aa (al aa aa aa) (.on aa aa (ae aa)) aa aa (kPv (aG aa aa aa) aa (ad (bG aa (rfl) (aq (ac (aN (H':=dC 3 i64 0 (.slice (some ⟨bO,oO,none⟩) 1 co,[40])::row b3 [i64 0,i64 3,sv] 151::row b2 [i64 3,i64 1,i64 48] 134::cS 0 (sv,[0])::aB bd sF::Fr) (fun w hh=>by have h:=((hh.dp [5]).pk [2]);exact h) ?_)))))))
 refine kP (.br [0,1,2,3,4,5] 6 (.fin [7,8,9,10,11,12]) 10 (.fin [6,7,8,9,11,12])) [6,10,11] [0,1,2,3,4,5,7,8,9] [10,11] [row b2 [i64 3,i64 1,i64 48] 134,row b3 [i64 0,i64 3,sv] 151,dC 3 i64 0 (.slice (some ⟨bO,oO,none⟩) 1 co,[40])] [1,0] (G:=Nat) (fun b5=>[(5,ptr b5),(6,i64 (sF.objOf ⟨3,1,48⟩ ⟨0,3,[0]⟩ 40).2)]) (fun b5=>row b5 [i64 (sF.objOf ⟨3,1,48⟩ ⟨0,3,[0]⟩ 40).1.1,i64 (sF.objOf ⟨3,1,48⟩ ⟨0,3,[0]⟩ 40).1.2.1,i64 (sF.objOf ⟨3,1,48⟩ ⟨0,3,[0]⟩ 40).1.2.2] 160::dC 3 i64 0 (.slice (some ⟨bO,oO,none⟩) 1 co,[40])::row b3 [i64 0,i64 3,sv] 151::row b2 [i64 3,i64 1,i64 48] 134::cS 0 (sv,[0])::aB bd sF::Fr) Tryz.mixed (by kernel_rfl) ?_ ?_
 ·skip
  refine wV (an aa aa aa (aj aa) .free aa (an aa aa aa (ah isAgg134 sizeOf134 aa aa) .free aa ?_))
  refine an aa aa aa (ah isAgg151 sizeOf151 aa aa) .free aa ?_
  refine an aa aa aa (aj aa) .free aa (an aa aa aa (cj runUnderlying166 sizeOf3 aa aa (by decide) (by decide)) .free aa (an aa aa aa (bM (v:=i64 40) isAgg3 (cO 2 aa) aa aa) .free aa (cF ?_)))
  refine p5 aa aa ?_ ?_
  ·skip
   refine aw aa (ar call147 aa) (bH (q:=aB) (fun Fr=>j5 _ Fr _ _ ⟨3,1,48⟩ iK ⟨0,3,[0]⟩ sv ⟨⟨by decide,by decide⟩,⟨by decide,by decide⟩⟩ hsv 40 (by decide))) .free aa aa ?_
   refine ad (sf aa (jQ (an aa aa aa (aj aa) .free aa (an aa aa aa (aA aa aa) .free aa (an aa aa aa (aA aa aa) .free aa (aT aa aa (kPb (aD zeroValue160 aa) aa fun b5=>(ad (cL (aT aa aa (kPs (az (vs:=_) sizeOf160 aa aa aa aa aa) aa ?_)))))))))))
   refine ad (cL (aP aa aa aa (bD aa) .free aa (cF ?_)))
   exact fun a w st_=>⟨b5,st_.to (aC aa) (fun hh=>hh)⟩
  ·skip
   refine kPb (aD zeroValue160 aa) aa fun b5=>(ad (un (jQ (aT aa aa (aw aa (ar call147 aa) (bH (q:=aB) (fun Fr=>j5 _ Fr _ _ ⟨3,1,48⟩ iK ⟨0,3,[0]⟩ sv ⟨⟨by decide,by decide⟩,⟨by decide,by decide⟩⟩ hsv 40 (by decide))) .free aa aa ?_)))))
   refine ad (c6 aa (an aa aa aa (aj aa) .free aa (an aa aa aa (aA aa aa) .free aa (an aa aa aa (aA aa aa) .free aa (aT aa aa (kPs (az (vs:=_) sizeOf160 aa aa aa aa aa) aa (ad (cL (aP aa aa aa (bD aa) .free aa (cF ?_))))))))))
   exact fun a w st_=>⟨b5,st_.to (aC aa) (fun hh=>hh)⟩
 intro b5
 refine bZ (σ':=[(5,ptr b5),(6,i64 (sF.objOf ⟨3,1,48⟩ ⟨0,3,[0]⟩ 40).2),(1,_),(0,_)]) (aC aa) (ac ?_)
 rw[show sF.objOf ⟨3,1,48⟩ ⟨0,3,[0]⟩ 40=(((2:Int),(1:Int),(40:Int)),(0:Int)) from AJ e2]
 refine ab (kPv (ah isAgg160 sizeOf160 aa aa) aa ?_)
 refine kPm aa aa (aw aa (ar call237 aa) (bH (q:=aB) (fun Fr=>sN _ Fr _ _ (2,1,40) ho 0)) .free aa aa ?_)
 refine kPm aa aa (kPv (aA aa aa) aa (kPv (aA aa aa) aa (kPa aa aa (kPa aa aa (ad (am [8,5,6,1,0] rfl (ac (ab (kPv (ah isAgg160 sizeOf160 aa aa) aa ?_)))))))))
 refine kPm aa aa (kPv (dt aa aa) aa (aS [5] (aJ aa (ar call88 aa) (uG B _ bd (2,1,40) ho 1 9 (by decide) sF hlF huF) .free aa aa ?_)))
 rintro _ _ ⟨x2,s2,hm2,rfl,hl2,hn2,hu2,rfl⟩
 have hev2:=bX e4 hm2
 simp only[Bool.and_eq_true,beq_iff_eq] at hev2
 obtain⟨f1,f2⟩:=hev2
 obtain rfl:x2=0:=f1
 refine kPa aa aa (ad (ac (ab (kPv (ah isAgg160 sizeOf160 aa aa) aa ?_))))
 refine kPm aa aa (aw aa (ar call237 aa) (bH (q:=aB) (fun Fr=>sN _ Fr _ _ (2,1,40) ho 1)) .free aa aa ?_)
 refine kPm aa aa (kPv (aA aa aa) aa (kPv (aA aa aa) aa (kPa aa aa (kPa aa aa (ad (am [11,10,9,8,5,6,1,0] rfl (ac ?_)))))))
 rw[show sF.objRead (2,1,40) 0=((0:Int),(5:Int)) from nF e3,show s2.objRead (2,1,40) 1=((9:Int),(0:Int)) from nF f2]
 refine ab (kPm aa aa (kPv (al aa aa aa) aa (kPm aa aa (ak aa (aj aa) (.on aa aa (ae aa)) aa aa (ak aa (al aa aa aa) (.on aa aa (ae aa)) aa aa (kPv (ax aa aa aa) aa (kPm aa aa (ak aa (aj aa) (.on aa aa (ae aa)) aa aa (ak aa (al aa aa aa) (.on aa aa (ae aa)) aa aa (kPv (ax aa aa aa) aa (kPm aa aa ?_)))))))))))
 refine ak aa (aj aa) (.on aa aa (ae aa)) aa aa (ak aa (al aa aa aa) (.on aa aa (ae aa)) aa aa (kPv (ax aa aa aa) aa (kPm aa aa (ak aa (aj aa) (.on aa aa (ae aa)) aa aa (ak aa (al aa aa aa) (.on aa aa (ae aa)) aa aa (kPv (ax aa aa aa) aa (kPm aa aa (ak aa (ah isAgg160 sizeOf160 aa aa) (.on aa aa (ae aa)) aa aa ?_))))))))
 refine ak aa (aj aa) (.on aa aa (ae aa)) aa aa (aJ aa (ar call196 aa) (qf _ _ (2,1,40) bd) (.on aa aa (ae aa)) aa aa ?_)
 rintro _ _ ⟨n1,n2,rfl,rfl⟩
 refine ak aa (nL runUnderlying282 ⟨_,_,_,rfl⟩ rfl aa aa) (.on aa aa (ae aa)) aa aa (kPv (ax aa aa aa) aa (kPa aa aa (ad (am [0] rfl (ay ?_)))))
 exact au results229 aa (fun w hh=>⟨rfl,(hh.dp [0,0,0,0,0,0,0,0])⟩)
theorem vo(B:World)(Fr:List HP):
 ∀ w,Holds B Fr w→Calls Tryz.prog 216 [].toArray w (a8 B Fr (.bool true)):=by
 refine ap func216 aa ntmps216 aa (ac (ab (kPa aa aa (ad (ac (ac (ab (aw aa (ar call229 aa) (vp _ _) .free aa aa ?_))))))))
 refine kPv (bj aa) aa (ad (bG aa (rfl) (aq (ac (ab (kPv (aQ aa (jk _ aa)) aa (kPv (aQ aa (hZ _ aa)) aa (kPb (lB py (v:=(0,1)) runUnderlying190 sizeOf189 zeroValue189 ⟨⟨by decide,by decide⟩,rfl⟩ rfl aa) aa fun b12=>(aJ aa (ar call114 aa) (kM _ _ 0 0 40 ⟨by decide,by decide,by decide⟩ ⟨3,1,48⟩ sV [(0,1)] (hh1 ⟨by decide,by decide⟩ ⟨by decide,by decide⟩) (by decide) (some ⟨b12,0,none⟩) _ B4 none 0 [] SlR.nil (fun _ h=>(by cases h)) (by decide) (fun _ h=>absurd h (Nat.not_lt_zero _)) 0 (by decide)) .free aa aa ?_)))))))))
 rintro _ _ ⟨bd,pa,N,s0,sF,out,hfm,hN,⟨hus0,hf⟩,hfill,hor⟩
 obtain rfl:=n48 hN
 have hev:=bX (bX (zX pa) hf) hfill
 simp only[Bool.and_eq_true,beq_iff_eq] at hev
 obtain⟨⟨rfl,e1⟩,e2⟩:=hev
 rw[dX e1] at hor
 rcases hor with ⟨n1,n2,s1,s2,ov,sv,hl1,hl2,hu2,hlm2,hn2,hov,hsv,rfl,rfl⟩ | ⟨s1,hl1,_⟩
 rotate_left
 ·have e3:=bX e2 hl1
  simp only[Bool.and_eq_true,beq_iff_eq] at e3
  exact absurd e3.1 (by simp)
 have e3:=bX e2 hl1
 simp only[Bool.and_eq_true,beq_iff_eq] at e3
 obtain⟨e4,e5⟩:=e3
 obtain rfl:n1=0:=by injection e4
 have e6:=bX e5 hl2
 simp only[Bool.and_eq_true,beq_iff_eq] at e6
 obtain⟨⟨e7,e8⟩,e9⟩:=e6
 rw[dX e7]
 refine aS [2] (cC fun qo co hqo hqi=> ?_)
 subst hqo
 obtain⟨bO,oO,rfl⟩:=hqi 0 (by decide)
 refine kPm aa aa (kPv (aA aa aa) aa (kPv (aA aa aa) aa (kPv (aA aa aa) aa (kPv (aA aa aa) aa (kPb (aD zeroValue134 aa) aa fun b2=>(kPb (aD zeroValue151 aa) aa fun b3=>(kPa aa aa (kPs (az (vs:=_) sizeOf134 aa aa aa aa aa) aa ?_))))))))
 refine kPs (az (vs:=_) sizeOf151 aa aa aa (by first | rfl | exact ew (by assumption)) rfl) rfl ?_;refine kPa aa aa ?_;refine ad ?_;refine am [4,1,3,2,0] rfl ?_;refine ac ?_;refine ac ?_;refine ab ?_;refine kPm aa aa ?_;refine kPv (du runUnderlying90 aa aa aa) aa ?_;refine kPm aa aa ?_;refine ak aa (aj aa) (.on aa aa (ae aa)) aa aa ?_
 refine ak aa (ah isAgg134 sizeOf134 aa aa) (.on aa aa (ae aa)) aa aa ?_
 refine ak aa (ah isAgg151 sizeOf151 aa aa) (.on aa aa (ae aa)) aa aa ?_
 refine aJ aa (ar call183 aa) (nY _ _ bd ⟨3,1,48⟩ ⟨0,2,[0]⟩ sv hsv) (.on aa aa (ae aa)) aa aa ?_
 rintro _ _ ⟨c3,c4,c5,rfl,rfl⟩
 refine ak aa (nL runUnderlying266 ⟨_,_,_,rfl⟩ rfl aa aa) (.on aa aa (ae aa)) aa aa (kPv (aG aa aa aa) aa (ad (am [26,4,1,3,2,0] rfl (bG aa (rfl) (aq (ac (ab (kPm aa aa (kPv (ah isAgg134 sizeOf134 aa aa) aa ?_)))))))))
 refine kPv (ah isAgg151 sizeOf151 aa aa) aa ?_
 refine aS [7] (aJ aa (ar call180 aa) (nT _ _ bd s2 ⟨3,1,48⟩ iK ⟨0,2,[0]⟩ sv ⟨⟨by decide,by decide⟩,⟨by decide,by decide⟩⟩ hsv) .free aa aa ?_)
 rintro _ _ ⟨mb,rfl,rfl⟩
 rw[e8,e9]
 refine kPm aa aa (kPv (aA aa aa) aa (kPv (aA aa aa) aa (kPa aa aa (kPa aa aa (ad (am [6,5,4,0] rfl (ac (ab (kPm aa aa (kPv (al aa aa aa) aa (kPm aa aa ?_)))))))))))
 refine ak aa (aj aa) (.on aa aa (ae aa)) aa aa (ak aa (wD aa runUnderlying259 aa) (.on aa aa (ae aa)) aa aa (ak aa (al aa aa aa) (.on aa aa (ae aa)) aa aa (kPv (ax aa aa aa) aa (kPm aa aa (ak aa (aj aa) (.on aa aa (ae aa)) aa aa (ak aa (bB aa runUnderlying166 ⟨_,rfl⟩ rfl) (.on aa aa (ae aa)) aa aa (ak aa (al aa aa aa) (.on aa aa (ae aa)) aa aa (kPv (ax aa aa aa) aa (kPm aa aa (ak aa (aj aa) (.on aa aa (ae aa)) aa aa (ak aa (aj aa) (.on aa aa (ae aa)) aa aa ?_)))))))))))
 refine ak aa (cj runUnderlying166 sizeOf3 aa aa (by decide) (by decide)) (.on aa aa (ae aa)) aa aa (ak aa (bM (v:=i64 40) isAgg3 (cO 7 aa) aa aa) (.on aa aa (ae aa)) aa aa (ak aa ((lu runUnderlying259 runUnderlying3 zeroValue160 aa aa).eq (yU _)) (.on aa aa (ae aa)) aa aa (ak aa (xH runUnderlying160 (t:=102) (off:=0) aa isAgg102 sizeOf102 aa) (.on aa aa (ae aa)) aa aa (ak aa (hO runUnderlying102 (t:=3) (off:=0) aa isAgg3 aa aa) (.on aa aa (ae aa)) aa aa (ak aa (al aa aa aa) (.on aa aa (ae aa)) aa aa (kPv (ax aa aa aa) aa (kPa aa aa (ad (am [0] rfl (ay ?_))))))))))
 exact au results216 aa (fun w hh=>⟨rfl,(hh.dp [0,0,0,0,0,0,0,0,0,0])⟩)
def hs2:List (Int×Int):=[(0,1),(0,2)]
theorem hh2:∀ h∈[((0:Int),(1:Int)),(0,2)],(0≤h.1∧h.1<256)∧(0≤h.2∧h.2<256):=fun h hm=>by
 simp only[List.mem_cons,List.not_mem_nil,or_false] at hm
 rcases hm with rfl | rfl<;>exact⟨by decide,by decide⟩
theorem C0{B:World}{H:List HP}{b:Nat}{x y z u:Value}{T1:TypeId}{U:List Value→List HP}[fM H b [x,y,z,u] T1 U]{cap:Nat}:SlN B H (.slice (some ⟨b,0,none⟩) 2 cap) 2 [[x,y],[z,u]]:=
 SlN.row (cs:=[[x,y],[z,u]]) fun i c h=>by
  cases i with
  | zero=>
    cases h
    refine⟨rfl,fun j hj=> ?_⟩
    rcases j with _ | _ | j
    ·rfl
    ·rfl
    ·omega
  | succ i=>
    cases i with
    | zero=>
      cases h
      refine⟨rfl,fun j hj=> ?_⟩
      rcases j with _ | _ | j
      ·rfl
      ·rfl
      ·omega
    | succ i=>cases h
theorem wL{α:Type}{B:World}{σ:Env}{H:List HP}{P:Program}{m:Nat}{enc:α→List Value}(he:mX m enc){d:Option Tmp}{ty:TypeId}{p:String}{af:Array Edge}{g:Option (Nat×Bool)}{t e:TypeId}{x y:Operand}{v u:α}{xv yv z:Value}(ht:∀ w,(underlying t).run P w= .ok (.slice e) w)(hs:∀ w,(sizeOf e).run P w= .ok m w)(hz:∀ w,(zeroValue e).run P w= .ok z w)(hm0:(0<m∧m≤1000)∧z.cells.size=m)(hx:evO σ x=some xv)(hv:xv.cells=(enc v).toArray)(hy:evO σ y=some yv)(hu:yv.cells=(enc u).toArray):
 Chg P B σ H ⟨d,.buildSlice t 2 #[(0,x),(1,y)],ty,p,af,g⟩ (fun r H'=>∃ b,r= .slice (some ⟨b,0,none⟩) 2 2∧H'=row b (enc v++enc u) e::H):=by
 intro a w kn hh
 refine⟨.value (.slice (some ⟨w.heap.size,0,none⟩) 2 2),{w with heap:=w.heap.push (.cells (enc v++enc u).toArray e)},?_,_,.inl aa,_,⟨_,rfl,rfl⟩,by simpa [row] using hh.new _⟩
 have h1:m≠0:=by omega
 have h2:¬ 16777216<2*m:=by omega
 have hl:(enc v).length=m:=he.len v
 have hl2:(enc u).length=m:=he.len u
 have key:∀ (k:Nat) (vs:List Value) (a:Array Value) (j:Nat),k+vs.length≤a.size→(List.foldl (fun (cs:Array Value) (x:Value×Nat)=>cs.setIfInBounds (k+x.2) x.1) a vs.zipIdx)[j]? =if k≤j∧j<k+vs.length then vs[j - k]? else a[j]? :=by
  intro k vs a j h
  have:=kQ vs k a h j
  rw[←this]
  congr 1
  have hz:vs.zipIdx k=vs.zipIdx.map fun x=>(x.1,k+x.2):=by
   apply List.ext_getElem?
   intro i
   simp[List.getElem?_zipIdx]
   cases vs[i]?<;>simp
  rw[hz,List.foldl_map]
 have hsz:∀ (g:Nat→Nat) (l:List (Value×Nat)) (a:Array Value),(List.foldl (fun (cs:Array Value) (x:Value×Nat)=>cs.setIfInBounds (g x.2) x.1) a l).size=a.size:=by
  intro g l
  induction l with
  | nil=>intro a;rfl
  | cons x l ih=>intro a;rw[List.foldl_cons,ih];simp
 simp[execOp,Instr.buildSlice,ht,hs,Instr.fill,cZ,hz,kn.eval hx,hv,kn.eval hy,hu,h1,h2,hl,hl2]
 generalize hA:Array.map (fun x=>z.cells[x%z.cells.size]!) (Array.range (2*m))=A
 have hAs:A.size=2*m:=by rw[←hA];simp
 rw[if_neg (by omega),if_neg (by omega),if_neg (by rw[hsz (fun x=>x) _ A];omega)]
 generalize hF:List.foldl (fun (cs:Array Value) (x:Value×Nat)=>cs.setIfInBounds x.snd x.fst) A (enc v).zipIdx=F
 have hFs:F.size=2*m:=by rw[←hF,hsz (fun x=>x) _ A];exact hAs
 have hF2:∀ j,F[j]? =if j<m then (enc v)[j]? else A[j]? :=fun j=>by
  have:=kQ (enc v) 0 A (by omega) j
  rw[←hF,this]
  simp[hl]
 have e9:List.foldl (fun (cs:Array Value) (x:Value×Nat)=>cs.setIfInBounds (m+x.snd) x.fst) F (enc u).zipIdx=(enc v++enc u).toArray:=by
  apply Array.ext_getElem?
  intro j
  rw[key m (enc u) F j (by omega),hF2,show(enc v++enc u).toArray[j]? =(enc v++enc u)[j]? by simp,List.getElem?_append,hl,hl2]
  by_cases h3:j<m
  ·rw[if_neg (by omega),if_pos h3,if_pos h3]
  ·rw[if_neg h3]
   by_cases h4:j<m+m
   ·rw[if_pos (by omega),if_neg h3]
   ·rw[if_neg (by omega),if_neg h3,List.getElem?_eq_none (by omega),Array.getElem?_eq_none (by omega)]
 simp only[e9]
 rfl
theorem zV(pa:Nat):okB ((iR pa [] 136).format c48) (fun _ s=>okB (gW c48 [(0,1),(0,2)] s []) fun out sF=>out==[40,42]&&iL (sF.block c48) ⟨0,5,[0]⟩ 0&&okB (eE c48 ⟨0,5,[0]⟩ (di [] [40,42] 0) [40,42] 0 sF) fun n1 s1=>n1==some 0&&okB (fE c48 (di [] [40,42] 0) 1 0 0 s1) fun _ s2=>iL (s2.block c48) ⟨0,5,[0]⟩ 0&&s2.reachSize c48 ⟨0,5,[0]⟩ []==0&&s2.reachSize c48 ⟨0,5,[0]⟩ [42]==3)=true:=by kernel_rfl
theorem zU(pa bd:Nat):okB ((iR pa [] 136).format c48) (fun _ s=>okB (gW c48 [(0,1)] s []) fun out sF=>out==[40]&&iL (sF.block c48) ⟨0,2,[0]⟩ 0&&okB (eE c48 ⟨0,2,[0]⟩ (di [] [40] 0) [40] 0 sF) fun n1 s1=>n1==some 0&&okB (fE c48 (di [] [40] 0) 1 0 0 s1) fun _ s2=>iL (s2.block c48) ⟨0,2,[0]⟩ 0&&okB ((eh bd c48 ⟨0,2,[0]⟩ [0]).step s2) fun r s3=> !r.1&&okB (r.2.step s3) fun r2 _=>r2.1&&iL (r2.2.block,0) ⟨1,0,[0]⟩ 0)=true:=by kernel_rfl
def BF(o:Option bE)(w v:Int):Bool:=match o with
 | some X=>(bJ X.went w).getD 0==v
 | none=>false
theorem zT(pa bd:Nat):okB ((iR pa [] 136).format c48) (fun _ s=>okB (gW c48 [(0,1),(0,2)] s []) fun out sF=>out==[40,42]&&iL (sF.block c48) ⟨0,5,[0]⟩ 0&&okB (eE c48 ⟨0,5,[0]⟩ (di [] [40,42] 0) [40,42] 0 sF) fun n1 s1=>n1==some 0&&okB (fE c48 (di [] [40,42] 0) 1 0 0 s1) fun _ s2=>iL (s2.block c48) ⟨0,5,[0]⟩ 0&&(bU bd c48 s2).n==0&&okB (eJ bd c48 ⟨bU bd c48 s2,0,0,[],[]⟩ s2 [42]) fun r s3=>r.2.1==0&&BF r.1 42 88&&iL (s3.block c48) ⟨1,3,[0]⟩ 0)=true:=by kernel_rfl
theorem vn(B:World)(Fr:List HP):
 ∀ w,Holds B Fr w→Calls Tryz.prog 201 [].toArray w (a8 B Fr (.bool true)):=by
 refine ap func201 aa ntmps201 aa (ac (ab (kPa aa aa (ad (ac (ac (ab (aw aa (ar call216 aa) (vo _ _) .free aa aa ?_))))))))
 refine kPv (bj aa) aa (ad (bG aa (rfl) (aq (ac (ab (kPv (aQ aa (df _ _ _ aa aa aa)) aa (kPb (aD zeroValue134 aa) aa fun b1=>(kPs (az (vs:=_) sizeOf134 aa aa aa aa aa) aa (ad (ac (ab ?_)))))))))))
 refine kPv (ah isAgg134 sizeOf134 aa aa) aa ?_
 refine aJ aa (ar call74 aa) (dQ _ _ ⟨3,1,8⟩ gb none 0 [] (by decide) (fun _ h=>absurd h (Nat.not_lt_zero _)) SlR.nil) .free aa aa ?_
 rintro _ _ ⟨bd,pa,N,s0,hN,hf,rfl,rfl⟩
 obtain rfl:N=56:=by have:(N:Int)=56:=hN.trans (by decide);omega
 have hfm:=pl gb hN hf
 have hu0:=im (kx pa 56) gb hf
 have hev:=bX (zW pa) hf
 simp only[Bool.and_eq_true,beq_iff_eq] at hev
 refine kPm aa aa (kPv (aA aa aa) aa (kPv (aA aa aa) aa (kPa aa aa (kPa aa aa (ad (am [3,2,1,0] rfl (ac (ac (ab (kPm aa aa (kPv (bj aa) aa ?_)))))))))))
 refine kPm aa aa (ak aa (aj aa) (.on aa aa (ae aa)) aa aa (ak aa (ah isAgg134 sizeOf134 aa aa) (.on aa aa (ae aa)) aa aa ?_))
 refine aw aa (ar call130 aa) (bH (q:=aB) (fun Fr=>kS _ Fr _ s0 ⟨3,1,8⟩ gb hu0)) (.on aa aa (ae aa)) aa aa ?_
 refine ak aa (al aa aa aa) (.on aa aa (ae aa)) aa aa (kPv (aG aa aa aa) aa (ad (am [19,2,1,0] rfl (bG aa (by rw[hev.1];rfl) (aq (ac (ab (kPm aa aa (kPv (ah isAgg134 sizeOf134 aa aa) aa ?_)))))))))
 refine aw aa (ar call171 aa) (lR _ _ ⟨3,1,8⟩ gb 0 (by decide) (by decide)) .free aa aa ?_
 refine aJ aa (ar call145 aa) (oR _ _ bd s0 34 5 hfm.lim hu0 (by decide)) .free aa aa ?_
 rintro _ _ ⟨x1,s1,hm1,rfl,hl1,hn1,hu1,rfl⟩
 have hev2:=bX hev.2 hm1
 simp only[beq_iff_eq] at hev2
 refine ad (ac (ab (kPm aa aa (kPv (ah isAgg134 sizeOf134 aa aa) aa ?_))))
 refine aw aa (ar call130 aa) (bH (q:=aB) (fun Fr=>kS _ Fr _ s1 ⟨3,1,8⟩ gb hu1)) .free aa aa ?_
 refine kPv (al aa aa aa) aa (kPa aa aa (ad (am [0] rfl (ay ?_))))
 exact au results201 aa (fun w hh=>⟨by rw[hev2];rfl,(hh.dp [0,0])⟩)
theorem vm(B:World)(Fr:List HP):
 ∀ w,Holds B Fr w→Calls Tryz.prog 165 [].toArray w (a8 B Fr (.bool true)):=by
 refine ap func165 aa ntmps165 aa (ac (ab (kPa aa aa (ad (ac (ac (ab (aw aa (ar call201 aa) (vn _ _) .free aa aa ?_))))))))
 refine kPv (bj aa) aa (ad (bG aa (rfl) (aq (ac (ab (kPv (aQ aa (jk _ aa)) aa (kPv (aQ aa (hZ _ aa)) aa (kPv (aQ aa (hZ _ aa)) aa (kPb (wL py (v:=(0,1)) (u:=(0,2)) runUnderlying190 sizeOf189 zeroValue189 ⟨⟨by decide,by decide⟩,rfl⟩ rfl aa aa aa) aa fun b11=>(aJ aa (ar call114 aa) (kM _ _ 0 0 40 ⟨by decide,by decide,by decide⟩ ⟨3,1,48⟩ sV [(0,1),(0,2)] (hh2) (by decide) (some ⟨b11,0,none⟩) _ C0 none 0 [] SlR.nil (fun _ h=>(by cases h)) (by decide) (fun _ h=>absurd h (Nat.not_lt_zero _)) 0 (by decide)) .free aa aa ?_))))))))))
 rintro _ _ ⟨bd,pa,N,s0,sF,out,hfm,hN,⟨hus0,hf⟩,hfill,hor⟩
 obtain rfl:=n48 hN
 have hev:=bX (bX (zV pa) hf) hfill
 simp only[Bool.and_eq_true,beq_iff_eq] at hev
 obtain⟨⟨rfl,e1⟩,e2⟩:=hev
 rw[dX e1] at hor
 rcases hor with ⟨n1,n2,s1,s2,ov,sv,hl1,hl2,hu2,hlm2,hn2,hov,hsv,rfl,rfl⟩ | ⟨s1,hl1,_⟩
 rotate_left
 ·have e3:=bX e2 hl1
  simp only[Bool.and_eq_true,beq_iff_eq] at e3
  exact absurd e3.1 (by simp)
 have e3:=bX e2 hl1
 simp only[Bool.and_eq_true,beq_iff_eq] at e3
 obtain⟨e4,e5⟩:=e3
 obtain rfl:n1=0:=by injection e4
 have e6:=bX e5 hl2
 simp only[Bool.and_eq_true,beq_iff_eq] at e6
 obtain⟨⟨e7,e8⟩,e9⟩:=e6
 rw[dX e7]
 refine aS [2] (cC fun qo co hqo hqi=> ?_)
 subst hqo
 obtain⟨bO,oO,rfl⟩:=hqi 0 (by decide)
 refine kPm aa aa (kPv (aA aa aa) aa (kPv (aA aa aa) aa (kPv (aA aa aa) aa (kPv (aA aa aa) aa (kPb (aD zeroValue134 aa) aa fun b2=>(kPb (aD zeroValue151 aa) aa fun b3=>(kPa aa aa (kPs (az (vs:=_) sizeOf134 aa aa aa aa aa) aa ?_))))))))
 refine kPs (az (vs:=_) sizeOf151 aa aa aa (by first | rfl | exact ew (by assumption)) rfl) rfl ?_;refine kPa aa aa ?_;refine ad ?_;refine am [4,1,3,2,0] rfl ?_;refine ac ?_;refine ac ?_;refine ab ?_;refine kPm aa aa ?_;refine kPv (du runUnderlying90 aa aa aa) aa ?_;refine kPm aa aa ?_;refine ak aa (aj aa) (.on aa aa (ae aa)) aa aa ?_
 refine ak aa (bB aa runUnderlying166 ⟨_,rfl⟩ rfl) (.on aa aa (ae aa)) aa aa (ak aa (al aa aa aa) (.on aa aa (ae aa)) aa aa (kPv (aG aa aa aa) aa (kPm aa aa (ak aa (aj aa) (.on aa aa (ae aa)) aa aa (ak aa (ah isAgg134 sizeOf134 aa aa) (.on aa aa (ae aa)) aa aa ?_)))))
 refine ak aa (ah isAgg151 sizeOf151 aa aa) (.on aa aa (ae aa)) aa aa ?_
 refine aJ aa (ar call154 aa) (r5 _ _ bd ⟨3,1,48⟩ ⟨0,5,[0]⟩ sv hsv (.slice none 0 0) aa) (.on aa aa (ae aa)) aa aa ?_
 rintro _ _ ⟨c1,c2,c3,c4,rfl,rfl⟩
 refine ak aa (nL runUnderlying224 ⟨_,_,_,rfl⟩ rfl aa aa) (.on aa aa (ae aa)) aa aa (kPv (aG aa aa aa) aa (ad (am [30,4,1,3,2,0] rfl (bG aa (rfl) (aq (ac (aN (H':=aB bd s2::dC 3 i64 0 (.slice (some ⟨bO,oO,none⟩) 2 co,[40,42])::row b3 [i64 0,i64 5,sv] 151::row b2 [i64 3,i64 1,i64 48] 134::cS 0 (sv,[0])::Fr) (fun w hh=>by have h:=((hh.dp [0,0,0,0,5]).pk [4,2]);exact h) (cI [0,1,2,3,4,5,6,7,8,9,10,11,12,13,14,15,16,17] [3,13,14] [6,7,8] [13] [row b2 [i64 3,i64 1,i64 48] 134,row b3 [i64 0,i64 5,sv] 151,dC 3 i64 0 (.slice (some ⟨bO,oO,none⟩) 2 co,[40,42])] Tryz.mixed (by kernel_rfl) ?_))))))))
 refine aP aa aa aa (aj aa) .free aa (aP aa aa aa (ah isAgg134 sizeOf134 aa aa) .free aa ?_)
 refine aP aa aa aa (ah isAgg151 sizeOf151 aa aa) .free aa ?_
 refine aT aa aa (aw aa (ar call90 aa) (nU B _ bd ⟨3,1,48⟩ iK ⟨0,5,[0]⟩ sv ⟨⟨by decide,by decide⟩,⟨by decide,by decide⟩⟩ hsv s2 none 0 [] (fun _ h=>(by cases h)) (by decide) (fun _ h=>absurd h (Nat.not_lt_zero _)) SlR.nil) .free aa aa ?_)
 refine ad (c6 aa (aP aa aa aa (al aa aa aa) .free aa (aP aa aa aa (aj aa) .free aa (an aa aa aa (aj aa) (.on aa aa (ae (by rw[e8];rfl))) aa (an aa aa aa (ah isAgg134 sizeOf134 aa aa) (.on aa aa (ae (by rw[e8];rfl))) aa ?_)))))
 refine an aa aa aa (ah isAgg151 sizeOf151 aa aa) (.on aa aa (ae (by rw[e8];rfl))) aa ?_
 refine aP aa aa aa (aj aa) (.on aa aa (ae (by rw[e8];rfl))) aa (aP aa aa aa (cj runUnderlying166 sizeOf3 aa aa (by decide) (by decide)) (.on aa aa (ae (by rw[e8];rfl))) aa (aP aa aa aa (bM (v:=i64 42) isAgg3 (cO 1 aa) aa aa) (.on aa aa (ae (by rw[e8];rfl))) aa (aP aa aa aa (cX (c:=42) runUnderlying3 runUnderlying25 aa (by decide)) (.on aa aa (ae (by rw[e8];rfl))) aa (aT aa aa (cK aa (fZ runUnderlying30 sizeOf25 zeroValue25 aa aa aa) (.on aa aa (ae (by rw[e8];rfl))) aa aa ?_)))))
 rintro _ _ ⟨b44,rfl,rfl⟩
 refine ad (cL (aS [1] (aT aa aa (aw aa (ar call90 aa) (nU B _ bd ⟨3,1,48⟩ iK ⟨0,5,[0]⟩ sv ⟨⟨by decide,by decide⟩,⟨by decide,by decide⟩⟩ hsv s2 (some ⟨b44,0,none⟩) 1 [42] (fun v h=>by rw[List.mem_singleton.1 h];decide) (by decide) (fun _ _=>⟨_,_,rfl⟩) (SlR.row (b:=b44) aa aa)) (.on aa aa (ae (by rw[e8];rfl))) aa aa ?_))))
 refine ad (c6 aa (aP aa aa aa (al aa aa aa) (.on aa aa (ae (by rw[e8];rfl))) aa (aP aa aa aa (ax aa (by rw[e8];rfl) aa) .free aa (aP aa aa aa (bD aa) .free aa (cF (am [0] rfl (ay ?_)))))))
 exact au results165 aa (fun w hh=>⟨by rw[e9];rfl,(hh.dp [0,0,0,0,0,0])⟩)
theorem vl(B:World)(Fr:List HP):
 ∀ w,Holds B Fr w→Calls Tryz.prog 113 [].toArray w (a8 B Fr (.bool true)):=by
 refine ap func113 aa ntmps113 aa (ac (ab (kPa aa aa (ad (ac (ac (ab (aw aa (ar call165 aa) (vm _ _) .free aa aa ?_))))))))
 refine kPv (bj aa) aa (ad (bG aa (rfl) (aq (ac (ab (kPv (aQ aa (jk _ aa)) aa (kPv (aQ aa (hZ _ aa)) aa (kPb (lB py (v:=(0,1)) runUnderlying190 sizeOf189 zeroValue189 ⟨⟨by decide,by decide⟩,rfl⟩ rfl aa) aa fun b13=>(aJ aa (ar call114 aa) (kM _ _ 0 0 40 ⟨by decide,by decide,by decide⟩ ⟨3,1,48⟩ sV [(0,1)] (hh1 ⟨by decide,by decide⟩ ⟨by decide,by decide⟩) (by decide) (some ⟨b13,0,none⟩) _ B4 none 0 [] SlR.nil (fun _ h=>(by cases h)) (by decide) (fun _ h=>absurd h (Nat.not_lt_zero _)) 0 (by decide)) .free aa aa ?_)))))))))
 rintro _ _ ⟨bd,pa,N,s0,sF,out,hfm,hN,⟨hus0,hf⟩,hfill,hor⟩
 obtain rfl:=n48 hN
 have hev:=bX (bX (zU pa bd) hf) hfill
 simp only[Bool.and_eq_true,beq_iff_eq] at hev
 obtain⟨⟨rfl,e1⟩,e2⟩:=hev
 rw[dX e1] at hor
 rcases hor with ⟨n1,n2,s1,s2,ov,sv,hl1,hl2,hu2,hlm2,hn2,hov,hsv,rfl,rfl⟩ | ⟨s1,hl1,_⟩
 rotate_left
 ·have e3:=bX e2 hl1
  simp only[Bool.and_eq_true,beq_iff_eq] at e3
  exact absurd e3.1 (by simp)
 have e3:=bX e2 hl1
 simp only[Bool.and_eq_true,beq_iff_eq] at e3
 obtain⟨e4,e5⟩:=e3
 obtain rfl:n1=0:=by injection e4
 have e6:=bX e5 hl2
 simp only[Bool.and_eq_true,beq_iff_eq] at e6
 obtain⟨e7,e8⟩:=e6
 rw[dX e7]
 refine aS [2] (cC fun qo co hqo hqi=> ?_)
 subst hqo
 obtain⟨bO,oO,rfl⟩:=hqi 0 (by decide)
 refine kPm aa aa (kPv (aA aa aa) aa (kPv (aA aa aa) aa (kPv (aA aa aa) aa (kPv (aA aa aa) aa (kPb (aD zeroValue134 aa) aa fun b2=>(kPb (aD zeroValue151 aa) aa fun b3=>(kPa aa aa (kPs (az (vs:=_) sizeOf134 aa aa aa aa aa) aa ?_))))))))
 refine kPs (az (vs:=_) sizeOf151 aa aa aa (by first | rfl | exact ew (by assumption)) rfl) rfl ?_;refine kPa aa aa ?_;refine ad ?_;refine am [4,1,3,2,0] rfl ?_;refine ac ?_;refine ac ?_;refine ab ?_;refine kPm aa aa ?_;refine kPv (du runUnderlying90 aa aa aa) aa ?_;refine kPm aa aa ?_;refine ak aa (aj aa) (.on aa aa (ae aa)) aa aa ?_
 refine ak aa (bB aa runUnderlying166 ⟨_,rfl⟩ rfl) (.on aa aa (ae aa)) aa aa (ak aa (al aa aa aa) (.on aa aa (ae aa)) aa aa (kPv (aG aa aa aa) aa (ad (am [25,1,3,2,0] rfl (bG aa (rfl) (aq (ac (ab (kPm aa aa (kPv (ah isAgg134 sizeOf134 aa aa) aa ?_))))))))))
 refine kPv (ah isAgg151 sizeOf151 aa aa) aa ?_
 refine kPb (fZ runUnderlying30 sizeOf25 zeroValue25 aa aa aa) aa fun b29=>(aS [4] (aJ aa (ar call133 aa) (rP B _ bd ⟨3,1,48⟩ iK ⟨0,2,[0]⟩ ⟨⟨by decide,by decide⟩,⟨by decide,by decide⟩⟩ sv hsv (some ⟨b29,0,none⟩) 1 [0] (by decide) (fun h=>by cases h) (SlR.row (b:=b29) aa aa)) .free aa aa ?_))
 rintro _ _ ⟨x,rfl,rfl⟩
 have hX0:fc (eh bd ⟨3,1,48⟩ ⟨0,2,[0]⟩ [0]):=lT iK ⟨⟨by decide,by decide⟩,⟨by decide,by decide⟩⟩ (by decide) (fun v h=>by rw[List.mem_singleton.1 h];decide) (fun v h=>by rw[List.mem_singleton.1 h];decide)
 refine kPa aa aa (ad (am [5,0] rfl (ac (ac (ab (kPm aa aa (kPv (du runUnderlying147 aa aa aa) aa (ad (bG aa (rfl) (aq (ac ?_)))))))))))
 refine ab (kPm aa aa (aS [0,4] ?_))
 refine aU aa (ar call166 aa) (pC B _ x (eh bd ⟨3,1,48⟩ ⟨0,2,[0]⟩ [0]) hX0 s2 hu2) .free aa aa ?_ ?_
 rotate_left
 ·rintro _ _ ⟨s9,hm9,_⟩
  exact(jA e8 hm9).elim
 rintro _ _ ⟨r1,s3,hm1,rfl,rfl⟩
 have e9:=bX e8 hm1
 simp only[Bool.and_eq_true,Bool.not_eq_true'] at e9
 obtain⟨e10,e11⟩:=e9
 obtain⟨hX1,hu3,_,hbd1,_⟩:=qX hX0 hu2 hm1
 refine aN (H':=eS x r1.2::aB r1.2.bd s3::_) (fun w hh=>by rw[hbd1];exact hh) (kPm aa aa ?_)
 refine aU aa (ar call166 aa) (pC B _ x r1.2 hX1 s3 hu3) .free aa aa ?_ ?_
 rotate_left
 ·rintro _ _ ⟨s9,hm9,_⟩
  exact(jA e11 hm9).elim
 rintro _ _ ⟨r2,s4,hm2,rfl,rfl⟩
 have e12:=bX e11 hm2
 simp only[Bool.and_eq_true] at e12
 obtain⟨hX2,hu4,_⟩:=qX hX1 hu3 hm2
 have hbl:r2.2.block=⟨1,0,[0]⟩:=congrArg Prod.fst (dX e12.2)
 rw[e10,e12.1]
 refine kPa aa aa (kPa aa aa (ad (ac (ab (kPm aa aa (kPv (bj aa) aa (kPm aa aa (ak aa (aj aa) (.on aa aa (ae aa)) aa aa (kPv (ax aa aa aa) aa (kPm aa aa (ak aa (aj aa) (.on aa aa (ae aa)) aa aa ?_)))))))))))
 refine aJ aa (ar call167 aa) (mQ B _ x r2.2 hX2) (.on aa aa (ae aa)) aa aa ?_
 rintro _ _ ⟨bv5,hbv5,rfl,rfl⟩
 rw[hbl]
 refine ak aa (hO runUnderlying151 (t:=3) (off:=1) aa isAgg3 aa aa) (.on aa aa (ae aa)) aa aa (ak aa (al aa aa aa) (.on aa aa (ae aa)) aa aa (kPv (ax aa aa aa) aa (kPm aa aa (ak aa (aj aa) (.on aa aa (ae aa)) aa aa (aS [1] (aJ aa (ar call167 aa) (mQ B _ x r2.2 hX2) (.on aa aa (ae aa)) aa aa ?_))))))
 rintro _ _ ⟨bv6,hbv6,rfl,rfl⟩
 rw[hbl]
 refine ak aa (hO runUnderlying151 (t:=3) (off:=0) aa isAgg3 aa aa) (.on aa aa (ae aa)) aa aa (ak aa (al aa aa aa) (.on aa aa (ae aa)) aa aa (kPv (ax aa aa aa) aa (kPa aa aa (ad (am [0] rfl (ay ?_))))))
 exact au results113 aa (fun w hh=>⟨rfl,(hh.dp [0,0,0,0,0,0,0,0,0])⟩)
theorem vk(B:World)(Fr:List HP):
 ∀ w,Holds B Fr w→Calls Tryz.prog 70 [].toArray w (a8 B Fr (.bool true)):=by
 refine ap func70 aa ntmps70 aa (ac (ab (kPa aa aa (ad (ac (ac (ab (aw aa (ar call113 aa) (vl _ _) .free aa aa ?_))))))))
 refine kPv (bj aa) aa (ad (bG aa (rfl) (aq (ac (ab (kPv (aQ aa (jk _ aa)) aa (kPv (aQ aa (hZ _ aa)) aa (kPv (aQ aa (hZ _ aa)) aa (kPb (wL py (v:=(0,1)) (u:=(0,2)) runUnderlying190 sizeOf189 zeroValue189 ⟨⟨by decide,by decide⟩,rfl⟩ rfl aa aa aa) aa fun b16=>(aJ aa (ar call114 aa) (kM _ _ 0 0 40 ⟨by decide,by decide,by decide⟩ ⟨3,1,48⟩ sV [(0,1),(0,2)] (hh2) (by decide) (some ⟨b16,0,none⟩) _ C0 none 0 [] SlR.nil (fun _ h=>(by cases h)) (by decide) (fun _ h=>absurd h (Nat.not_lt_zero _)) 0 (by decide)) .free aa aa ?_))))))))))
 rintro _ _ ⟨bd,pa,N,s0,sF,out,hfm,hN,⟨hus0,hf⟩,hfill,hor⟩
 obtain rfl:=n48 hN
 have hev:=bX (bX (zT pa bd) hf) hfill
 simp only[Bool.and_eq_true,beq_iff_eq] at hev
 obtain⟨⟨rfl,e1⟩,e2⟩:=hev
 rw[dX e1] at hor
 rcases hor with ⟨n1,n2,s1,s2,ov,sv,hl1,hl2,hu2,hlm2,hn2,hov,hsv,rfl,rfl⟩ | ⟨s1,hl1,_⟩
 rotate_left
 ·have e3:=bX e2 hl1
  simp only[Bool.and_eq_true,beq_iff_eq] at e3
  exact absurd e3.1 (by simp)
 have e3:=bX e2 hl1
 simp only[Bool.and_eq_true,beq_iff_eq] at e3
 obtain⟨e4,e5⟩:=e3
 obtain rfl:n1=0:=by injection e4
 have e6:=bX e5 hl2
 simp only[Bool.and_eq_true,beq_iff_eq] at e6
 obtain⟨⟨e7,e14⟩,e8⟩:=e6
 rw[dX e7]
 refine aS [2] (cC fun qo co hqo hqi=> ?_)
 subst hqo
 obtain⟨bO,oO,rfl⟩:=hqi 0 (by decide)
 refine kPm aa aa (kPv (aA aa aa) aa (kPv (aA aa aa) aa (kPv (aA aa aa) aa (kPv (aA aa aa) aa (kPb (aD zeroValue134 aa) aa fun b2=>(kPb (aD zeroValue151 aa) aa fun b3=>(kPa aa aa (kPs (az (vs:=_) sizeOf134 aa aa aa aa aa) aa ?_))))))))
 refine kPs (az (vs:=_) sizeOf151 aa aa aa (by first | rfl | exact ew (by assumption)) rfl) rfl ?_;refine kPa aa aa ?_;refine ad ?_;refine am [4,1,3,2,0] rfl ?_;refine ac ?_;refine ac ?_;refine ab ?_;refine kPm aa aa ?_;refine kPv (du runUnderlying90 aa aa aa) aa ?_;refine kPm aa aa ?_;refine ak aa (aj aa) (.on aa aa (ae aa)) aa aa ?_
 refine ak aa (bB aa runUnderlying166 ⟨_,rfl⟩ rfl) (.on aa aa (ae aa)) aa aa (ak aa (al aa aa aa) (.on aa aa (ae aa)) aa aa (kPv (aG aa aa aa) aa (kPm aa aa (ak aa (aE (m:=_) dz aa aa) (.on aa aa (ae aa)) aa aa (ak aa (ai isAgg3 aa aa) (.on aa aa (ae aa)) aa aa (ak aa (al aa aa aa) (.on aa aa (ae aa)) aa aa (kPv (aG aa aa aa) aa (ad (am [33,4,1,2,0] rfl (bG aa (rfl) (aq ?_)))))))))))
 refine ac (ab (kPm aa aa (kPv (ah isAgg134 sizeOf134 aa aa) aa ?_)))
 refine aS [4] (aJ aa (ar call115 aa) (q7 _ _ bd s2 ⟨3,1,48⟩ iK) .free aa aa ?_)
 rintro _ _ ⟨bs,rfl,rfl⟩
 refine kPa aa aa (ad (ac (ac (ab (kN fun bl o1 o2=>(kPm aa aa (kPv (du runUnderlying146 aa aa aa) aa (kPm aa aa (ak aa (aj aa) (.on aa aa (ae aa)) aa aa (ak aa (aK aa) (.on aa aa (ae aa)) aa aa (ak aa (aE (m:=_) iq aa aa) (.on aa aa (ae aa)) aa aa ?_)))))))))))
 refine ak aa (ai isAgg168 aa aa) (.on aa aa (ae aa)) aa aa (ak aa (du runUnderlying168 aa aa aa) (.on aa aa (ae aa)) aa aa (kPv (aG aa aa aa) aa (ad (am [45,5,4,1,2,0] rfl (bG aa (rfl) (aq (ac (aN (fun w hh=>dN (S:=(⟨bU bd ⟨3,1,48⟩ s2,0,0,[],[]⟩:bC)) hh) (aN (H':=fy bs (⟨bU bd ⟨3,1,48⟩ s2,0,0,[],[]⟩:bC)::aB bd s2::row b2 [i64 3,i64 1,i64 48] 134::dC 3 i64 0 (.slice (some ⟨bO,oO,none⟩) 2 co,[40,42])::cS 0 (sv,[0])::Fr) (fun w hh=>by have h:=(hh.dp [2,5]);exact h) (cI [0,1,2,3,4,5,6,7,8,9,10,11,12,13] [7,8] [0,1,2] [7] [row b2 [i64 3,i64 1,i64 48] 134,dC 3 i64 0 (.slice (some ⟨bO,oO,none⟩) 2 co,[40,42])] Tryz.mixed (by kernel_rfl) ?_))))))))))
 refine an aa aa aa (aj aa) .free aa (an aa aa aa (ah isAgg134 sizeOf134 aa aa) .free aa ?_)
 refine an aa aa aa (aj aa) .free aa (aP aa aa aa (aj aa) .free aa (aP aa aa aa (cj runUnderlying166 sizeOf3 aa aa (by decide) (by decide)) .free aa (aP aa aa aa (bM (v:=i64 42) isAgg3 (cO 3 aa) aa aa) .free aa (aP aa aa aa (cX (c:=42) runUnderlying3 runUnderlying25 aa (by decide)) .free aa (aT aa aa (kPb (fZ runUnderlying30 sizeOf25 zeroValue25 aa aa aa) aa fun b54=>(ad (cL (aT aa aa (aS [1,1] ?_))))))))))
 refine aU aa (ar call116 aa) (tI B _ bs bd (⟨bU bd ⟨3,1,48⟩ s2,0,0,[],[]⟩:bC) ⟨3,1,48⟩ iK s2 hu2 ⟨iB iK,by rw[hn2];decide,rfl,rfl⟩ (some ⟨b54,0,none⟩) 1 [42] (by decide) (fun v h=>by rw[List.mem_singleton.1 h];decide) (SlR.row (b:=b54) aa aa)) .free aa aa ?_ ?_
 rotate_left
 ·rintro _ _ ⟨s9,hm9,_⟩
  exact(jA e8 hm9).elim
 rintro _ _ ⟨r,s3,hm3,hor⟩
 have e9:=bX e8 hm3
 simp only[Bool.and_eq_true,beq_iff_eq] at e9
 obtain⟨⟨e10,e11⟩,e12⟩:=e9
 rcases hor with ⟨h1,_⟩ | ⟨x,X,hX,h0,rfl,rfl⟩
 ·rw[h1] at e11;cases e11
 rw[hX] at e11
 have e13:(bJ X.went 42).getD 0=88:=by simpa [BF] using e11
 have hu3:=(xL iK (fun v h=>by rw[List.mem_singleton.1 h];decide) (iB iK) hu2 (by rw[hn2];decide) e14 hm3).1
 refine ad (c6 aa (aP aa aa aa (aj aa) .free aa (aP aa aa aa (aA aa aa) .free aa (aP aa aa aa (aA aa aa) .free aa (aP aa aa aa (bD aa) .free aa (aP aa aa aa (bD aa) .free aa (cF (am [7,6,4,1,2,0] rfl (ac (ab (kPm aa aa ?_)))))))))))
 refine kPv (ah isAgg134 sizeOf134 aa aa) aa ?_
 refine aS [2] (aJ aa (ar call117 aa) (fQ _ _ _ _ ⟨3,1,48⟩ iK hu3) .free aa aa ?_)
 rintro _ _ ⟨sv3,hsv3,rfl,rfl⟩
 rw[dX e12]
 refine kPm aa aa (kPv (aA aa aa) aa (kPv (aA aa aa) aa (kPb (aD zeroValue151 aa) aa fun b8=> ?_)))
 refine kPs (az (vs:=_) sizeOf151 aa aa aa (by first | rfl | exact ew (by assumption)) rfl) rfl ?_;refine kPa aa aa ?_;refine ad ?_;refine am [9,8,7,6,4,2,0] rfl ?_;refine ac ?_;refine cM Tryz.mixed (by kernel_rfl) (by kernel_rfl) ?_;refine kQm aa aa ?_;refine kQv (al aa aa aa) aa ?_
 refine kQm aa aa (bg aa (aj aa) (.on aa aa (ae aa)) aa (bg aa (du runUnderlying147 aa aa aa) (.on aa aa (ae aa)) aa (kQv (ax aa aa aa) aa (kQm aa aa (bg aa (aj aa) (.on aa aa (ae aa)) aa (bg aa (al aa aa aa) (.on aa aa (ae aa)) aa (kQv (ax aa aa aa) aa (kQm aa aa (bg aa (aE (m:=_) ir aa aa) (.on aa aa (ae aa)) aa (bg aa (ai isAgg3 aa aa) (.on aa aa (ae aa)) aa (bg aa (al aa aa aa) (.on aa aa (ae aa)) aa ?_)))))))))))
 refine kQv (ax aa aa aa) aa (kQm aa aa (bg aa (aE (m:=_) dz aa aa) (.on aa aa (ae aa)) aa (bg aa (ai isAgg3 aa aa) (.on aa aa (ae aa)) aa (bg aa (al aa aa aa) (.on aa aa (ae aa)) aa (kQv (ax aa aa aa) aa (kQm aa aa (bg aa (aj aa) (.on aa aa (ae aa)) aa (bg aa (aj aa) (.on aa aa (ae aa)) aa (bg aa (cj runUnderlying166 sizeOf3 aa aa (by decide) (by decide)) (.on aa aa (ae aa)) aa (bg aa (bM (v:=i64 42) isAgg3 (cO 7 aa) aa aa) (.on aa aa (ae aa)) aa (bg aa (cX (c:=42) runUnderlying3 runUnderlying25 aa (by decide)) (.on aa aa (ae aa)) aa ?_)))))))))))
 refine bF aa (ar call118 aa) (bH (q:=eS) (fun Fr=>tQ B Fr x X 42)) (.on aa aa (ae aa)) aa ?_
 refine bg aa (ah isAgg134 sizeOf134 aa aa) (.on aa aa (ae aa)) aa ?_
 refine bF aa (ar call119 aa) (jH _ _ ⟨3,1,48⟩ iK 1 (by decide) (by decide)) (.on aa aa (ae aa)) aa ?_
 refine bg aa (al aa aa aa) (.on aa aa (ae aa)) aa (kQv (ax aa aa aa) aa (kQa aa aa (ce (am [0] rfl (ay ?_)))))
 exact au results70 aa (fun w hh=>⟨by rw[e13];rfl,(hh.dp [0,0,0,0,0,0,0,0,0])⟩)
theorem Tryz.ownKnobs:ownKnob Tryz.prog.godebug=none:=by kernel_rfl
theorem Tryz.laidOut:laidOutB Tryz.prog=true:=by kernel_rfl
theorem Cp{P:Program}{f:FuncId}{vs:Array Value}{W:World}(h:∀ w,Holds W [old W] w→Calls P f vs w (a8 W [old W] (.bool true))):
 Calls P f vs W (fun e w'=>e= .returned (.bool true)∧RowKit.Below W.heap.size W w'):=(h W (qz W)).mono fun _ _ ⟨h1,h2⟩=>⟨h1,h2.oldb⟩
theorem uh{B:World}{sv:Value}{xs:List Int}{Fr:List HP}{w:World}(h:Holds B (iz 0 (sv,xs)::Fr) w):Holds B (dC 3 i64 0 (sv,xs)::Fr) w:=by
 rcases jF h with ⟨rfl,rfl,h2⟩ | ⟨bd,rest,rfl,h2⟩
 ·exact eK h2
 ·exact gZ aa aa h2
theorem vj(B:World)(Fr:List HP):
 ∀ w,Holds B Fr w→Calls Tryz.prog 43 [].toArray w (a8 B Fr (.bool true)):=by
 refine ap func43 aa ntmps43 aa (ac (ab (kPa aa aa (ad (ac (ac (ab (aw aa (ar call70 aa) (vk _ _) .free aa aa ?_))))))))
 refine kPv (bj aa) aa (ad (bG aa (rfl) (aq (ac (ab (aJ aa (ar call71 aa) (wi _ _) .free aa aa ?_))))))
 rintro _ _ ⟨tb,rfl,rfl⟩
 refine kPa aa aa (ad (ac (ab (kPm aa aa (kPv (du runUnderlying130 aa aa aa) aa (kPm aa aa (ak aa (aj aa) (.on aa aa (ae aa)) aa aa (dO aa (ar call72 aa) (kg _ _ _ _ _ ⟨by decide,by decide⟩) (.on aa aa (ae aa)) aa aa ?_))))))))
 refine ak aa (al aa aa aa) (.on aa aa (ae aa)) aa aa (kPv (ax aa aa aa) aa (kPm aa aa (ak aa (aj aa) (.on aa aa (ae aa)) aa aa (dO aa (ar call72 aa) (kg _ _ _ _ _ ⟨by decide,by decide⟩) (.on aa aa (ae aa)) aa aa ?_))))
 refine ak aa (al aa aa aa) (.on aa aa (ae aa)) aa aa (kPv (ax aa aa aa) aa (kPm aa aa (ak aa (aj aa) (.on aa aa (ae aa)) aa aa (dO aa (ar call72 aa) (kg _ _ _ _ _ ⟨by decide,by decide⟩) (.on aa aa (ae aa)) aa aa ?_))))
 refine ak aa (al aa aa aa) (.on aa aa (ae aa)) aa aa (kPv (ax aa aa aa) aa (kPm aa aa (ak aa (aj aa) (.on aa aa (ae aa)) aa aa (dO aa (ar call72 aa) (kg _ _ _ _ _ ⟨by decide,by decide⟩) (.on aa aa (ae aa)) aa aa ?_))))
 refine ak aa (al aa aa aa) (.on aa aa (ae aa)) aa aa (kPv (ax aa aa aa) aa (kPa aa aa (ad (am [0] rfl (ay ?_)))))
 exact au results43 aa (fun w hh=>⟨rfl,(hh.dp [0])⟩)
structure HpS where
 bd:Nat
 c:Cfg
 S:bC
 o:Bool
 T:gG
 X:Option bE
def ny:Bool→Nat→bC→HP
 | true=>iS
 | false=>fy
def x9(x:Nat):Option bE→HP
 | none=>pr True
 | some X=>eS x X
def DJ(x:Nat):Option bE→Value
 | none=> .pointer none
 | some _=>ptr x
abbrev cE(bh bs bt x:Nat)(h:HpS):HP:=row bh [ptr h.bd,i64 h.c.log,i64 h.c.roots,i64 h.c.space,ptr bs,ptr bt,DJ x h.X] 149
def dB(bh:Nat)(h:HpS):HP:=hex fun (x:Nat×Nat×Nat)=>grp [cE bh x.1 x.2.1 x.2.2 h,ny h.o x.1 h.S,gc x.2.1 h.T,x9 x.2.2 h.X]
section
variable {B:World} {n:Nat} {D:List Deferred} {σ:Env} {Fr:List HP} {K:Act→World→Prop} {bh bs bt x:Nat} {h:HpS} {w:World}
theorem iP(g:∀ bs bt x,GO B n D σ (cE bh bs bt x h::ny h.o bs h.S::gc bt h.T::x9 x h.X::Fr) K):GO B n D σ (dB bh h::Fr) K:=fun a w st=>by
 obtain⟨x,hx⟩:=st.holds.hex
 exact g x.1 x.2.1 x.2.2 a w ⟨st.toStA,hx.grp⟩
theorem dZ(hh:Holds B (cE bh bs bt x h::ny h.o bs h.S::gc bt h.T::x9 x h.X::Fr) w):Holds B (dB bh h::Fr) w:=
 Holds.unhex (bs,bt,x) (Holds.ungrp (l:=[cE bh bs bt x h,ny h.o bs h.S,gc bt h.T,x9 x h.X]) hh)
end
structure dY(h:HpS)(s:Dev):Prop where
 c:bx h.c
 k:Ao h.S h.bd h.c s
 sw:h.o=true→lE h.S∧h.S.dirty.length≤1000000
 u:U64 s
 t1:0≤h.T.last∧h.T.last≤1000000000
 tl:h.T.at_.length≤800000
 tp:∀ p∈h.T.at_,0≤p.2∧p.2≤1000000
 x:∀ X,h.X=some X→fc X∧X.bd=h.bd∧X.c=h.c∧0<X.b.rts.length
abbrev HpS.blk(h:HpS)(s:Dev):Blk:=(s.block h.c).1
def HpS.obj(h:HpS)(s:Dev)(n:Int):da×Int:=if (bJ h.T.at_ n).isSome=true then s.objOf h.c (h.blk s) ((bJ h.T.at_ n).getD 0) else ((0,0,0),6)
def HpS.words(h:HpS):List Int:=(cf (h.T.at_.map Prod.fst)).map fun n=>(bJ h.T.at_ n).getD 0
theorem gB(B:World)(Fr:List HP)(bh bs bt x:Nat)(h:HpS)(s:Dev)(hc:bx h.c)(hu:U64 s):
 ∀ w,Holds B (cE bh bs bt x h::aB h.bd s::Fr) w→Calls Tryz.prog 81 [ptr bh].toArray w (Ret B (fun rv H'=>∃ sv,aM sv=true∧rv=lC (h.blk s) sv∧H'=cS 0 (sv,(h.blk s).rts)::cE bh bs bt x h::aB h.bd s::Fr) (fun _ _=>False)):=by
 refine ap func81 aa ntmps81 aa (ac (ab (kPb (aD zeroValue151 aa) aa fun b2=>(ad (ac ?_)))))
 refine kP (.br [0,1,2,3,4,5,6,7] 8 (.fin [9,10,11,12,13,14]) 12 (.fin [8,9,10,11,13,14])) [8,12,13] [0,1,2,3,4,5,6,7,9,10,11] [12,13] [cE bh bs bt x h] [] (G:=Nat×Value) (fun (b3,sv)=>[(3,ptr b3),(2,ptr b2)]) (fun (b3,sv)=>row b3 [i64 (h.blk s).act,i64 (h.blk s).used,sv] 151::cS 0 (sv,(h.blk s).rts)::cE bh bs bt x h::aB h.bd s::row b2 [i64 0,i64 0,.slice none 0 0] 151::Fr) Tryz.mixed (by kernel_rfl) ?_ ?_
 ·skip
  refine wV (an aa aa aa (aj aa) .free aa (an aa aa aa (aK aa) .free aa (an aa aa aa (aE (m:=_) iu aa aa) .free aa (an aa aa aa (ai isAgg90 aa aa) .free aa (an aa aa aa (aj aa) .free aa (an aa aa aa (aK aa) .free aa (an aa aa aa (aE (m:=_) dV aa aa) .free aa (an aa aa aa (ah isAgg134 sizeOf134 aa aa) .free aa ?_))))))))
  refine cF ?_
  refine p5 aa aa ?_ ?_
  ·skip
   refine aS [2] (aJ aa (ar call117 aa) (fQ _ _ _ _ h.c hc hu) .free aa aa ?_)
   rintro _ _ ⟨sv14,hsv14,rfl,rfl⟩
   refine ad (sf aa (jQ (an aa aa aa (aj aa) .free aa (an aa aa aa (aA aa aa) .free aa (an aa aa aa (aA aa aa) .free aa (aT aa aa (kPb (aD zeroValue151 aa) aa fun b3=>(ad (cL (aT aa aa ?_))))))))))
   refine kPs (az (vs:=_) sizeOf151 aa aa aa (by first | rfl | exact ew (by assumption)) rfl) rfl ?_
   refine ad (cL (aP aa aa aa (bD aa) .free aa (cF ?_)))
   exact fun a w st_=>⟨(b3,sv14),st_.to ⟨rfl,rfl,trivial⟩ (fun hh=>(hh.pk [0,0,2]))⟩
  ·skip
   refine kPb (aD zeroValue151 aa) aa fun b3=>(ad (un (jQ (aT aa aa (aS [3] (aJ aa (ar call117 aa) (fQ _ _ _ _ h.c hc hu) .free aa aa ?_))))))
   rintro _ _ ⟨sv14,hsv14,rfl,rfl⟩
   refine ad (c6 aa (an aa aa aa (aj aa) .free aa (an aa aa aa (aA aa aa) .free aa (an aa aa aa (aA aa aa) .free aa (aT aa aa ?_)))))
   refine kPs (az (vs:=_) sizeOf151 aa aa aa (by first | rfl | exact ew (by assumption)) rfl) rfl ?_;refine ad ?_;refine cL ?_;refine aP aa aa aa (bD aa) .free aa ?_;refine cF ?_
   exact fun a w st_=>⟨(b3,sv14),st_.to ⟨rfl,rfl,trivial⟩ (fun hh=>(hh.pk [2,0,2]))⟩
 rintro⟨b3,sv⟩
 refine bZ (σ':=[(3,ptr b3),(2,ptr b2)]) ⟨rfl,rfl,trivial⟩ (ac (aS [1] (cC fun qv cv hqv hqi=> ?_)))
 subst hqv
 refine ab (kPv (ah isAgg151 sizeOf151 aa aa) aa ?_)
 refine kPs (az (vs:=_) sizeOf151 aa aa aa (by first | rfl | exact ew (by assumption)) rfl) rfl ?_;refine ad ?_;refine ay ?_
 exact p9 results81 (.cellA aa isAgg151 sizeOf151 aa aa) (fun w hw=>⟨_,⟨.slice qv (h.blk s).rts.length cv,rfl,rfl,rfl⟩,(hw.dp [1,3])⟩)
theorem sW{α:Type}{k:Int}{v:α}:∀ {l:List (Int×α)},bJ l k=some v→(k,v)∈l
 | [],h=>by cases h
 | q::l,h=>by
   unfold bJ at h
   split at h
   ·rename_i e;cases h;rw[←e];exact List.mem_cons_self ..
   ·exact List.mem_cons_of_mem _ (sW h)
theorem dY.pb{h:HpS}{s:Dev}(hW:dY h s)(n:Int):0≤(bJ h.T.at_ n).getD 0∧(bJ h.T.at_ n).getD 0≤1000000:=by
 cases hm:bJ h.T.at_ n with
 | none=>simp
 | some v=>exact hW.tp _ (sW hm)
theorem uT(B:World)(Fr:List HP)(bh bs bt x:Nat)(h:HpS)(s:Dev)(hW:dY h s)(n:Int):
 ∀ w,Holds B (cE bh bs bt x h::gc bt h.T::aB h.bd s::Fr) w→Calls Tryz.prog 87 [ptr bh,i64 n].toArray w (a8 B (cE bh bs bt x h::gc bt h.T::aB h.bd s::Fr) (.tuple #[gU (h.obj s n).1,i64 (h.obj s n).2])):=by
 refine ap func87 aa ntmps87 aa ?_
 have hc:=hW.c
 have hu:=hW.u
 have hbk:=dA (s:=s) hc hu
 have hbl:(h.blk s).rts.length≤16:=fI (s:=s) hc
 refine ac (ab (kPb (aD zeroValue160 aa) aa fun b4=>(kPa aa aa (ad (ac (ab (kPf jf isAgg130 aa aa aa aa (kPm aa aa (aw aa (ar call146 aa) (bH (q:=gc) (fun Fr=>qy _ Fr bt h.T n)) .free aa aa ?_)))))))))
 refine kPm aa aa (kPv (aA aa aa) aa (kPv (aA aa aa) aa (kPa aa aa (kPa aa aa (ad (am [7,6,5,4,0] rfl (ac (ac (ab (kPm aa aa (kPv (bj aa) aa ?_)))))))))))
 refine ad ?_
 refine aZ aa (fun h18=> ?_) (fun h18=> ?_)
 ·have hk:¬ (bJ h.T.at_ n).isSome=true:=by simpa using h18
  have hres:h.obj s n=((0,0,0),6):=by unfold HpS.obj;rw[if_neg hk]
  refine ac (ab (kPv (aQ aa (rT)) aa (kPs (az (vs:=_) sizeOf160 aa aa aa aa aa) aa (kPa aa aa (ad (ay ?_))))))
  exact gi results87 (.cellA aa isAgg160 sizeOf160 aa aa) (.tmp aa) (fun w hw=>⟨by rw[hres];rfl,(hw.dp [0])⟩)
 ·have hk:(bJ h.T.at_ n).isSome=true:=by simpa using h18
  have hres:h.obj s n=s.objOf h.c (h.blk s) ((bJ h.T.at_ n).getD 0):=by unfold HpS.obj;rw[if_pos hk]
  refine aq (ac (cI [0,1,2,3,4,5,6,7,8,10,9,11,12,13,14,15] [9,11,14] [0,1,2,3,4,5,6,7,10] [9] [cE bh bs bt x h] Tryz.mixed (by kernel_rfl) ?_))
  refine an aa aa aa (aj aa) .free aa (an aa aa aa (aK aa) .free aa (an aa aa aa (aE (m:=_) iu aa aa) .free aa (an aa aa aa (ai isAgg90 aa aa) .free aa (an aa aa aa (aj aa) .free aa (an aa aa aa (aK aa) .free aa (an aa aa aa (aE (m:=_) dV aa aa) .free aa (an aa aa aa (ah isAgg134 sizeOf134 aa aa) .free aa ?_)))))))
  refine aP aa aa aa (aj aa) .free aa (an aa aa aa (aj aa) .free aa (aT aa aa (aS [1,2] (aJ aa (ar call81 aa) (gB B _ bh bs bt x h s hc hu) .free aa aa ?_))))
  rintro _ _ ⟨sv,hsv,rfl,rfl⟩
  refine ad (cL (aT aa aa (aw aa (ar call147 aa) (bH (q:=aB) (fun Fr=>j5 _ Fr _ _ h.c hc (h.blk s) sv hbk hsv _ (by have:=hW.pb n;omega))) .free aa aa ?_)))
  refine ad (c6 aa (aP aa aa aa (aA aa aa) .free aa (aP aa aa aa (aA aa aa) .free aa (aT aa aa (kPs (az (vs:=_) sizeOf160 aa aa aa aa aa) aa (ad (c6 aa (aP aa aa aa (bD aa) .free aa (cF (am [5,4] rfl (ay ?_)))))))))))
  exact gi results87 (.cellA aa isAgg160 sizeOf160 aa aa) (.tmp aa) (fun w hw=>⟨by rw[hres];rfl,((hw.dp [0,2]).pk [0,1])⟩)
theorem qu(B:World)(Fr:List HP)(bh bs bt x:Nat)(h:HpS)(s:Dev)(hW:dY h s):
 ∀ w,Holds B (cE bh bs bt x h::gc bt h.T::Fr) w→Calls Tryz.prog 134 [ptr bh].toArray w (Ret B (fun rv H'=>aM rv=true∧H'=cS 0 (rv,h.words)::cE bh bs bt x h::gc bt h.T::Fr) (fun _ _=>False)):=by
 refine ap func134 aa ntmps134 aa ?_
 have hkl:(cf (h.T.at_.map Prod.fst)).length≤800000:=by have:=hW.tl;rw[cf,List.length_mergeSort,List.length_map];exact this
 refine ac (ab (kPa aa aa (ad (ac (ab (kPa aa aa (ad (ac (ac (aN (fun w hh=>eK (T:=25) (enc:=w64) hh) (ab ?_)))))))))))
 refine kPf jf isAgg130 aa aa aa aa (aS [2] (aJ aa (ar call92 aa) (nh B _ bt h.T (by have:=hW.tl;omega)) .free aa aa ?_))
 rintro rv _ rfl
 refine aN (fun w hh=>uh hh) (cC fun qn cn hqn hqi=> ?_)
 subst hqn
 refine kPv (bB aa runUnderlying166 ⟨_,rfl⟩ rfl) aa (kPm aa aa (ad (aF (cy (ι:=Nat×Value×List Int) [13,12,2,0] (fun (k,sv,ws)=>(k≤(cf (h.T.at_.map Prod.fst)).length)∧(aM sv=true)∧(ws=((cf (h.T.at_.map Prod.fst)).take k).map (fun n=>(bJ h.T.at_ n).getD 0))∧(ws.length=k)) (fun (k,sv,ws)=>[(14,i64 k),(3,sv)]) (fun (k,sv,ws)=>dC 25 w64 0 (sv,ws)::dC 3 i64 0 (.slice qn (cf (h.T.at_.map Prod.fst)).length cn,(cf (h.T.at_.map Prod.fst)))::gc bt h.T::cE bh bs bt x h::Fr) (fun (k,sv,ws)=>(cf (h.T.at_.map Prod.fst)).length - k) (0,.slice none 0 0,[]) (⟨Nat.zero_le _,rfl,rfl,rfl⟩) (fun a w st=>st.to ⟨rfl,rfl,trivial⟩ (fun hh=>(hh.pk [2]))) ?_))))
 rintro⟨k,sv,ws⟩ ⟨hk0,hsv,hws,hwl⟩
 try simp only at hk0 hsv hws hwl ⊢
 refine bZ (σ':=[(14,i64 k),(3,sv),(13,_),(12,_),(2,_),(0,_)]) (aC aa) (ac (ab (kPv (al aa aa aa) aa (ad (ac ?_)))))
 refine aZ aa (fun h15=> ?_) (fun h15=> ?_)
 ·have hk:k<(cf (h.T.at_.map Prod.fst)).length:=by simpa using h15
  obtain⟨bN,oN,rfl⟩:=hqi k hk
  have hpb:=hW.pb (cf (h.T.at_.map Prod.fst))[k]
  refine aq (ac (aF (ac (ab (kPv (cj runUnderlying166 sizeOf3 aa aa (by omega) (by omega)) aa ?_)))))
  refine kPv (bM (v:=i64 (cf (h.T.at_.map Prod.fst))[k]) isAgg3 (cO 1 aa) aa (by rw[Int.toNat_natCast,List.getElem?_map,List.getElem?_eq_getElem hk];rfl)) aa ?_
  refine kPa aa aa (ad (ac (ab (kPf jf isAgg130 aa aa aa aa (kPm aa aa (aw aa (ar call146 aa) (bH (q:=gc) (fun Fr=>qy _ Fr bt h.T (cf (h.T.at_.map Prod.fst))[k])) .free aa aa ?_))))))
  refine kPm aa aa (kPv (aA aa aa) aa (kPv (aA aa aa) aa (kPa aa aa (kPa aa aa (ad (am [6,14,3,13,12,2,0] rfl (ab (kPm aa aa (kPm aa aa (kPv (cX runUnderlying3 runUnderlying25 aa (dT (by omega))) aa (kPb (fZ runUnderlying30 sizeOf25 zeroValue25 aa aa aa) aa fun b30=> ?_)))))))))))
  refine aS [1,0] (cK aa (ee aa aa runUnderlying30 runUnderlying30 ⟨_,rfl⟩ sizeOf25 zeroValue25 aa (fun _=>rfl) ia aa aa (by omega)) .free aa aa ?_)
  rintro sv9 _ ⟨hsv9,rfl⟩
  refine kPa aa aa (ad (ab (kPv (aL aa aa) aa (kPm aa aa (ad (am [14,3,13,12,2,0] rfl ?_))))))
  exact fun a w st_=>⟨(k+1,sv9,ws++[(bJ h.T.at_ (cf (h.T.at_.map Prod.fst))[k]).getD 0]),⟨by omega,hsv9,by rw[List.take_succ_eq_append_getElem hk,List.map_append, ←hws];rfl,by simp[hwl]⟩,by omega,st_.to (aC aa) (fun hh=>hh)⟩
 ·have h9:¬ k<(cf (h.T.at_.map Prod.fst)).length:=by simpa using h15
  have hk:k=(cf (h.T.at_.map Prod.fst)).length:=by omega
  have hres:ws=h.words:=by rw[hws,hk,List.take_length];rfl
  refine bz (ac (ab (kPm aa aa (kPa aa aa (ad (am [2] rfl (ay ?_)))))))
  exact au results134 aa (fun w hw=>⟨_,⟨hsv,rfl⟩,by rw[←hres];exact((hw.dp [1]).pk [0,1])⟩)
theorem AX(B:World)(Fr:List HP)(bh bs bt x:Nat)(h:HpS)(s:Dev)(hW:dY h s):
 ∀ w,Holds B (cE bh bs bt x h::gc bt h.T::aB h.bd s::Fr) w→Calls Tryz.prog 91 [ptr bh].toArray w (Ret B (fun rv H'=>aM rv=true∧H'=cS 0 (rv,h.words++(h.blk s).rts)::cE bh bs bt x h::gc bt h.T::aB h.bd s::Fr) (fun _ _=>False)):=by
 refine ap func91 aa ntmps91 aa ?_
 have hc:=hW.c
 have hu:=hW.u
 have hbk:=dA (s:=s) hc hu
 have hbl:(h.blk s).rts.length≤16:=fI (s:=s) hc
 have hwl:h.words.length≤800000:=by have:=hW.tl;simp[HpS.words,cf];exact this
 refine ac (ab (kPa aa aa (ad (ac (ab (kPm aa aa (aJ aa (ar call134 aa) (qu B _ bh bs bt x h s hW) .free aa aa ?_)))))))
 rintro wv _ ⟨hwv,rfl⟩
 refine kPm aa aa (aS [1,2] (aJ aa (ar call81 aa) (gB B _ bh bs bt x h s hW.c hW.u) .free aa aa ?_))
 rintro _ _ ⟨sv,hsv,rfl,rfl⟩
 refine cC fun qb cb hqb hqbi=> ?_
 subst hqb
 refine kPv (hO runUnderlying151 (t:=30) (off:=2) aa isAgg30 aa aa) aa (aS [3] (cK aa (dW (yv:=(.slice qb (h.blk s).rts.length cb)) (ys:=(h.blk s).rts) aa aa runUnderlying30 runUnderlying30 ⟨_,rfl⟩ sizeOf25 zeroValue25 aa (fun _=>rfl) ia aa aa (cO (1 - 1) aa) (by omega)) .free aa aa ?_))
 rintro nv _ ⟨hnv,rfl⟩
 refine kPa aa aa (ad (am [2] rfl (ay ?_)))
 exact au results91 aa (fun w hw=>⟨_,⟨hnv,rfl⟩,((hw.dp [1]).pk [0,0,1])⟩)
end Go.Proofs.YtoakdoeajpjgkaaGreatDoor
