/- Part of a law's texts. Conditions: none. -/
import Derived.Test.YtipdhkmphngmoaaGreatDoorQL19Fb
import Derived.Laws.AppendOwn
import Derived.Laws.IdiomStrings
import Derived.Lib.ConvBytes
set_option linter.all false
namespace Go.Proofs.YtipdhkmphngmoaaGreatDoor
open Go
section
variable {P:Program} {ops:Array Oper} {md:Region.Mode} {C:World→Prop} {ro:Cx}
def vB(md:Region.Mode)(ops:Array Oper)(n:Nat):Bool:=(List.range ops.size).all fun t=>decide (t≤n)||(List.range t).any fun u=>decide (n≤u)&&Region.waitsFor md ops t u
theorem nh{n:Nat}{listed:Array Bool}(hs:Region.sinkB md ops n=true)(hc:vB md ops n=true)(hn:n<ops.size)(inv:HeadInv md ops n listed):
 ∀ (d i:Nat),n - i=d→i<n→listed.getD i true=false→∀ t,n≤t→t∉Region.ready md ops listed:=by
 intro d
 induction d using Nat.strongRecOn with
 | _ d ih=>
   intro i hd hi hun t ht hr
   obtain⟨_,ot,hot,hall⟩:=mem_ready.1 hr
   have htlt:t<ops.size:=(Array.getElem?_eq_some_iff.1 hot).1
   by_cases htn:t=n
   ·subst htn
    have h1:=List.all_eq_true.1 hs i (List.mem_range.2 hi)
    obtain⟨j,hj,hj2⟩:=List.any_eq_true.1 h1
    simp only[Bool.and_eq_true,decide_eq_true_eq] at hj2
    obtain⟨oj,hoj,e,he,hb,hon⟩:=Region.waitsFor_spec hj2.2
    have hjle:j≤t:=by have:=List.mem_range.1 hj;omega
    by_cases hjt:j=t
    ·subst hjt
     have:oj=ot:=Option.some.inj (hoj.symm.trans hot)
     subst this
     have h2:=hall e he hb
     rw[hon,getD_both hun] at h2
     cases h2
    ·cases hl:listed.getD j false with
     | true=>
       have h2:=inv.closed j oj hoj hl e he hb
       rw[hon,getD_both hun] at h2
       cases h2
     | false=>
       have hjs:j<listed.size:=by rw[inv.size];omega
       exact ih (t - j) (by omega) j aa (by omega) (getD_in hjs hl) t (Nat.le_refl _) hr
   ·have h1:=List.all_eq_true.1 hc t (List.mem_range.2 htlt)
    simp only[Bool.or_eq_true,decide_eq_true_eq] at h1
    rcases h1 with h1 | h1
    ·omega
    ·obtain⟨u,hu,hu2⟩:=List.any_eq_true.1 h1
     simp only[Bool.and_eq_true,decide_eq_true_eq] at hu2
     have hut:=List.mem_range.1 hu
     obtain⟨o',ho',e,he,hb,hon⟩:=Region.waitsFor_spec hu2.2
     have:o'=ot:=Option.some.inj (ho'.symm.trans hot)
     subst this
     have h2:=hall e he hb
     rw[hon,getD_both (inv.tail u (by omega) (by omega))] at h2
     cases h2
theorem oa{n i:Nat}{oi:Oper}{v:Value}{L:Array Bool→Act→Prop}(hi:ops[i]? =some oi)(hsel:∀ (j:Nat) (o:Oper) cs b,ops[j]? =some o→o.op≠ .select cs b)
 (hs:Region.sinkB md ops n=true) (hc:vB md ops n=true) (hn:n<ops.size) (hin:i<n)
 (hdone:∀ listed a,L listed a→∀ j∈Region.ready md ops listed,n≤j):
 ∀ (f:Nat) (listed:Array Bool) (a:Act),HeadInv md ops n listed→
  (∀ j oj,ops[j]? =some oj→j≠i→listed.getD j true=false→(∀ e∈oj.after,Region.binds md e=true→e.on≠i)→oi.apart ops oj=true)→
  i∈Region.ready md ops listed→YieldsIn P ops C oi v a→
  iD P md ops C n L f (listed.setIfInBounds i true) (a.put oi.dst v)→iD P md ops C n L (f+1) listed a:=by
 intro f
 induction f with
 | zero=>
   intro listed a inv _ hr hy HH
   refine⟨fun h=>(by rw[h] at hr;cases hr),fun j hj=> ?_⟩
   have hun:=(mem_ready.1 hr).1
   have hjn:j<n:=by
    rcases Nat.lt_or_ge j n with h | h
    ·exact h
    ·exact absurd hj (nh hs hc hn inv _ i aa hin hun j h)
   refine⟨hjn,?_⟩
   by_cases hji:j=i
   ·subst hji;exact hy.qOp hi HH
   ·have:=hdone _ _ HH j (ready_mono hj hji)
    omega
 | succ f ih=>
   intro listed a inv hfree hr hy HH
   have hun:=(mem_ready.1 hr).1
   refine⟨fun h=>(by rw[h] at hr;cases hr),fun j hj=> ?_⟩
   have hjn:j<n:=by
    rcases Nat.lt_or_ge j n with h | h
    ·exact h
    ·exact absurd hj (nh hs hc hn inv _ i aa hin hun j h)
   refine⟨hjn,?_⟩
   by_cases hji:j=i
   ·subst hji;exact hy.qOp hi HH
   ·have h1:=(HH.2 j (ready_mono hj hji)).2
    obtain⟨hjun,oj,hoj,hall⟩:=mem_ready.1 hj
    have hnot:∀ e∈oj.after,Region.binds md e=true→e.on≠i:=fun e he hb heq=>by
     have h1:=hall e he hb
     rw[heq,getD_both hun] at h1
     cases h1
    have h2:=qOp_put hoj (hfree j oj hoj hji hjun hnot) (fun cs b=>hsel i oi cs b hi) (fun cs b=>hsel j oj cs b hoj) hy h1
    have hfree':∀ k ok,ops[k]? =some ok→k≠i→(listed.setIfInBounds j true).getD k true=false→
     (∀ e∈ok.after,Region.binds md e=true→e.on≠i)→oi.apart ops ok=true:=fun k ok hk hki hun hno=>by
     refine hfree k ok hk hki ?_ hno
     by_cases hjk:j=k
     ·subst hjk;exact hjun
     ·rw[getD_set_ne true hjk] at hun;exact hun
    refine qOp_mono (fun a' h3=>ih (listed.setIfInBounds j true) a' (inv.set hj hjn) hfree' (ready_mono hr (Ne.symm hji)) h3.1 ?_) h2
    rw[Array.setIfInBounds_comm _ _ hji]
    exact h3.2
def tk(md:Region.Mode)(ops:Array Oper)(E:Array Bool→Bool):Nat→Nat→Array Bool→Bool
 | 0,_,listed=>E listed
 | f+1,k,listed=>(Region.ready md ops listed).contains k&&Region.free md ops listed k&&tk md ops E f (k+1) (listed.setIfInBounds k true)
theorem lG{n:Nat}{Lq:Act→Prop}{E:Array Bool→Bool}(hE:∀ listed,E listed=true→∀ j∈Region.ready md ops listed,n≤j)(hsel:Region.noSelect ops=true)(hs:Region.sinkB md ops n=true)(hc:vB md ops n=true)(hn:n<ops.size):
 ∀ (l:List Oper) (k:Nat) (listed:Array Bool) (a:Act),(∀ j,j<l.length→l[j]? =ops[k+j]?)→k+l.length=n→HeadInv md ops n listed→
 tk md ops E l.length k listed=true→wpQuiet P ops C Lq l a→
 iD P md ops C n (fun listed' a'=>(E listed'=true∧HeadInv md ops n listed')∧Lq a') l.length listed a
 | [],k,listed,a,_,hk,inv,hB,h=>⟨⟨by simpa [tk] using hB,inv⟩,h⟩
 | o::l,k,listed,a,hl,hk,inv,hB,h=>by
   have h0:ops[k]? =some o:=by simpa using(hl 0 (by simp)).symm
   simp only[List.length_cons,tk,Bool.and_eq_true] at hB
   obtain⟨⟨hr,hf⟩,hB'⟩:=hB
   have hkn:k<n:=by simp only[List.length_cons] at hk;omega
   have hr':k∈Region.ready md ops listed:=by simpa using hr
   have hst:qOp P ops C k (wpQuiet P ops C Lq l) a:=by unfold qOp;simp only[h0];exact h
   obtain⟨v,hy,hK⟩:=yieldsIn_of_qOp h0 hst
   exact oa h0 (Region.noSelect_spec hsel) hs hc hn hkn (fun listed' a' hL=>hE listed' hL.1.1) l.length listed a inv (Region.free_spec h0 hf) hr' hy
    (lG hE hsel hs hc hn l (k+1) _ _ (fun j hj=>by have:=hl (j+1) (by simp;omega);simpa [Nat.add_assoc,Nat.add_comm 1 j] using this) (by simp only[List.length_cons] at hk;omega) (inv.set hr' hkn) hB' hK)
def oJ(md:Region.Mode)(ops:Array Oper):List Nat→Nat→Array Bool→Bool
 | [],k,listed=>Region.lexFrom md ops (ops.size - k) k listed
 | m::ms,k,listed=>decide (k≤m)&&decide (m<ops.size)&&Region.sinkB md ops m&&vB md ops m&&
  tk md ops (fun listed'=>decide (Region.ready md ops listed'=[m])&&oJ md ops ms (m+1) (listed'.setIfInBounds m true)) (m - k) k listed
def zi(md:Region.Mode)(ops:Array Oper)(ms:List Nat):Bool:=Region.noSelect ops&&oJ md ops ms 0 (Array.replicate ops.size false)
end
section
variable {B:World} {n:Nat} {D:List Deferred} {σ:Env} {H:List HP} {P:Program} {ro:Cx} {K:Act→World→Prop} {X:Ext} {ops:Array Oper} {rest:List Oper} {Kq:Act→Prop}
def Seg(P:Program)(ro:Cx)(B:World)(K:Act→World→Prop)(X:Ext)(l:List Oper):List Nat→Nat→Act→World→Prop
 | [],k=>fun a w=>∃ H,Holds B H w∧qw P l.toArray B H (atH B H K) (l.drop k) a
 | m::ms,k=>fun a w=>∃ H,Holds B H w∧qw P l.toArray B H (atH B H (lw ro P l.toArray (Seg P ro B K X l ms (m+1)) X ((l.drop m).take 1))) ((l.drop k).take (m - k)) a
theorem B5{l:List Oper}{m k:Nat}{ms:List Nat}(h:QO n D σ (qw P l.toArray B H (atH B H (lw ro P l.toArray (Seg P ro B K X l ms (m+1)) X ((l.drop m).take 1))) ((l.drop k).take (m - k)))):GO B n D σ H (Seg P ro B K X l (m::ms) k):=fun a w s=>⟨H,s.holds,h a s.toStA⟩
theorem B6{l:List Oper}{k:Nat}(h:QO n D σ (qw P l.toArray B H (atH B H K) (l.drop k))):GO B n D σ H (Seg P ro B K X l [] k):=fun a w s=>⟨H,s.holds,h a s.toStA⟩
theorem vF{l:List Oper}(hnd:gj l.toArray=true)(hsel:Region.noSelect l.toArray=true):∀ (ms:List Nat) (k:Nat) (listed:Array Bool) (a:Act) (w:World),k≤l.length→(∀ t,k≤t→t<l.toArray.size→listed.getD t true=false)→(listed.size=l.toArray.size)→(∀ j oj,l.toArray[j]? =some oj→listed.getD j false=true→∀ e∈oj.after,Region.binds .any e=true→listed.getD e.on false=true)→
 oJ .any l.toArray ms k listed=true→Seg P ro B K X l ms k a w→wpAnyIn (Wd ro) 0 P .any l.toArray (toQ K X) (l.length - k) listed a w
 | [],k,listed,a,w,hk,_,_,_,hB,⟨H,hw,h⟩=>by
   simp only[oJ] at hB
   have hdl:(l.drop k).length=l.length - k:=by simp
   refine gn (C:=Holds B H) (Q:=atH B H K) hnd (fun a w hw q=>q w hw) _ _ _ _ hw ?_
   have:=wpAnyQ_lex (P:=P) (C:=Holds B H) (Q:=atH B H K) (md:= .any) hsel (l.drop k) k listed a (fun j=>by simp) (by rw[hdl];simpa using hB) h
   rwa [hdl] at this
 | m::ms,k,listed,a,w,hk,ht,hsz,hcl,hB,⟨H,hw,h⟩=>by
   simp only[oJ,Bool.and_eq_true,decide_eq_true_eq] at hB
   obtain⟨⟨⟨⟨hkm,hml⟩,hs⟩,hc⟩,hh⟩:=hB
   have hml':m<l.length:=by simpa using hml
   have hlen:((l.drop k).take (m - k)).length=m - k:=by simp;omega
   have inv:HeadInv .any l.toArray m listed:=⟨hsz,hcl,fun t h1 h2=>ht t (by omega) h2⟩
   have HH:=lG (P:=P) (C:=Holds B H) (md:= .any) (ops:=l.toArray) (n:=m) (E:=fun listed'=>decide (Region.ready .any l.toArray listed'=[m])&&oJ .any l.toArray ms (m+1) (listed'.setIfInBounds m true)) (fun listed' hE j hj=>by
    simp only[Bool.and_eq_true,decide_eq_true_eq] at hE
    rw[hE.1] at hj
    have:j=m:=by simpa using hj
    omega) hsel hs hc hml ((l.drop k).take (m - k)) k listed a (fun j hj=>by
    rw[hlen] at hj
    rw[List.getElem?_take_of_lt hj];simp) (by rw[hlen];omega) inv (by rw[hlen];exact hh) h
   have fin:∀ (listed':Array Bool) (a':Act),(((decide (Region.ready .any l.toArray listed'=[m])&&oJ .any l.toArray ms (m+1) (listed'.setIfInBounds m true))=true∧HeadInv .any l.toArray m listed')∧(atH B H (lw ro P l.toArray (Seg P ro B K X l ms (m+1)) X ((l.drop m).take 1))) a')→∀ w,Holds B H w→wpAnyIn (Wd ro) 0 P .any l.toArray (toQ K X) (l.length - m) listed' a' w:=by
    intro listed' a' hL w hw
    obtain⟨⟨hE,inv'⟩,hq⟩:=hL
    simp only[Bool.and_eq_true,decide_eq_true_eq] at hE
    obtain⟨hr,hpl⟩:=hE
    rw[show l.length - m=(l.length - (m+1))+1 by omega]
    refine⟨fun h0=>(by rw[hr] at h0;cases h0),fun i hi=> ?_⟩
    rw[hr] at hi
    obtain rfl:i=m:=by simpa using hi
    have h0:l.toArray[i]? =some l[i]:=by simp[hml']
    have h1:(l.drop i).take 1=[l[i]]:=by rw[List.drop_eq_getElem_cons hml'];rfl
    have h2:=hq w hw
    rw[h1] at h2
    have h3:wpOpIn (Wd ro) 0 P l.toArray (toQ K X) i (Seg P ro B K X l ms (i+1)) a' w:=by unfold wpOpIn;simp only[h0];exact h2
    obtain⟨_,oi,hoi,hall⟩:=mem_ready.1 (show i∈Region.ready .any l.toArray listed' by rw[hr];simp)
    refine wpOpIn_mono (fun a'' w'' h4=>vF hnd hsel ms (i+1) _ a'' w'' (by omega) (fun t h5 h6=> ?_) (by simp[inv'.size]) ?_ hpl h4) h3
    ·rw[getD_set_ne true (by omega)];exact inv'.tail t (by omega) h6
    ·intro j oj hj hl e he hb
     by_cases hij:i=j
     ·subst hij
      have:oj=oi:=Option.some.inj (hj.symm.trans hoi)
      subst this
      exact getD_set_true (hall e he hb)
     ·rw[getD_set_ne false hij] at hl
      exact getD_set_true (inv'.closed j oj hj hl e he hb)
   have:=gV (ro:=ro) (Q':=toQ K X) (g:=l.length - m) hnd fin _ _ _ w hw HH
   rwa [hlen,show m - k+(l.length - m)=l.length - k by omega] at this
theorem wx{id:Nat}{l:List Oper}(ms:List Nat)(hm:P.follows .mixedOrders=true)(hnd:gj l.toArray=true)(hB:zi .any l.toArray ms=true)
 (h:GO B n D σ H (Seg P ro B K X l ms 0)):GO B n D σ H (cw ro P (.region id l.toArray true) K X):=by
 intro a w s
 simp only[zi,Bool.and_eq_true] at hB
 refine kE <| wpIn_region_any hm ?_
 have s':St B n D σ H a {w with drawn:=w.drawn+1}:=⟨s.toStA,s.holds.drew _⟩
 have:=vF (ro:=ro) (K:=K) (X:=X) hnd hB.1 ms 0 (Array.replicate l.toArray.size false) a _ (Nat.zero_le _) (fun t _ ht=>getD_in (by simpa using ht) (getD_replicate_false _ _)) (by simp) (fun j oj _ hl=>(by rw[getD_replicate_false] at hl;cases hl)) hB.2 (h a _ s')
 simpa using this
end
section
variable {P:Program} {ops:Array Oper} {md:Region.Mode} {ro:Cx}
def YV(P:Program)(ops:Array Oper)(C:World→Prop)(o:Oper)(v:Value)(a:Act):Prop:=
 (Region.wanted o (yielded ops a.tmps)=true∧∀ w,C w→(execOp a.eval o).run P w= .ok (.value v) w)∨(Region.wanted o (yielded ops a.tmps)=false∧v=undef)
theorem YV.of_same{C:World→Prop}{o:Oper}{v:Value}{a a':Act}(hy:YV P ops C o v a)(he:execOp a'.eval o=execOp a.eval o)
 (hw:Region.wanted o (yielded ops a'.tmps)=Region.wanted o (yielded ops a.tmps)):YV P ops C o v a':=by
 unfold YV at*
 rw[he,hw]
 exact hy
theorem YV.op{C:World→Prop}{i:Nat}{o:Oper}{v:Value}{a:Act}{w:World}{K:Act→World→Prop}{Q:Exit→Act→World→Prop}(hnd:gj ops=true)(hi:ops[i]? =some o)(hw:C w)(hy:YV P ops C o v a)(h:K (a.put o.dst v) w):wpOpIn (Wd ro) 0 P ops Q i K a w:=by
 unfold wpOpIn
 simp only[hi]
 rcases hy with ⟨h1,h2⟩ | ⟨h1,rfl⟩
 ·rw[if_pos h1]
  refine⟨fun _ _=>trivial,?_⟩
  rw[fx (mD hnd hi),h2 w hw]
  exact h
 ·rw[if_neg (by rw[h1];simp)]
  exact⟨fun _ _=>trivial,h⟩
def gU(P:Program)(ro:Cx)(md:Region.Mode)(ops:Array Oper)(mk cc:Nat→Bool)(C:World→Prop)(Q:Exit→Act→World→Prop):Nat→Array Bool→Act→World→Prop
 | 0,listed,a,w=>Region.ready md ops listed=[]∧Q .normal a w
 | f+1,listed,a,w=>(Region.ready md ops listed=[]→Q .normal a w)∧∀ i∈Region.ready md ops listed,
  (mk i=true→wpOpIn (Wd ro) 0 P ops Q i (fun a w=>∃ C':World→Prop,(∀ w,C' w→C w)∧(cc i=true→C' w)∧gU P ro md ops mk cc C' Q f (listed.setIfInBounds i true) a w) a w)∧
  (mk i=false→∃ oi v,ops[i]? =some oi∧YV P ops (·=w) oi v a∧gU P ro md ops mk cc C Q f (listed.setIfInBounds i true) (a.put oi.dst v) w)
theorem gU.any{mk cc:Nat→Bool}{C:World→Prop}{Q:Exit→Act→World→Prop}(hnd:gj ops=true):∀ {f:Nat} {listed:Array Bool} {a:Act} {w:World},gU P ro md ops mk cc C Q f listed a w→wpAnyIn (Wd ro) 0 P md ops Q f listed a w
 | 0,_,_,_,h=>h
 | f+1,listed,a,w,h=>⟨h.1,fun i hi=>by
   cases hm:mk i with
   | true=>exact wpOpIn_mono (fun _ _ ⟨_,_,_,h⟩=>gU.any hnd h) ((h.2 i hi).1 hm)
   | false=>
     obtain⟨oi,v,h1,h2,h3⟩:=(h.2 i hi).2 hm
     exact h2.op (C:=(·=w)) hnd h1 aa (gU.any hnd h3)⟩
theorem uj{C:World→Prop}{j:Nat}{oi oj:Oper}{v:Value}{K0:Act→World→Prop}{X:Ext}{K:Act→World→Prop}{a:Act}{w:World}(hnd:gj ops=true)(hj:ops[j]? =some oj)(hap:oi.apart ops oj=true)
 (hsi:∀ cs b,oi.op≠ .select cs b) (hsj:∀ cs b,oj.op≠ .select cs b) (hX:∀ c a w d v,X.pan c (a.put d v) w→X.pan c a w) (hy:YV P ops C oi v a)
 (h:wpOpIn (Wd ro) 0 P ops (toQ K0 X) j K (a.put oi.dst v) w):wpOpIn (Wd ro) 0 P ops (toQ K0 X) j (fun a' w'=>YV P ops C oi v a'∧K (a'.put oi.dst v) w') a w:=by
 obtain⟨h1,h2,h3⟩:=Oper.apart_spec hap
 have keep:∀ (a:Act),YV P ops C oi v a→∀ u,YV P ops C oi v (a.put oj.dst u):=fun a hy u=>hy.of_same (execOp_put oi hsi a oj.dst u h3) (wanted_put oi a oj.dst u h3)
 unfold wpOpIn at*
 simp only[hj] at h ⊢
 rw[wanted_put oj a oi.dst v h1] at h
 split
 ·rename_i hw
  rw[if_pos hw] at h
  obtain⟨-,h⟩:=h
  refine⟨fun _ _=>trivial,?_⟩
  rw[fx (mD hnd hj)] at h ⊢
  rw[execOp_put oj hsj a oi.dst v h1] at h
  generalize (execOp a.eval oj).run P w=r at h ⊢
  cases r with
  | ok n w'=>
    cases n with
    | value u=>exact⟨keep a hy u,by rw[←Act.put_comm a v u h2];exact h⟩
    | skip=>exact⟨keep a hy undef,by rw[←Act.put_comm a v undef h2];exact h⟩
    | enter f args=>
      obtain⟨g1,g2⟩:=h
      refine⟨g1,g2.mono fun e w'' q=> ?_⟩
      cases e with
      | returned u=>exact⟨keep a hy u,by rw[←Act.put_comm a v u h2];exact q⟩
      | panicked c=>exact hX c a w'' oi.dst v q
      | outgrown=>exact q
    | row r args=>
      obtain⟨g1,g2⟩:=h
      exact⟨g1,g2.mono fun u w'' q=>⟨keep a hy u,by rw[←Act.put_comm a v u h2];exact q⟩⟩
    | round l f tm as bo=>
      obtain⟨g1,g2⟩:=h
      refine⟨g1,g2.mono fun e w'' q=> ?_⟩
      cases e with
      | returned u=>exact⟨keep a hy u,by rw[←Act.put_comm a v u h2];exact q⟩
      | panicked c=>exact hX c a w'' oi.dst v q
      | outgrown=>exact q
    | defer d=>
      have e1:=Act.put_comm {a with defers:=d::a.defers} v undef h2
      have e2:({a.put oi.dst v with defers:=d::(a.put oi.dst v).defers}:Act)=({a with defers:=d::a.defers}:Act).put oi.dst v:=by cases oi.dst<;>rfl
      exact⟨keep {a with defers:=d::a.defers} (hy.of_same aa aa) undef,by rw[←e1, ←e2];exact h⟩
    | _=>exact h
  | halt x w'=>
    cases x with
    | panic u=>exact hX _ a w' oi.dst v h
    | _=>exact h
 ·rename_i hw
  rw[if_neg hw] at h
  exact⟨fun _ _=>trivial,keep a hy undef,by rw[←Act.put_comm a v undef h2];exact h.2⟩
def wU(md:Region.Mode)(ops:Array Oper)(ms:List Nat)(i:Nat):Bool:=
 let can:=(List.range ops.size).foldl (fun (c:List Bool) t=>(match (ops[t]? :Option Oper) with
  | some o=> !(Nat.beq t i)&&o.after.all (fun e=> !Region.binds md e||c.getD e.on false)
  | none=>false) |> fun b=>c++[b]) []
 ms.all (fun m=> !can.getD m false)&&
 (List.range ops.size).all fun t=>match (ops[t]? :Option Oper) with
  | some o=>Nat.beq t i||can.getD t false||o.after.any (fun e=>Region.binds md e&& !can.getD e.on false)
  | none=>true
def xE(md:Region.Mode)(ops:Array Oper):Bool:=(List.range ops.size).all fun t=>match (ops[t]? :Option Oper) with
 | some o=>o.after.all fun e=> !Region.binds md e||Nat.blt e.on t
 | none=>true
structure fG(md:Region.Mode)(ops:Array Oper)(listed:Array Bool):Prop where
 size:listed.size=ops.size
 closed:∀ j oj,ops[j]? =some oj→listed.getD j false=true→∀ e∈oj.after,Region.binds md e=true→listed.getD e.on false=true
theorem fG.set{listed:Array Bool}{i:Nat}(inv:fG md ops listed)(hi:i∈Region.ready md ops listed):fG md ops (listed.setIfInBounds i true):=by
 obtain⟨_,oi,hoi,hall⟩:=mem_ready.1 hi
 refine⟨by simp[inv.size],fun j oj hj hl e he hb=> ?_⟩
 by_cases hij:i=j
 ·subst hij
  have:oj=oi:=Option.some.inj (hj.symm.trans hoi)
  subst this
  exact getD_set_true (hall e he hb)
 ·rw[getD_set_ne false hij] at hl
  exact getD_set_true (inv.closed j oj hj hl e he hb)
theorem pM{ms:List Nat}{i:Nat}(h:wU md ops ms i=true)(hlow:xE md ops=true){listed:Array Bool}(inv:fG md ops listed)(hun:listed.getD i true=false)(hmi:∀ m∈ms,m≠i):∀ m∈ms,m∉Region.ready md ops listed:=by
 unfold wU at h
 generalize (List.range ops.size).foldl _ []=can at h
 simp only[Bool.and_eq_true] at h
 obtain⟨h1,h2⟩:=h
 have hl:∀ t o,ops[t]? =some o→∀ e∈o.after,Region.binds md e=true→e.on<t:=fun t o ho e he hb=>by
  have:=List.all_eq_true.1 hlow t (List.mem_range.2 (Array.getElem?_eq_some_iff.1 ho).1)
  simp only[ho] at this
  have:=Array.all_eq_true'.1 this e he
  simpa [hb,Nat.blt_eq] using this
 have step:∀ t o,ops[t]? =some o→t≠i→(∀ e∈o.after,Region.binds md e=true→can.getD e.on false=true)→can.getD t false=true:=fun t o ho hti hd=>by
  have:=List.all_eq_true.1 h2 t (List.mem_range.2 (Array.getElem?_eq_some_iff.1 ho).1)
  simp only[ho,Bool.or_eq_true] at this
  rcases this with (h3 | h3) | h3
  ·exact absurd (Nat.eq_of_beq_eq_true h3) hti
  ·exact h3
  ·obtain⟨e,he,h4⟩:=Array.any_eq_true'.1 h3
   simp only[Bool.and_eq_true,Bool.not_eq_true'] at h4
   rw[hd e he h4.1] at h4;cases h4.2
 have key:∀ t,listed.getD t false=true→can.getD t false=true:=fun t=>by
  induction t using Nat.strongRecOn with
  | _ t ih=>
    intro ht
    have htl:t<ops.size:=by
     rw[←inv.size]
     rcases Nat.lt_or_ge t listed.size with h | h
     ·exact h
     ·simp[h] at ht
    have ho:=Array.getElem?_eq_getElem htl
    refine step t _ ho (fun e=> ?_) fun e he hb=>ih e.on (hl t _ ho e he hb) (inv.closed t _ ho ht e he hb)
    subst e
    rw[getD_both hun] at ht;cases ht
 intro m hm hr
 obtain⟨_,o,ho,hall⟩:=mem_ready.1 hr
 have h3:=List.all_eq_true.1 h1 m hm
 by_cases e:m=i
 ·subst e
  exact hmi m hm aa
 ·rw[step m o ho e fun e he hb=>key e.on (hall e he hb)] at h3;cases h3
theorem hJ{mk cc:Nat→Bool}{C Ci:World→Prop}{K:Act→World→Prop}{X:Ext}{i:Nat}{oi:Oper}{v:Value}(hnd:gj ops=true)(hsel:Region.noSelect ops=true)(hX:∀ c a w d v,X.pan c (a.put d v) w→X.pan c a w)(hi:ops[i]? =some oi)(hmi:mk i=false)
 (base:Array Bool) (hCi:∀ listed,fG md ops listed→(∀ t,base.getD t false=true→listed.getD t false=true)→listed.getD i true=false→∀ j∈Region.ready md ops listed,mk j=true→(∀ w,C w→Ci w)∧cc j=true):
 ∀ (f:Nat) (listed:Array Bool) (a:Act) (w:World),fG md ops listed→(∀ t,base.getD t false=true→listed.getD t false=true)→
  (∀ j oj,ops[j]? =some oj→j≠i→listed.getD j true=false→(∀ e∈oj.after,Region.binds md e=true→e.on≠i)→oi.apart ops oj=true)→
  i∈Region.ready md ops listed→Ci w→YV P ops Ci oi v a→gU P ro md ops mk cc C (toQ K X) f (listed.setIfInBounds i true) (a.put oi.dst v) w→gU P ro md ops mk cc C (toQ K X) (f+1) listed a w:=by
 have hs:=Region.noSelect_spec hsel
 intro f
 induction f generalizing C with
 | zero=>
   intro listed a w inv hbase hfree hr hw hy H
   refine⟨fun h=>(by rw[h] at hr;cases hr),fun j hj=> ?_⟩
   by_cases hji:j=i
   ·subst hji
    refine⟨fun h=>(by rw[hmi] at h;cases h),fun _=>⟨oi,v,hi,?_,H⟩⟩
    rcases hy with ⟨h1,h2⟩ | h1
    ·exact .inl ⟨h1,fun w' e=>(by subst e;exact h2 _ hw)⟩
    ·exact .inr h1
   ·have:=ready_mono hj hji
    rw[H.1] at this;cases this
 | succ f ih=>
   intro listed a w inv hbase hfree hr hw hy H
   have hun:=(mem_ready.1 hr).1
   refine⟨fun h=>(by rw[h] at hr;cases hr),fun j hj=> ?_⟩
   by_cases hji:j=i
   ·subst hji
    refine⟨fun h=>(by rw[hmi] at h;cases h),fun _=>⟨oi,v,hi,?_,H⟩⟩
    rcases hy with ⟨h1,h2⟩ | h1
    ·exact .inl ⟨h1,fun w' e=>(by subst e;exact h2 _ hw)⟩
    ·exact .inr h1
   ·obtain⟨hjun,oj,hoj,hall⟩:=mem_ready.1 hj
    have hnot:∀ e∈oj.after,Region.binds md e=true→e.on≠i:=fun e he hb heq=>by
     have h1:=hall e he hb
     rw[heq,getD_both hun] at h1
     cases h1
    have hap:=hfree j oj hoj hji hjun hnot
    have hfree':∀ k ok,ops[k]? =some ok→k≠i→(listed.setIfInBounds j true).getD k true=false→
     (∀ e∈ok.after,Region.binds md e=true→e.on≠i)→oi.apart ops ok=true:=fun k ok hk hki hun hno=>by
     refine hfree k ok hk hki ?_ hno
     by_cases hjk:j=k
     ·subst hjk;exact hjun
     ·rw[getD_set_ne true hjk] at hun;exact hun
    have Hj:=H.2 j (ready_mono hj hji)
    rw[Array.setIfInBounds_comm _ _ (Ne.symm hji)] at Hj
    refine⟨fun hm=> ?_,fun hm=> ?_⟩
    ·obtain⟨hsub,hcc⟩:=hCi listed inv hbase hun j hj hm
     refine wpOpIn_mono (fun a' w' ⟨g1,C',g0,g2,g3⟩=>⟨C',g0,g2,ih (C:=C') (fun l i1 i2 i3 j hj hm=>⟨fun w h=>(hCi l i1 i2 i3 j hj hm).1 w (g0 w h),(hCi l i1 i2 i3 j hj hm).2⟩) _ a' w' (inv.set hj) (fun t ht=>getD_set_true (hbase t ht)) hfree' (ready_mono hr (Ne.symm hji)) (hsub _ (g0 _ (g2 hcc))) g1 g3⟩) (uj hnd hoj hap (fun cs b=>hs i oi cs b hi) (fun cs b=>hs j oj cs b hoj) hX hy (Hj.1 hm))
    ·obtain⟨oj',u,hoj',yu,hK⟩:=Hj.2 hm
     obtain rfl:oj=oj':=by rw[hoj] at hoj';exact Option.some.inj hoj'
     obtain⟨h1,h2,h3⟩:=Oper.apart_spec hap
     refine⟨oj,u,hoj,yu.of_same (execOp_put oj (fun cs b=>hs j oj cs b hoj) a oi.dst v h1).symm (wanted_put oj a oi.dst v h1).symm,?_⟩
     rw[Act.put_comm a v u h2] at hK
     exact ih hCi _ _ w (inv.set hj) (fun t ht=>getD_set_true (hbase t ht)) hfree' (ready_mono hr (Ne.symm hji)) hw (hy.of_same (execOp_put oi (fun cs b=>hs i oi cs b hi) a oj.dst u h3) (wanted_put oi a oj.dst u h3)) hK
def wpV(P:Program)(ro:Cx)(ops:Array Oper)(ms hs cs:List Nat)(C:World→Prop)(X:Ext)(K:Act→World→Prop):List Nat→Act→World→Prop
 | []=>K
 | k::ord=>bif ms.contains k then fun a w=>wpOpIn (Wd ro) 0 P ops (toQ K X) k (fun a w=>(cs.contains k=true→C w)∧wpV P ro ops ms hs cs C X K ord a w) a w
   else bif hs.contains k then fun a w=>C w∧∃ oi v,ops[k]? =some oi∧YV P ops C oi v a∧wpV P ro ops ms hs cs C X K ord (a.put oi.dst v) w
   else fun a w=>∃ oi v,ops[k]? =some oi∧YV P ops (·=w) oi v a∧wpV P ro ops ms hs cs C X K ord (a.put oi.dst v) w
def sH(md:Region.Mode)(ops:Array Oper)(ms hs cs:List Nat):List Nat→Array Bool→Bool
 | [],listed=>(Region.ready md ops listed).isEmpty
 | k::ord,listed=>(Region.ready md ops listed).contains k&&(bif ms.contains k then decide (Region.ready md ops listed=[k]) else Region.free md ops listed k&&wU md ops (ms.filter fun m=> !listed.getD m false&& !(hs.contains k&&cs.contains m)) k)&&sH md ops ms hs cs ord (listed.setIfInBounds k true)
theorem nH{ms hs cs:List Nat}{C:World→Prop}{K:Act→World→Prop}{X:Ext}(hnd:gj ops=true)(hsel:Region.noSelect ops=true)(hlow:xE md ops=true)(hX:∀ c a w d v,X.pan c (a.put d v) w→X.pan c a w):∀ (ord:List Nat) (listed:Array Bool) (a:Act) (w:World),fG md ops listed→sH md ops ms hs cs ord listed=true→wpV P ro ops ms hs cs C X K ord a w→
 gU P ro md ops (fun i=>ms.contains i) (fun i=>cs.contains i) C (toQ K X) ord.length listed a w
 | [],listed,a,w,_,hp,h=>⟨by simpa [sH] using hp,h⟩
 | k::ord,listed,a,w,inv,hp,h=>by
   simp only[sH,Bool.and_eq_true] at hp
   obtain⟨⟨hr,hc⟩,hp'⟩:=hp
   have hr':k∈Region.ready md ops listed:=by simpa using hr
   simp only[wpV] at h
   cases hm:ms.contains k with
   | true=>
     rw[hm] at hc h
     simp only[cond_true,decide_eq_true_eq] at hc h
     refine⟨fun h0=>(by rw[h0] at hr';cases hr'),fun i hi=> ?_⟩
     rw[hc] at hi
     obtain rfl:i=k:=by simpa using hi
     exact⟨fun _=>wpOpIn_mono (fun a' w' ⟨g1,g2⟩=>⟨C,fun _ h=>h,g1,nH hnd hsel hlow hX ord _ a' w' (inv.set hr') hp' g2⟩) h,fun hf=>(by simp only[hm] at hf;cases hf)⟩
   | false=>
     rw[hm] at hc h
     simp only[cond_false,Bool.and_eq_true] at hc h
     obtain⟨hf,ha⟩:=hc
     have hno:∀ (Ci:World→Prop),(hs.contains k=true→Ci=C)→∀ listed',fG md ops listed'→(∀ t,listed.getD t false=true→listed'.getD t false=true)→listed'.getD k true=false→∀ j∈Region.ready md ops listed',ms.contains j=true→(∀ w,C w→Ci w)∧cs.contains j=true:=fun Ci hCi listed' inv' hb' hun' j hj hmj=>by
      by_cases hx:hs.contains k=true∧cs.contains j=true
      ·exact⟨fun w h=>(by rw[hCi hx.1];exact h),hx.2⟩
      ·exfalso
       cases hlj:listed.getD j false with
       | true=>
         have:=(mem_ready.1 hj).1
         have h5:=hb' j hlj
         rw[getD_both this] at h5;cases h5
       | false=>
         refine absurd hj (pM ha hlow inv' hun' (fun m hmm e=>by
          subst e
          rw[List.contains_iff_mem.2 (List.mem_filter.1 hmm).1] at hm;cases hm) j (List.mem_filter.2 ⟨List.contains_iff_mem.1 hmj,?_⟩))
         rw[hlj]
         simp only[Bool.not_false,Bool.true_and,Bool.not_eq_true']
         cases h1:hs.contains k with
         | false=>rfl
         | true=>
           cases h2:cs.contains j with
           | false=>rfl
           | true=>exact absurd ⟨h1,h2⟩ hx
     cases hh:hs.contains k with
     | true=>
       rw[hh] at h
       simp only[cond_true] at h
       obtain⟨hC,oi,v,h1,h2,h3⟩:=h
       exact hJ (Ci:=C) hnd hsel hX h1 hm listed (hno C fun _=>rfl) _ _ _ _ inv (fun _ h=>h) (Region.free_spec h1 hf) hr' hC h2 (nH hnd hsel hlow hX ord _ _ _ (inv.set hr') hp' h3)
     | false=>
       rw[hh] at h
       simp only[cond_false] at h
       obtain⟨oi,v,h1,h2,h3⟩:=h
       exact hJ (Ci:=(·=w)) hnd hsel hX h1 hm listed (hno _ fun h=>(by rw[hh] at h;cases h)) _ _ _ _ inv (fun _ h=>h) (Region.free_spec h1 hf) hr' aa h2 (nH hnd hsel hlow hX ord _ _ _ (inv.set hr') hp' h3)
end
class m7 (H H0:List HP):Prop where
 sub:∀ h,sat H h→sat H0 h
class pP (H:List HP) (A:HP) (Fr:outParam (List HP)):Prop where
 get:∃ i:Nat,H[i]? =some A∧Fr=H.eraseIdx i
instance pP.head {A:HP} {l:List HP}:pP (A::l) A l:=⟨0,rfl,rfl⟩
instance pP.tail {A A':HP} {l Fr:List HP} [r:pP l A Fr]:pP (A'::l) A (A'::Fr):=⟨let ⟨i,h1,h2⟩:=r.get;⟨i+1,by simpa using h1,by simp[h2]⟩⟩
instance m7.nil {H:List HP}:m7 H []:=⟨fun _ _=>trivial⟩
instance m7.cons {H Fr L:List HP} {A:HP} [r:pP H A Fr] [s:m7 Fr L]:m7 H (A::L):=⟨fun h hh=>by
 obtain⟨i,h1,h2⟩:=r.get
 subst h2
 exact fz (fun k hk=>s.sub k hk) (dI i h1 hh)⟩
class rW (X:Ext):Prop where
 put:∀ c a w d v,X.pan c (a.put d v) w→X.pan c a w
instance rW.fn {P:Program} {fn:Func} {R:Ending→World→Prop}:rW (fnX P fn R):=⟨fun c a w d v h=>by cases d<;>exact h⟩
instance rW.inB {X:Ext} {id:Nat} {K:Act→World→Prop} [h:rW X]:rW (X.inB id K):=⟨h.put⟩
instance rW.rX {B:World} {l:Nat} {R:Ending→World→Prop}:rW (rX B l R):=⟨fun c a w d v h=>by cases d<;>exact h⟩
section
variable {B:World} {n:Nat} {D:List Deferred} {σ:Env} {H H0:List HP} {P:Program} {ro:Cx} {K:Act→World→Prop} {X:Ext} {ops:Array Oper} {ms hs cs:List Nat} {ord:List Nat} {C:World→Prop}
theorem cQ{id:Nat}{l:List Oper}(ord ms hs cs:List Nat)(H0:List HP)(hm:P.follows .mixedOrders=true)[hX:rW X](hB:(gj l.toArray&&Region.noSelect l.toArray&&xE .any l.toArray&&Nat.beq ord.length l.length&&sH .any l.toArray ms hs cs ord (Array.replicate l.toArray.size false))=true)
 (h:GO B n D σ H (wpV P ro l.toArray ms hs cs (Holds B H0) X K ord)):GO B n D σ H (cw ro P (.region id l.toArray true) K X):=by
 intro a w s
 simp only[Bool.and_eq_true] at hB
 obtain⟨⟨⟨⟨hnd,hsel⟩,hlow⟩,hlen⟩,hp⟩:=hB
 refine kE <| wpIn_region_any hm ?_
 have s':St B n D σ H a {w with drawn:=w.drawn+1}:=⟨s.toStA,s.holds.drew _⟩
 have:=(nH (ro:=ro) hnd hsel hlow hX.put ord _ a _ ⟨by simp,fun j oj _ hl=>(by rw[getD_replicate_false] at hl;cases hl)⟩ hp (h a _ s')).any hnd
 rw[Nat.eq_of_beq_eq_true hlen] at this
 simpa using this
theorem aT{k:Nat}{o:Oper}{d:Nat}{v:Value}(ho:ops[k]? =some o)(hk:(ms.contains k||hs.contains k)=false)(hd:o.dst=some d)(he:Evs P B σ H o v)(hw:fD ops σ o.guard true)(hb:Nat.blt d n=true)
 (h:GO B n D ((d,v)::σ) H (wpV P ro ops ms hs cs C X K ord)):GO B n D σ H (wpV P ro ops ms hs cs C X K (k::ord)):=by
 simp only[Bool.or_eq_false_iff] at hk
 intro a w s
 simp only[wpV,hk.1,hk.2,cond_false]
 exact⟨o,v,ho,.inl ⟨hw.wanted s.env,fun w' e=>by subst e;exact he a _ s.env s.holds⟩,by rw[hd];exact h _ _ ⟨s.toStA.put hb v,s.holds⟩⟩
theorem an{k:Nat}{o:Oper}{d:Nat}{v:Value}(ho:ops[k]? =some o)(hk:(!ms.contains k&&hs.contains k)=true)(hd:o.dst=some d)(he:Evs P B σ H0 o v)(hw:fD ops σ o.guard true)(hb:Nat.blt d n=true)[s0:m7 H H0]
 (h:GO B n D ((d,v)::σ) H (wpV P ro ops ms hs cs (Holds B H0) X K ord)):GO B n D σ H (wpV P ro ops ms hs cs (Holds B H0) X K (k::ord)):=by
 simp only[Bool.and_eq_true,Bool.not_eq_true'] at hk
 intro a w s
 simp only[wpV,hk.1,hk.2,cond_false,cond_true]
 exact⟨s.holds.map s0.sub,o,v,ho,.inl ⟨hw.wanted s.env,fun w' hw'=>he a w' s.env hw'⟩,by rw[hd];exact h _ _ ⟨s.toStA.put hb v,s.holds⟩⟩
theorem aS{k:Nat}{o:Oper}(ho:ops[k]? =some o)(hk:ms.contains k=true)
 (h:GO B n D σ H (lw ro P ops (fun a w=>(cs.contains k=true→C w)∧wpV P ro ops ms hs cs C X K ord a w) X [o])):GO B n D σ H (wpV P ro ops ms hs cs C X K (k::ord)):=by
 intro a w s
 simp only[wpV,hk,cond_true]
 have h1:=h a w s
 unfold wpOpIn
 simp only[ho]
 exact h1
theorem cL{c:Bool}[s0:m7 H H0](h:GO B n D σ H (wpV P ro ops ms hs cs (Holds B H0) X K ord)):GO B n D σ H (fun a w=>(c=true→Holds B H0 w)∧wpV P ro ops ms hs cs (Holds B H0) X K ord a w):=fun a w s=>⟨fun _=>s.holds.map s0.sub,h a w s⟩
theorem cZ{c:Bool}(hc:c=false)(h:GO B n D σ H (wpV P ro ops ms hs cs C X K ord)):GO B n D σ H (fun a w=>(c=true→C w)∧wpV P ro ops ms hs cs C X K ord a w):=fun a w s=>⟨fun hf=>(by rw[hc] at hf;cases hf),h a w s⟩
theorem cM(h:GO B n D σ H K):GO B n D σ H (wpV P ro ops ms hs cs C X K []):=h
end
section
variable {B:World} {n:Nat} {D:List Deferred} {σ:Env} {H:List HP} {P:Program} {ro:Cx} {K:Act→World→Prop} {X:Ext} {ops:Array Oper} {rest:List Oper} {Kq:Act→Prop} {d:Nat} {op:Op} {ty:TypeId} {p:String} {af:Array Edge} {v:Value} {x:Operand}
theorem kPv(he:Evs P B σ H ⟨some d,op,ty,p,af,none⟩ v)(hb:(Nat.blt d n&&ke op)=true)(k:GO B n D ((d,v)::σ) H (lw ro P ops K X rest)):GO B n D σ H (lw ro P ops K X (⟨some d,op,ty,p,af,none⟩::rest)):=by
 simp only[Bool.and_eq_true] at hb
 exact ao aa he .free hb.2 hb.1 k
theorem kPm(hx:evO σ x=some v)(hb:Nat.blt d n=true)(k:GO B n D ((d,v)::σ) H (lw ro P ops K X rest)):GO B n D σ H (lw ro P ops K X (⟨some d,.move x,ty,p,af,none⟩::rest)):=ao rfl (al hx) .free rfl hb k
theorem kPa(hx:evO σ x=some v)(hb:Nat.blt d n=true)(k:GO B n D ((d,v)::σ) H (lw ro P ops K X rest)):GO B n D σ H (lw ro P ops K X (⟨some d,.assign x,ty,p,af,none⟩::rest)):=ao rfl (bE hx) .free rfl hb k
theorem kQv(he:Evs P B σ H ⟨some d,op,ty,p,af,none⟩ v)(hb:Nat.blt d n=true)(k:QO n D ((d,v)::σ) (qw P ops B H Kq rest)):QO n D σ (qw P ops B H Kq (⟨some d,op,ty,p,af,none⟩::rest)):=bg rfl he .free hb k
theorem kQm(hx:evO σ x=some v)(hb:Nat.blt d n=true)(k:QO n D ((d,v)::σ) (qw P ops B H Kq rest)):QO n D σ (qw P ops B H Kq (⟨some d,.move x,ty,p,af,none⟩::rest)):=bg rfl (al hx) .free hb k
theorem kQa(hx:evO σ x=some v)(hb:Nat.blt d n=true)(k:QO n D ((d,v)::σ) (qw P ops B H Kq rest)):QO n D σ (qw P ops B H Kq (⟨some d,.assign x,ty,p,af,none⟩::rest)):=bg rfl (bE hx) .free hb k
theorem kPb{V:Nat→Value}{Y:Nat→List HP}(he:Chg P B σ H ⟨some d,op,ty,p,af,none⟩ fun v H'=>∃ b,v=V b∧H'=Y b)(hb:(Nat.blt d n&&ke op)=true)(k:∀ b,GO B n D ((d,V b)::σ) (Y b) (lw ro P ops K X rest)):GO B n D σ H (lw ro P ops K X (⟨some d,op,ty,p,af,none⟩::rest)):=by
 simp only[Bool.and_eq_true] at hb
 refine cX aa he .free hb.2 hb.1 ?_
 rintro _ _ ⟨b,rfl,rfl⟩
 exact k b
theorem kPs{Y:List HP}(he:Chg P B σ H ⟨none,op,ty,p,af,none⟩ fun _ H'=>H'=Y)(hb:ke op=true)(k:GO B n D σ Y (lw ro P ops K X rest)):GO B n D σ H (lw ro P ops K X (⟨none,op,ty,p,af,none⟩::rest)):=by
 refine CG aa he .free hb ?_
 rintro _ _ rfl
 exact k
theorem u6(σ:Env)(d:Nat)(v:Value):evO ((d,v)::σ) (.tmp d)=some v:=by simp[evO,look]
theorem kPl{d':Nat}{ty':TypeId}{p':String}{af':Array Edge}{s f off b k m t:Nat}{cs:List Value}{T:TypeId}{U:List Value→List HP}(hf:∀ b k w,(Instr.fieldAt s (.pointer (some ⟨b,k,none⟩)) f).run P w= .ok (.pointer (some ⟨b,k+off,none⟩)) w)(hz:∀ w,(isAgg t).run P w= .ok false w)(hx:evO σ x=some (.pointer (some ⟨b,k,none⟩)))(hm:k+off=m)[fK H b cs T U](hv:cs[m]? =some v)(hb:(Nat.blt d n&&Nat.blt d' n)=true)
 (g:GO B n D ((d',v)::(d,.pointer (some ⟨b,m,none⟩))::σ) H (lw ro P ops K X rest)):GO B n D σ H (lw ro P ops K X (⟨some d,.fieldAddr s x f,ty,p,af,none⟩::⟨some d',.load t (.tmp d),ty',p',af',none⟩::rest)):=by
 simp only[Bool.and_eq_true] at hb
 exact ao aa (aC hf hx hm) .free aa hb.1 (ao aa (ag hz (u6 _ _ _) hv) .free aa hb.2 g)
theorem kPf{d1 d2 d':Nat}{t1 t2 ty':TypeId}{p1 p2 p':String}{a1 a2 af':Array Edge}{s f off b k m t:Nat}{cs:List Value}{T:TypeId}{U:List Value→List HP}(hf:∀ b k w,(Instr.fieldAt s (.pointer (some ⟨b,k,none⟩)) f).run P w= .ok (.pointer (some ⟨b,k+off,none⟩)) w)(hz:∀ w,(isAgg t).run P w= .ok false w)(hx:evO σ x=some (.pointer (some ⟨b,k,none⟩)))(hm:k+off=m)[fK H b cs T U](hv:cs[m]? =some v)(hb:(Nat.blt d1 n&&Nat.blt d2 n&&Nat.blt d n&&Nat.blt d' n)=true)
 (g:GO B n D ((d',v)::(d,.pointer (some ⟨b,m,none⟩))::(d2,.pointer (some ⟨b,k,none⟩))::(d1,.pointer (some ⟨b,k,none⟩))::σ) H (lw ro P ops K X rest)):GO B n D σ H (lw ro P ops K X (⟨some d1,.move x,t1,p1,a1,none⟩::⟨some d2,.nilCheck (.tmp d1),t2,p2,a2,none⟩::⟨some d,.fieldAddr s (.tmp d2) f,ty,p,af,none⟩::⟨some d',.load t (.tmp d),ty',p',af',none⟩::rest)):=by
 simp only[Bool.and_eq_true] at hb
 exact ao aa (al hx) .free aa hb.1.1.1 (ao aa (aF (u6 _ _ _)) .free aa hb.1.1.2 (kPl hf hz (u6 _ _ _) hm hv (by simp[hb.1.2,hb.2]) g))
end
section
variable {B:World} {n:Nat} {D:List Deferred} {σ:Env} {H:List HP} {P:Program} {ro:Cx} {K:Act→World→Prop} {X:Ext} {w:World}
theorem gG{b:Frame}{a:Act}{k:List Item}{cs:List Frame}{c:Code}:step P (lone (b.atR a (.code (.scope c)::k)) cs w)= .next (lone (b.atR a (.code c:: .inScope c::k)) cs w):=
 step_lone_go (by simp[stepG,stepG.exec,Frame.atR])
theorem pU{b:Frame}{a:Act}{k:List Item}{cs:List Frame}{c:Code}:step P (lone (b.atR a (.inScope c::k)) cs w)= .next (lone (b.atR a k) cs w):=
 step_lone_go (by simp[stepG,stepG.exec,Frame.atR])
theorem wu{c:Code}(h:GO B n D σ H (cw ro P c K X)):GO B n D σ H (cw ro P (.scope c) K X):=fun a w s=>by
 intro b k cs hro hf
 have h0:(lone (b.atR a (.code (.scope c)::k)) cs w).fenced P (Wd ro):=fenced_calm (n:=0) trivial (rmW _ _) rfl
 obtain⟨e,a₁,w₁,hq,harr⟩:=h a w s b (.inScope c::k) cs hro hf
 cases e with
 | normal=>exact⟨.normal,a₁,w₁,hq,.head h0 gG (StepsIn.trans harr (.one (fenced_calm (n:=0) trivial (rmW _ _) aa) pU))⟩
 | exit id=>
   have hx:exitTo id (.inScope c::k)=exitTo id k:=by simp[exitTo]
   exact⟨.exit id,a₁,w₁,hq,fun k' hk=> .head h0 gG (harr.1 k' (by rw[hx];exact hk)),
    fun hr' hk=>let ⟨k₁,h1,h2⟩:=harr.2 hr' (by rw[hx];exact hk);⟨k₁,h1,.head h0 gG h2⟩⟩
 | goto l=>exact hq.elim
 | ret=>exact⟨.ret,a₁,w₁,hq,ArrivesIn.of_steps (k:=k) (e:= .ret) (.one h0 gG) harr⟩
 | panic ch=>exact⟨.panic ch,a₁,w₁,hq,ArrivesIn.of_steps (k:=k) (e:= .panic ch) (.one h0 gG) harr⟩
 | outgrown=>exact hq.elim
class ui (i:Nat) (l:List HP) (A:outParam HP) (r:outParam (List HP)):Prop where
 get:l[i]? =some A∧l.eraseIdx i=r
instance ui.zero {A:HP} {l:List HP}:ui 0 (A::l) A l:=⟨rfl,rfl⟩
instance ui.succ {i:Nat} {A C:HP} {l r:List HP} [g:ui i l A r]:ui (i+1) (C::l) A (C::r):=⟨by simpa using g.get.1,by simp[g.get.2]⟩
class mt (is:List Nat) (l:List HP) (r:outParam (List HP)):Prop where
 ok:∀ h:fh,sat l h→sat r h
instance mt.nil {l:List HP}:mt [] l l:=⟨fun _ a=>a⟩
instance mt.cons {i:Nat} {is:List Nat} {A:HP} {l l' r:List HP} [g:ui i l A l'] [p:mt is l' r]:mt (i::is) l (A::r):=
 ⟨fun h a=>fz (fun k hk=>p.ok k hk) (by have:=dI i g.get.1 a;rwa [g.get.2] at this)⟩
class q8 (is:List Nat) (l:List HP) (r:outParam (List HP)):Prop where
 ok:∀ h:fh,sat l h→sat r h
instance q8.nil {l:List HP}:q8 [] l l:=⟨fun _ a=>a⟩
instance q8.cons {i:Nat} {is:List Nat} {A:HP} {l l' r:List HP} [g:ui i l A l'] [p:q8 is l' r]:q8 (i::is) l r:=
 ⟨fun h a=>p.ok h (by have:=gH (dI i g.get.1 a);rwa [g.get.2] at this)⟩
theorem Holds.pk{l r:List HP}(h:Holds B l w)(is:List Nat)[p:mt is l r]:Holds B r w:=h.map p.ok
theorem Holds.dp{l r:List HP}(h:Holds B l w)(is:List Nat)[p:q8 is l r]:Holds B r w:=h.map p.ok
theorem aM{H':List HP}(is:List Nat)[p:mt is H H'](h:GO B n D σ H' K):GO B n D σ H K:=aK (fun _ hh=>hh.pk is) h
class yg (i:Nat) (l:List HP) (m:Nat) (r:outParam (List HP)):Prop where
 ok:l[i]? =some (blk m (.deferred (some [])))∧l.set i (blk m (.deferred none))=r
instance yg.zero {m:Nat} {l:List HP}:yg 0 (blk m (.deferred (some []))::l) m (blk m (.deferred none)::l):=⟨rfl,rfl⟩
instance yg.succ {i m:Nat} {C:HP} {l r:List HP} [g:yg i l m r]:yg (i+1) (C::l) m (C::r):=⟨by simpa using g.ok.1,by simp[g.ok.2]⟩
theorem gm.at{m:Nat}{H' H2:List HP}(i:Nat)[g:yg i H m H'](h:gm D H' H2):gm (gX m::D) H H2:=by
 refine .cons (i:=i) g.ok.1 ?_
 rw[g.ok.2];exact h
theorem yP{l l':List HP}(p:l.Perm l'):∀ {h:fh},Go.Proofs.YtipdhkmphngmoaaGreatDoor.sat l h→Go.Proofs.YtipdhkmphngmoaaGreatDoor.sat l' h:=by
 induction p with
 | nil=>exact id
 | cons A _ ih=>exact fun a=>fz (fun _=>ih) a
 | swap A B l=>exact fun a=>lO a
 | trans _ _ i1 i2=>exact fun a=>i2 (i1 a)
theorem Holds.perm{l l':List HP}(h:Holds B l w)(p:l.Perm l'):Holds B l' w:=h.map fun _=>yP p
theorem vL{f:FuncId}{fn:Func}{R:Ending→World→Prop}{H2:List HP}{x y:ResultVar}{v u:Value}(hr:fn.results= #[x,y])(m:gm D H H2)(h1:jl P σ H2 x v)(h2:jl P σ H2 y u)(h:∀ w,Holds B H2 w→R (.returned (.tuple #[v,u])) w):GO B n D σ H (xS P f fn R).ret:=fun a w s=>by
 show LeavesInM _ _ _ _ _ _ a.defers _ _
 rw[s.defers]
 refine m.leave (by simp) w s.holds fun w' hw'=>⟨.tuple #[v,u],?_,h w' hw'⟩
 have e1:=h1.run s.env hw'
 have e2:=h2.run s.env hw'
 simp[results,hr] at e1 e2 ⊢
 cases x<;>cases y<;>simp_all
def uM(ms:List Nat):List Deferred:=ms.map gX
def gt(ms:List Nat):HP:=grp (ms.map fun m=>blk m (.deferred (some [])))
theorem uL{l:List HP}(h:Holds B l w):Holds B (gt []::l) w:=Holds.ungrp (l:=[]) h
theorem sY{l:List HP}{m:Nat}{ms:List Nat}(h:Holds B (blk m (.deferred (some []))::gt ms::l) w):Holds B (gt (m::ms)::l) w:=
 Holds.ungrp (l:=blk m (.deferred (some []))::ms.map fun m=>blk m (.deferred (some []))) ((h.front 1 rfl).grp.map fun _ a=>by
  have h2:∀ (x:List HP) (A:HP) (y:List HP) (k:fh),sat (x++A::y) k→sat (A::(x++y)) k:=by
   intro x
   induction x with
   | nil=>intro A y k a;exact a
   | cons C x ih=>intro A y k a;exact lO (fz (fun k=>ih A y k) a)
  exact h2 _ _ _ _ a)
theorem nq:∀ (ms:List Nat) {l:List HP},gm (uM ms) (gt ms::l) l
 | [],l=> .conv (fun _ a=>gH a) .nil
 | m::ms,l=>by
   refine .conv (H':=blk m (.deferred (some []))::gt ms::l) (fun k a=> ?_) (.cons (i:=0) aa (.conv (fun _ a=>gH a) (nq ms)))
   have a2:=vG a
   exact fz (fun k b=>wm b) a2
theorem sX{ms:List Nat}{l r:List HP}(i:Nat)[g:ui i l (gt ms) r]:gm (uM ms) l r:=
 .conv (fun _ a=>by have:=dI i g.get.1 a;rwa [g.get.2] at this) (nq ms)
theorem zm{l l':Env}{t:Nat}{v:Value}(h:look (l++l') t=some v):look l t=some v∨look l' t=some v:=by
 induction l with
 | nil=>exact .inr h
 | cons p l ih=>
   obtain⟨k,u⟩:=p
   simp only[List.cons_append,look] at h ⊢
   by_cases e:k=t
   ·subst e;simp at h ⊢;exact .inl h
   ·rw[jT e] at h ⊢;exact ih h
theorem Bs{c:Code}{ι:Type}(I:ι→Prop)(DI:ι→List Deferred)(σI:ι→Env)(HI:ι→List HP)(μ:ι→Nat)(i₀ :ι)
 (h0:I i₀) (h1:∀ a w,St B n D σ H a w→St B n (DI i₀) (σI i₀) (HI i₀) a w)
 (round:∀ i,I i→GO B n (DI i) (σI i) (HI i) (cw ro P c (fun a w=>∃ j,I j∧μ j<μ i∧St B n (DI j) (σI j) (HI j) a w) X)):
 GO B n D σ H (cw ro P (.loop c) K X):=by
 intro a w s b k cs hro hb
 have h00:(lone (b.atR a (.code (.loop c)::k)) cs w).fenced P (Wd ro):=fenced_calm (n:=0) trivial (rmW _ _) rfl
 have key:∀ m i,I i→μ i=m→∀ a w,St B n (DI i) (σI i) (HI i) a w→
  ∃ e a' w',toQ K X e a' w'∧ArrivesIn (Machine.fenced P (Wd ro)) P (lone (b.atR a (.code c:: .inLoop c::k)) cs w) b k cs e a' w':=by
  intro m
  induction m using Nat.strongRecOn with
  | _ m ih=>
    intro i hI hi a w s
    obtain⟨e,a₁,w₁,hq,harr⟩:=round i hI a w s b (.inLoop c::k) cs hro hb
    cases e with
    | normal=>
      obtain⟨j,hIj,hj,sj⟩:=hq
      obtain⟨e₂,a₂,w₂,hq₂,harr₂⟩:=ih (μ j) (by omega) j hIj rfl a₁ w₁ sj
      exact⟨e₂,a₂,w₂,hq₂,.of_steps (StepsIn.trans harr (.one (fenced_calm (n:=0) trivial (rmW _ _) aa) stepR_inLoop)) harr₂⟩
    | exit id=>exact⟨.exit id,a₁,w₁,hq,.pass (x:= .inLoop c) aa (fun _ _=> .inl (by simp)) harr⟩
    | goto l=>exact hq.elim
    | ret=>exact⟨.ret,a₁,w₁,hq,.pass (x:= .inLoop c) aa (fun _ _=> .inl (by simp)) harr⟩
    | panic ch=>exact⟨.panic ch,a₁,w₁,hq,.pass (x:= .inLoop c) aa (fun _ _=> .inl (by simp)) harr⟩
    | outgrown=>exact hq.elim
 obtain⟨e,a',w',q,r⟩:=key _ i₀ h0 rfl a w (h1 a w s)
 exact⟨e,a',w',q,.of_steps (.one h00 stepR_loop) r⟩
theorem tw{c:Code}{ι:Type}(ks:List Nat)(I:ι→Prop)(DI:ι→List Deferred)(σI:ι→Env)(HI:ι→List HP)(μ:ι→Nat)(i₀ :ι)
 (h0:I i₀) (h1:∀ a w,St B n D σ H a w→St B n (DI i₀) (σI i₀) (HI i₀) a w)
 (round:∀ i,I i→GO B n (DI i) (σI i++keep σ ks) (HI i) (cw ro P c (fun a w=>∃ j,I j∧μ j<μ i∧St B n (DI j) (σI j++keep σ ks) (HI j) a w) X)):
 GO B n D σ H (cw ro P (.loop c) K X):=by
 refine Bs I DI (fun i=>σI i++keep σ ks) HI μ i₀ h0 (fun a w s=> ?_) round
 have s1:=h1 a w s
 refine⟨⟨s.size,s1.defers,fun t v h=> ?_⟩,s1.holds⟩
 rcases zm h with h | h
 ·exact s1.env t v h
 ·exact s.env t v (mG h)
theorem df{c:Code}{ι:Type}(ks:List Nat)(I:ι→Prop)(σI:ι→Env)(HI:ι→List HP)(μ:ι→Nat)(i₀ :ι)
 (h0:I i₀) (h1:∀ a w,St B n D σ H a w→St B n D (σI i₀) (HI i₀) a w)
 (round:∀ i,I i→GO B n D (σI i++keep σ ks) (HI i) (cw ro P c (fun a w=>∃ j,I j∧μ j<μ i∧St B n D (σI j++keep σ ks) (HI j) a w) X)):
 GO B n D σ H (cw ro P (.loop c) K X):=tw ks I (fun _=>D) σI HI μ i₀ h0 h1 round
end
def dQ(T:TypeId)(enc:Int→Value)(_:Nat)(x:Value×List Int):HP:=hex fun (o:Option (Nat×List Value×List Value×Nat))=>match o with
 | none=>pr (x.2=[]∧x.1= .slice none 0 0)
 | some (bd,pre,rest,k)=>grp [row bd (pre++x.2.map enc++rest) T,pr (k≤rest.length∧x.1= .slice (some ⟨bd,pre.length,none⟩) x.2.length (x.2.length+k))]
section
variable {B:World} {n:Nat} {D:List Deferred} {σ:Env} {H Fr:List HP} {P:Program} {K:Act→World→Prop} {T:TypeId} {enc:Int→Value} {sv:Value} {xs:List Int} {w:World}
theorem fE(h:Holds B Fr w):Holds B (dQ T enc 0 (.slice none 0 0,[])::Fr) w:=Holds.unhex none (h.unpr ⟨rfl,rfl⟩)
theorem j5{bd m c k:Nat}{pre rest:List Value}(hm:m=xs.length)(hc:c=m+k)(hk:k≤rest.length){o:Nat}(ho:o=pre.length)(h:Holds B (row bd (pre++xs.map enc++rest) T::Fr) w):Holds B (dQ T enc 0 (.slice (some ⟨bd,o,none⟩) m c,xs)::Fr) w:=by
 subst hm;subst hc;subst ho
 refine Holds.unhex (some (bd,pre,rest,k)) (Holds.ungrp (l:=[row bd (pre++xs.map enc++rest) T,pr _]) ?_)
 exact(h.unpr ⟨hk,rfl⟩).back 1 (by simp)
theorem gB{bd m c:Nat}{rest:List Value}(hm:m=xs.length)(hc:c=m+rest.length)(h:Holds B (row bd (xs.map enc++rest) T::Fr) w):Holds B (dQ T enc 0 (.slice (some ⟨bd,0,none⟩) m c,xs)::Fr) w:=
 j5 (pre:=[]) (k:=rest.length) hm hc (Nat.le_refl _) rfl h
theorem fP(h:Holds B (dQ T enc 0 (sv,xs)::Fr) w):(xs=[]∧sv= .slice none 0 0∧Holds B Fr w)∨∃ bd pre rest k,k≤rest.length∧sv= .slice (some ⟨bd,pre.length,none⟩) xs.length (xs.length+k)∧Holds B (row bd (pre++xs.map enc++rest) T::Fr) w:=by
 obtain⟨x,hx⟩:=h.hex
 cases x with
 | none=>have h2:=hx.pr;exact .inl ⟨h2.1.1,h2.1.2,h2.2⟩
 | some p=>have h2:=(hx.grp.front 1 rfl).pr;exact .inr ⟨_,_,_,_,h2.1.1,h2.1.2,h2.2⟩
theorem zF(h:∀ q cap,sv= .slice q xs.length cap→GO B n D σ (dQ T enc 0 (sv,xs)::Fr) K):GO B n D σ (dQ T enc 0 (sv,xs)::Fr) K:=fun a w st=>by
 rcases fP st.holds with ⟨e1,e2,_⟩ | ⟨bd,pre,rest,k,_,e,_⟩
 ·exact h none 0 (by rw[e2,e1];rfl) a w st
 ·exact h _ _ e a w st
theorem cP{q:Option Addr}{cap:Nat}(i:Nat)(e:H[i]? =some (dQ T enc 0 (.slice q xs.length cap,xs))):SlR B H (.slice q xs.length cap) (xs.map enc):=by
 refine⟨q,cap,by simp,fun w hw j hj=> ?_⟩
 rw[List.length_map] at hj
 rcases fP (hw.front i e) with ⟨h1,_,_⟩ | ⟨bd,pre,rest,k,_,h1,h2⟩
 ·rw[h1] at hj;exact absurd hj (Nat.not_lt_zero _)
 ·injection h1 with h1 _ _
  refine⟨bd,pre.length,h1,?_⟩
  rw[h2.ucell (b:=bd) (pre.length+j),List.append_assoc,List.getElem?_append_right (by omega),Nat.add_sub_cancel_left,List.getElem?_append_left (by rw[List.length_map];exact hj)]
theorem vz{pre rest:List Value}{v:Int}(h:0<rest.length):dx (pre++xs.map enc++rest) (pre.length+xs.length) [enc v]=pre++(xs++[v]).map enc++rest.drop 1:=by
 cases rest with
 | nil=>simp at h
 | cons a t=>
   simp only[dx,List.drop_succ_cons,List.drop_zero,List.map_append,List.map_cons,List.map_nil]
   rw[List.set_append_right _ _ (by simp)]
   simp
theorem fC{d:Option Tmp}{ty:TypeId}{p:String}{af:Array Edge}{g:Option (Nat×Bool)}{t:TypeId}{x y:Operand}{at_:Array TypeId}{u:TypeId}{ud:TypeDesc}{b1:Nat}{v:Int}{z:Value}{T1:TypeId}
 (ha:at_[0]? =some t) (ha':at_[1]? =some u) (ht:∀ w,(underlying t).run P w= .ok (.slice T) w) (hu:∀ w,(underlying u).run P w= .ok ud w) (hud:∃ q,ud= .slice q) (hs:∀ w,(sizeOf T).run P w= .ok 1 w) (hz:∀ w,(zeroValue T).run P w= .ok z w) (hz1:aN z=true) (he1:∀ v,aN (enc v)=true) (hfb:ed P T)
 (hx:evO σ x=some sv) (hy:evO σ y=some (.slice (some ⟨b1,0,none⟩) 1 1)) (hn:xs.length+1≤1000000000):
 Chg P B σ (dQ T enc 0 (sv,xs)::row b1 [enc v] T1::Fr) ⟨d,.call ⟨.builtin .append, #[x,y],at_⟩,ty,p,af,g⟩ (fun v' H'=>aN v'=true∧H'=dQ T enc 0 (v',xs++[v])::Fr):=by
 have hall:([enc v]:List Value).all aN=true:=by simp[he1]
 intro a w kn hh
 rcases fP hh with ⟨h1,h2,h3⟩ | ⟨bd,pre,rest,k,hk,h1,h3⟩
 ·subst h2;subst h1
  obtain⟨r,w',e1,u,e2,H',⟨bn,cn,rest,e3,_,e4,rfl⟩,e5⟩:=gF (H:=row b1 [enc v] T1::Fr) (d:=d) (ty:=ty) (p:=p) (af:=af) (g:=g) ha ha' ht hu hud hs hz hz1 hfb hx hy (SlR.row (xs:=[enc v]) rfl rfl) (by simp) (by simp) a w kn h3
  subst e4
  refine⟨r,w',e1,_,e2,_,⟨rfl,rfl⟩,?_⟩
  exact gB (xs:=[v]) aa (by simpa using e3.symm) ((e5.front 1 aa).tail)
 ·subst h1
  obtain⟨r,w',e1,u,e2,H',hY,e5⟩:=ji (H:=row bd (pre++xs.map enc++rest) T::row b1 [enc v] T1::Fr) (d:=d) (ty:=ty) (p:=p) (af:=af) (g:=g) (b:=bd) ha ha' ht hu hud hs hz hz1 hfb hx hy (SlR.row (xs:=[enc v]) rfl rfl) (by simp;omega) (by omega) (by simpa using hn) hall a w kn h3
  rcases hY with ⟨g1,rfl,rfl⟩ | ⟨g1,bn,cn,rest',g2,_,rfl,rfl⟩
  ·refine⟨r,w',e1,_,e2,_,⟨rfl,rfl⟩,?_⟩
   have g1:xs.length+1≤xs.length+k:=g1
   rw[vz (by omega)] at e5
   exact j5 (k:=k - 1) (by simp) (by simp;omega) (by simp;omega) aa ((e5.front 1 aa).tail)
  ·refine⟨r,w',e1,_,e2,_,⟨rfl,rfl⟩,?_⟩
   have e:(xs++[v]).map enc++rest'=((pre++xs.map enc++rest).drop pre.length).take xs.length++[enc v]++rest':=by simp
   rw[←e] at e5
   exact gB (by simp) (by simpa using g2.symm) ((((e5.front 1 aa).tail).front 1 aa).tail)
theorem jP{d:Option Tmp}{ty:TypeId}{p:String}{af:Array Edge}{g:Option (Nat×Bool)}{t e:TypeId}{x lo:Operand}{b off len sz:Nat}{kk:IntKind}(ht:∀ w,(underlying t).run P w= .ok (.slice e) w)(hs:∀ w,(sizeOf e).run P w= .ok sz w)(hx:evO σ x=some (.slice (some ⟨b,off,none⟩) len len))(hl:evO σ lo=some (.int kk len)):
 Evs P B σ H ⟨d,.slice t x (some lo) none none,ty,p,af,g⟩ (.slice (some ⟨b,off,none⟩) 0 0):=by
 intro a w kn _
 have hb:=jy (P:=P) (a:=a) (lo:=some lo) (hi:=none) (len:=len) (cap:=len) (l:=len) (h:=len) (s:=true) kn (.inr ⟨lo,kk,rfl,hl⟩) (.inl ⟨rfl,rfl⟩) (Nat.le_refl _) (Nat.le_refl _)
 simp only[execOp,kn.eval hx,Instr.sliceAt,Sem.run_bind,ht,Result.andThen_ok,Instr.slice,Option.map_none,hs,Sem.run_pure]
 simp only[Option.map_some,Option.map_none] at hb ⊢
 rw[hb w]
 simp
theorem tV{d:Option Tmp}{ty:TypeId}{p:String}{af:Array Edge}{g:Option (Nat×Bool)}{t:TypeId}{x lo:Operand}{v:Int}{kk:IntKind}(ht:∀ w,(underlying t).run P w= .ok (.slice T) w)(hs:∀ w,(sizeOf T).run P w= .ok 1 w)(hx:evO σ x=some sv)(hl:evO σ lo=some (.int kk 1)):
 Chg P B σ (dQ T enc 0 (sv,v::xs)::Fr) ⟨d,.slice t x (some lo) none none,ty,p,af,g⟩ (fun v' H'=>aN v'=true∧H'=dQ T enc 0 (v',xs)::Fr):=by
 intro a w kn hh
 rcases fP hh with ⟨h1,_,_⟩ | ⟨bd,pre,rest,k,hk,h1,h3⟩
 ·cases h1
 ·subst h1
  by_cases hlast:1<(v::xs).length+k
  ·have e:=kC (B:=B) (H:=row bd (pre++(v::xs).map enc++rest) T::Fr) (d:=d) (ty:=ty) (p:=p) (af:=af) (g:=g) (hi:=none) (h:=(v::xs).length) (l:=1) (m:=pre.length+1) ht hs hx (.inr ⟨lo,kk,rfl,hl⟩) (.inl ⟨rfl,rfl⟩) (by simp) (by omega) (.inl hlast) (by omega)
   refine⟨_,w,e a w kn h3,_,.inl aa,_,⟨rfl,rfl⟩,?_⟩
   refine j5 (pre:=pre++[enc v]) (rest:=rest) (k:=k) (by simp) (by simp<;>omega) hk (by simp) ?_
   simpa using h3
  ·simp only[List.length_cons] at hlast
   have hxs:xs=[]:=List.length_eq_zero_iff.1 (by omega)
   have hk0:k=0:=by omega
   subst hxs;subst hk0
   have e:=jP (B:=B) (H:=row bd (pre++[v].map enc++rest) T::Fr) (d:=d) (ty:=ty) (p:=p) (af:=af) (g:=g) (len:=1) ht hs hx hl
   refine⟨_,w,e a w kn h3,_,.inl aa,_,⟨rfl,rfl⟩,?_⟩
   refine j5 (pre:=pre) (rest:=enc v::rest) (k:=0) (by simp) (by simp) (Nat.zero_le _) aa ?_
   simpa using h3
end
section
variable {B:World} {n:Nat} {D:List Deferred} {σ:Env} {H Fr:List HP} {P:Program} {K:Act→World→Prop} {X:Ext} {ro:Cx}
theorem zJ{x y:Code}{ι:Type}(ks:List Nat)(I:ι→Prop)(σJ:ι→Env)(HJ:ι→List HP)
 (h:GO B n D σ H (cw ro P x (fun a w=>∃ j,I j∧St B n D (σJ j++keep σ ks) (HJ j) a w) X))
 (rest:∀ j,I j→GO B n D (σJ j++keep σ ks) (HJ j) (cw ro P y K X)):GO B n D σ H (cw ro P (.seq x y) K X):=ac fun a w s=>
 rM (h a w s) fun e a w q=>by
  cases e with
  | normal=>obtain⟨j,hI,st⟩:=q;exact rest j hI a w st
  | _=>exact q
variable {d:Option Tmp} {ty:TypeId} {p:String} {af:Array Edge} {g:Option (Nat×Bool)}
end
section
variable {B:World} {n:Nat} {D:List Deferred} {σ:Env} {H Fr:List HP} {P:Program} {K:Act→World→Prop} {T:TypeId} {enc:Int→Value} {sv:Value} {xs:List Int} {w:World}
theorem sr(l:List Value)(i:Nat)(v:Value)(vs:List Value):dx l i (v::vs)=dx (l.set i v) (i+1) vs:=rfl
theorem r5:∀ (ys xs:List Int) (pre rest:List Value),ys.length≤rest.length→dx (pre++xs.map enc++rest) (pre.length+xs.length) (ys.map enc)=pre++(xs++ys).map enc++rest.drop ys.length
 | [],xs,pre,rest,_=>by simp[dx]
 | y::ys,xs,pre,rest,h=>by
   have h1:=vz (pre:=pre) (xs:=xs) (rest:=rest) (enc:=enc) (v:=y) (by simp at h;omega)
   simp only[dx] at h1
   rw[List.map_cons,sr,h1]
   have h2:=r5 ys (xs++[y]) pre (rest.drop 1) (by simp at h ⊢;omega)
   rw[show pre.length+xs.length+1=pre.length+(xs++[y]).length by simp;omega,h2]
   simp[Nat.add_comm]
theorem kG{d:Option Tmp}{ty:TypeId}{p:String}{af:Array Edge}{g:Option (Nat×Bool)}{t:TypeId}{x y:Operand}{at_:Array TypeId}{u:TypeId}{ud:TypeDesc}{ys:List Int}{z yv:Value}
 (ha:at_[0]? =some t) (ha':at_[1]? =some u) (ht:∀ w,(underlying t).run P w= .ok (.slice T) w) (hu:∀ w,(underlying u).run P w= .ok ud w) (hud:∃ q,ud= .slice q) (hs:∀ w,(sizeOf T).run P w= .ok 1 w) (hz:∀ w,(zeroValue T).run P w= .ok z w) (hz1:aN z=true) (he1:∀ v,aN (enc v)=true) (hfb:ed P T)
 (hx:evO σ x=some sv) (hy:evO σ y=some yv) (hr:SlR B Fr yv (ys.map enc)) (h0:0<ys.length) (hn:xs.length+ys.length≤1000000000):
 Chg P B σ (dQ T enc 0 (sv,xs)::Fr) ⟨d,.call ⟨.builtin .append, #[x,y],at_⟩,ty,p,af,g⟩ (fun v' H'=>aN v'=true∧H'=dQ T enc 0 (v',xs++ys)::Fr):=by
 have hall:(ys.map enc).all aN=true:=by simp[he1]
 intro a w kn hh
 rcases fP hh with ⟨h1,h2,h3⟩ | ⟨bd,pre,rest,k,hk,h1,h3⟩
 ·subst h2;subst h1
  obtain⟨r,w',e1,u,e2,H',⟨bn,cn,rest,e3,_,e4,rfl⟩,e5⟩:=gF (H:=Fr) (d:=d) (ty:=ty) (p:=p) (af:=af) (g:=g) ha ha' ht hu hud hs hz hz1 hfb hx hy hr (by simpa using h0) (by simpa using hn) a w kn h3
  subst e4
  refine⟨r,w',e1,_,e2,_,⟨rfl,rfl⟩,?_⟩
  exact gB (xs:=ys) (by simp) (by simpa using e3.symm) e5
 ·subst h1
  obtain⟨r,w',e1,u,e2,H',hY,e5⟩:=ji (H:=row bd (pre++xs.map enc++rest) T::Fr) (d:=d) (ty:=ty) (p:=p) (af:=af) (g:=g) (b:=bd) ha ha' ht hu hud hs hz hz1 hfb hx hy (hr.cons _) (by simp;omega) (by omega) (by simpa using hn) hall a w kn h3
  rw[List.length_map] at hY
  rcases hY with ⟨g1,rfl,rfl⟩ | ⟨g1,bn,cn,rest',g2,_,rfl,rfl⟩
  ·refine⟨r,w',e1,_,e2,_,⟨rfl,rfl⟩,?_⟩
   rw[r5 ys xs pre rest (by omega)] at e5
   exact j5 (k:=k - ys.length) (by simp) (by omega) (by simp;omega) aa e5
  ·refine⟨r,w',e1,_,e2,_,⟨rfl,rfl⟩,?_⟩
   have e:(xs++ys).map enc++rest'=((pre++xs.map enc++rest).drop pre.length).take xs.length++ys.map enc++rest':=by simp
   rw[←e] at e5
   exact gB (by simp) (by simpa using g2.symm) ((e5.front 1 aa).tail)
theorem vc{d:Option Tmp}{ty:TypeId}{p:String}{af:Array Edge}{g:Option (Nat×Bool)}{t e:TypeId}{x0 x1:Operand}{v0 v1 z:Value}(ht:∀ w,(underlying t).run P w= .ok (.slice e) w)(hs:∀ w,(sizeOf e).run P w= .ok 1 w)(hz:∀ w,(zeroValue e).run P w= .ok z w)(hz1:aN z=true)(h0:evO σ x0=some v0)(h1:evO σ x1=some v1)(c0:aN v0=true)(c1:aN v1=true):
 Chg P B σ H ⟨d,.buildSlice t 2 #[(0,x0),(1,x1)],ty,p,af,g⟩ (fun u H'=>∃ b,u= .slice (some ⟨b,0,none⟩) 2 2∧H'=row b [v0,v1] e::H):=by
 intro a w kn hh
 refine⟨.value (.slice (some ⟨w.heap.size,0,none⟩) 2 2),{w with heap:=w.heap.push (.cells #[v0,v1] e)},?_,_,.inl aa,_,⟨_,rfl,rfl⟩,by simpa [row] using hh.new _⟩
 simp[execOp,Instr.buildSlice,ht,hs,Instr.fill,dr,hz,kn.eval h0,kn.eval h1,aH hz1,aH c0,aH c1]
 congr 2
 apply Array.ext
 ·simp
 ·intro i h1 h2
  have:i=0∨i=1:=by simp at h2;omega
  rcases this with rfl | rfl<;>simp
theorem zG(h0:0<xs.length)(h:∀ b off cap,sv= .slice (some ⟨b,off,none⟩) xs.length cap→GO B n D σ (dQ T enc 0 (sv,xs)::Fr) K):GO B n D σ (dQ T enc 0 (sv,xs)::Fr) K:=fun a w st=>by
 rcases fP st.holds with ⟨e1,_,_⟩ | ⟨bd,pre,rest,k,_,e,_⟩
 ·rw[e1] at h0;exact absurd h0 (Nat.lt_irrefl 0)
 ·exact h _ _ _ e a w st
structure SlN(B:World)(H:List HP)(v:Value)(m:Nat)(cs:List (List Value)):Prop where
 ex:∃ q cap,v= .slice q cs.length cap∧∀ w,Holds B H w→∀ i c,cs[i]? =some c→∃ b off,q=some ⟨b,off,none⟩∧c.length=m∧∀ j,j<m→w.cell? ⟨b,off+(i*m+j),none⟩=c[j]?
theorem SlN.arg{q:Option Addr}{k cap m:Nat}{z:Nat→List Value}[cF H B](h:vy B q k m z):SlN B H (.slice q k cap) m ((List.range k).map z):=by
 refine⟨q,cap,by simp,fun w hw i c hi=> ?_⟩
 obtain⟨hi1,rfl⟩:=List.getElem?_eq_some_iff.1 hi
 simp only[List.length_map,List.length_range] at hi1
 simp only[List.getElem_map,List.getElem_range]
 obtain⟨b,off,rfl,hl,hc⟩:=h.cell i hi1
 refine⟨b,off,rfl,hl,fun j hj=> ?_⟩
 have h2:=hc j hj
 rw[List.getElem?_eq_getElem (by omega)] at h2 ⊢
 exact hw.oldcell h2
theorem SlN.cons{v:Value}{m:Nat}{cs:List (List Value)}(h:SlN B H v m cs)(A:HP):SlN B (A::H) v m cs:=by
 obtain⟨q,cap,e,hc⟩:=h.ex
 exact⟨q,cap,e,fun w hw=>hc w hw.tail⟩
theorem SlN.row{b off cap m:Nat}{cs:List (List Value)}{rs:List Value}{T1:TypeId}{U:List Value→List HP}[fK H b rs T1 U](h:∀ i c,cs[i]? =some c→c.length=m∧∀ j,j<m→rs[off+(i*m+j)]? =c[j]?):SlN B H (.slice (some ⟨b,off,none⟩) cs.length cap) m cs:=by
 refine⟨some ⟨b,off,none⟩,cap,rfl,fun w hw i c hi=>⟨b,off,rfl,(h i c hi).1,fun j hj=> ?_⟩⟩
 rw[hw.ucell (b:=b) (off+(i*m+j)),(h i c hi).2 j hj]
theorem CV{v:Value}{m:Nat}{cs:List (List Value)}(hr:SlN B H v m cs)(h0:0<cs.length)(h:∀ b off cap,v= .slice (some ⟨b,off,none⟩) cs.length cap→GO B n D σ H K):GO B n D σ H K:=fun a w st=>by
 obtain⟨q,cap,e,hc⟩:=hr.ex
 obtain⟨b,off,rfl,_⟩:=hc w st.holds 0 _ (List.getElem?_eq_getElem h0)
 exact h _ _ _ e a w st
theorem CU{q:Option Addr}{k cap m:Nat}{cs:List (List Value)}(hr:SlN B H (.slice q k cap) m cs)(h0:0<cs.length)(h:∀ b off,q=some ⟨b,off,none⟩→GO B n D σ H K):GO B n D σ H K:=
 CV hr h0 fun b off _ e=>h b off (by injection e)
theorem mj{d:Option Tmp}{ty:TypeId}{p:String}{af:Array Edge}{g:Option (Nat×Bool)}{t:TypeId}{x:Operand}{b off k i m cap:Nat}{cs:List (List Value)}{c:List Value}(ht:∀ w,(isAgg t).run P w= .ok true w)(hs:∀ w,(sizeOf t).run P w= .ok m w)(hr:SlN B H (.slice (some ⟨b,off,none⟩) k cap) m cs)(hx:evO σ x=some (.pointer (some ⟨b,off+i*m,none⟩)))(hi:cs[i]? =some c):
 Evs P B σ H ⟨d,.load t x,ty,p,af,g⟩ (.agg c.toArray):=by
 intro a w kn hh
 obtain⟨q,cp,e,hc⟩:=hr.ex
 obtain⟨b',off',e',hl,h2⟩:=hc w hh i c hi
 cases e
 cases e'
 have h1:∀ j,j<c.length→w.cell? ⟨b,(off+i*m)+j,none⟩=c[j]? :=fun j hj=>by
  rw[Nat.add_assoc];exact h2 j (by omega)
 have h3:=fW (P:=P) h1 m 0 #[] (by omega)
 rw[List.drop_zero,List.take_of_length_le (by omega)] at h3
 simp[execOp,kn.eval hx,Instr.loadAt,Instr.sureAddr,loadVar,ht,hs,loadCells,h3,Sem.run]
theorem yT{fn:Func}{R:Ending→World→Prop}{x y z y4:ResultVar}{v u t v4:Value}(hr:fn.results= #[x,y,z,y4])(h1:jl P σ H x v)(h2:jl P σ H y u)(h3:jl P σ H z t)(h4:jl P σ H y4 v4)(h:∀ w,Holds B H w→R (.returned (.tuple #[v,u,t,v4])) w):GO B n [] σ H (fnX P fn R).ret:=fun a w s=>by
 refine⟨s.defers,.tuple #[v,u,t,v4],?_,h w s.holds⟩
 have e1:=h1.run s.env s.holds
 have e2:=h2.run s.env s.holds
 have e3:=h3.run s.env s.holds
 have e4:=h4.run s.env s.holds
 simp[results,hr] at e1 e2 e3 e4 ⊢
 cases x<;>cases y<;>cases z<;>cases y4<;>simp_all
end
section
variable {B:World} {σ:Env} {H Fr:List HP} {P:Program} {d:Option Tmp} {ty:TypeId} {p:String} {af:Array Edge} {g:Option (Nat×Bool)} {w:World}
theorem xU{H:List HP}{S f t off m:Nat}{fs:Array Field}{x:Operand}{cs:List Value}(hS:∀ w,(underlying S).run P w= .ok (.struct fs) w)(hf:(fs[f]?).map (fun fd=>(fd.type,fd.offset))=some (t,off))(ha:∀ w,(isAgg t).run P w= .ok true w)(hs:∀ w,(sizeOf t).run P w= .ok m w)(hx:evO σ x=some (.agg cs.toArray)):
 Evs P B σ H ⟨d,.field S x f,ty,p,af,g⟩ (.agg ((cs.drop off).take m).toArray):=fun a w kn _=>by
 cases e:fs[f]? with
 | none=>rw[e] at hf;cases hf
 | some fd=>
   rw[e] at hf
   simp only[Option.map_some,Option.some.injEq,Prod.mk.injEq] at hf
   obtain⟨h1,h2⟩:=hf
   subst h1;subst h2
   simp[execOp,Instr.field,hS,e,kn.eval hx,asAgg,part,ha,hs]
theorem ie{H:List HP}{S f t off:Nat}{fs:Array Field}{x:Operand}{cs:List Value}{v:Value}(hS:∀ w,(underlying S).run P w= .ok (.struct fs) w)(hf:(fs[f]?).map (fun fd=>(fd.type,fd.offset))=some (t,off))(ha:∀ w,(isAgg t).run P w= .ok false w)(hx:evO σ x=some (.agg cs.toArray))(hv:cs[off]? =some v):
 Evs P B σ H ⟨d,.field S x f,ty,p,af,g⟩ v:=fun a w kn _=>by
 cases e:fs[f]? with
 | none=>rw[e] at hf;cases hf
 | some fd=>
   rw[e] at hf
   simp only[Option.map_some,Option.some.injEq,Prod.mk.injEq] at hf
   obtain⟨h1,h2⟩:=hf
   subst h1;subst h2
   simp[execOp,Instr.field,hS,e,kn.eval hx,asAgg,part,ha,hv]
structure SlM(B:World)(H:List HP)(v:Value)(m n:Nat)(cs:List Value):Prop where
 ex:∃ q cap,v= .slice q n cap∧cs.length=n*m∧∀ w,Holds B H w→∀ i,i<n*m→∃ b off,q=some ⟨b,off,none⟩∧w.cell? ⟨b,off+i,none⟩=cs[i]?
theorem SlM.row{b off n cap m:Nat}{cs xs:List Value}{T:TypeId}{U:List Value→List HP}[fK H b cs T U](h:(cs.drop off).take (n*m)=xs)(hl:xs.length=n*m):SlM B H (.slice (some ⟨b,off,none⟩) n cap) m n xs:=by
 refine⟨_,cap,rfl,hl,fun w hh i hi=>⟨b,off,rfl,?_⟩⟩
 rw[hh.ucell (b:=b) (off+i), ←h,List.getElem?_take,if_pos hi,List.getElem?_drop]
theorem SlM.first{v:Value}{m n:Nat}{cs:List Value}(h:SlM B H v m n cs)(hh:Holds B H w):(Builtin.firstCells m n v).run P w= .ok cs.toArray w:=by
 obtain⟨q,cap,rfl,hl,hc⟩:=h.ex
 rcases Nat.eq_zero_or_pos (n*m) with e0 | hpos
 ·have:cs=[]:=by rw[←List.length_eq_zero_iff];omega
  subst this
  cases q<;>simp[Builtin.firstCells,loadCells,e0,loadCellsFrom]
 ·obtain⟨b,off,rfl,_⟩:=hc w hh 0 hpos
  simp only[Builtin.firstCells,loadCells]
  have:=fW (P:=P) (b:=b) (off:=off) (cs:=cs) (w:=w) (fun i hi=>by
   obtain⟨b',off',e',h'⟩:=hc w hh i (by omega)
   cases e';exact h') (n*m) 0 #[] (by omega)
  rw[this]
  simp[List.take_of_length_le (Nat.le_of_eq hl)]
theorem j3(z:Array Value)(n:Nat):(Builtin.zeroCells z n).size=n*z.size:=by simp[Builtin.zeroCells]
theorem vE{n cap bytes:Nat}(hn:n≤1000000000)(hc:cap≤n)(hb:bytes≤65536):Builtin.nextslicecap n cap*bytes≤281474976710656:=by
 have h3:Builtin.nextslicecap n cap≤4000000000:=by
  unfold Builtin.nextslicecap
  split
  ·omega
  ·split
   ·omega
   ·simp only[Builtin.growBy]
    repeat' split
    all_goals omega
 calc _≤4000000000*65536:=Nat.mul_le_mul h3 hb
  _≤_:=by omega
theorem vd{t e:TypeId}{x y:Operand}{at_:Array TypeId}{u:TypeId}{ud:TypeDesc}{b off len cap m n:Nat}{cs xs:List Value}{T:TypeId}{U:List Value→List HP}{z sv:Value}
 (ha:at_[0]? =some t) (ha':at_[1]? =some u) (ht:∀ w,(underlying t).run P w= .ok (.slice e) w) (hu:∀ w,(underlying u).run P w= .ok ud w) (hud:∃ q,ud= .slice q) (hs:∀ w,(sizeOf e).run P w= .ok m w) (hz:∀ w,(zeroValue e).run P w= .ok z w) (hz1:z.cells.size=m) (hfb:ed P e)
 (hx:evO σ x=some (.slice (some ⟨b,off,none⟩) len cap)) (hy:evO σ y=some sv) (hr:SlM B H sv m n xs) [r:fK H b cs T U] (h1:off+cap*m≤cs.length) (hlc:len≤cap) (hn:len+n≤1000000000)
 (hv:xs.all aN=true):
 Chg P B σ H ⟨d,.call ⟨.builtin .append, #[x,y],at_⟩,ty,p,af,g⟩ (fun v H'=>
  (len+n≤cap∧v= .slice (some ⟨b,off,none⟩) (len+n) cap∧H'=U (dx cs (off+len*m) xs))∨
  (cap<len+n∧∃ bn cn rest,len+n≤cn∧rest.length=(cn - (len+n))*m∧v= .slice (some ⟨bn,0,none⟩) (len+n) cn∧H'=row bn ((cs.drop off).take (len*m)++xs++rest) e::H)):=by
 obtain⟨ti,hti,hb,hb0⟩:=r8 hfb
 intro a w kn hh
 have hlm:len*m≤cap*m:=Nat.mul_le_mul_right m hlc
 have e4:=(SlM.row (B:=B) (H:=H) (b:=b) (off:=off) (n:=len) (cap:=cap) (m:=m) (xs:=(cs.drop off).take (len*m)) rfl (by simp;omega))
 obtain⟨q,rfl⟩:=hud
 obtain⟨sq,scap,e0,hl,_⟩:=hr.ex
 subst e0
 by_cases hcap:len+n≤cap
 ·have hnm:(len+n)*m≤cap*m:=Nat.mul_le_mul_right m hcap
  rw[Nat.add_mul] at hnm
  obtain⟨w',e1,hw'⟩:=eF (P:=P) xs (off+len*m) 0 r hh (by omega) (fun v h=>List.all_eq_true.1 hv v h)
  have e2:=hr.first (P:=P) hh
  refine⟨.value (.slice (some ⟨b,off,none⟩) (len+n) cap),w',?_,_,.inl aa,_,.inl ⟨hcap,rfl,rfl⟩,by simpa using hw'⟩
  simp only[execOp,resolve,Sem.run_bind,Sem.run_pure,Result.andThen_ok]
  simp[invoke,builtin,Builtin.append_,ha,ha',hu,kn.eval hx,kn.eval hy,ht,hs,Builtin.lenOf,hcap,e2,iW]
  simp[e1]
 ·have hb2:=vE (n:=len+n) (cap:=cap) hn (by omega) hb
  have hq:(Question.appendCap (len+n) cap e).forced=false:=rfl
  have hcut:∃ cn,(Question.appendCap (len+n) cap e).cut (w.tape w.drawn (.appendCap (len+n) cap e))=cn∧len+n≤cn:=⟨_,rfl,by simp[Question.cut]⟩
  obtain⟨cn,ec,hcn⟩:=hcut
  obtain⟨zl,hzl⟩:∃ l:List Value,Builtin.zeroCells z.cells (cn - (len+n))=l.toArray:=⟨_,(Array.toArray_toList).symm⟩
  have hzs:zl.length=(cn - (len+n))*m:=by have:=j3 z.cells (cn - (len+n));rw[hzl,hz1] at this;simpa using this
  refine⟨.value (.slice (some ⟨w.heap.size,0,none⟩) (len+n) cn),{w with drawn:=w.drawn+1,heap:=w.heap.push (.cells ((cs.drop off).take (len*m)++xs++zl).toArray e)},?_,_,.inl aa,_,.inr ⟨by omega,w.heap.size,cn,zl,hcn,hzs,rfl,rfl⟩,by simpa [row] using(hh.drew (w.drawn+1)).new (.cells ((cs.drop off).take (len*m)++xs++zl).toArray e)⟩
  ·simp only[execOp,resolve,Sem.run_bind,Sem.run_pure,Result.andThen_ok]
   have e2w:(Builtin.firstCells m n (.slice sq n scap)).run P w.drew= .ok xs.toArray w.drew:=hr.first (P:=P) (hh.drew (w.drawn+1))
   have e4w:(Builtin.firstCells m len (Value.slice (some ⟨b,off,none⟩) len cap)).run P w.drew= .ok ((cs.drop off).take (len*m)).toArray w.drew:=e4.first (P:=P) (hh.drew (w.drawn+1))
   simp only[invoke,builtin,Builtin.append_,ha,ha',Sem.run_bind,hu,kn.eval hx,kn.eval hy,ht,hs,Builtin.lenOf,Result.andThen_ok,Sem.run_pure,List.map_toArray,List.map_cons,List.map_nil,List.getElem?_toArray,List.getElem?_cons_zero,List.getElem?_cons_succ]
   simp[hcap,hti,hq,ec,Nat.not_lt.2 hb2,hb0,e2w,e4w,hz,dr,show ¬ (2 ^ 63 - 1:Int)<(len:Int)+n by omega]
   have e9:((List.take (len*m) (List.drop off cs)).toArray++(xs.toArray++Builtin.zeroCells z.cells (cn - (len+n))))=(List.take (len*m) (List.drop off cs)++(xs++zl)).toArray:=by rw[hzl];simp
   rw[e9];rfl
theorem pH{t e:TypeId}{x y:Operand}{at_:Array TypeId}{u:TypeId}{ud:TypeDesc}{m n:Nat}{xs:List Value}{z sv:Value}
 (ha:at_[0]? =some t) (ha':at_[1]? =some u) (ht:∀ w,(underlying t).run P w= .ok (.slice e) w) (hu:∀ w,(underlying u).run P w= .ok ud w) (hud:∃ q,ud= .slice q) (hs:∀ w,(sizeOf e).run P w= .ok m w) (hz:∀ w,(zeroValue e).run P w= .ok z w) (hz1:z.cells.size=m) (hfb:ed P e)
 (hx:evO σ x=some (.slice none 0 0)) (hy:evO σ y=some sv) (hr:SlM B H sv m n xs) (hn0:0<n) (hn:n≤1000000000):
 Chg P B σ H ⟨d,.call ⟨.builtin .append, #[x,y],at_⟩,ty,p,af,g⟩ (fun v H'=>∃ bn cn rest,n≤cn∧rest.length=(cn - n)*m∧v= .slice (some ⟨bn,0,none⟩) n cn∧H'=row bn (xs++rest) e::H):=by
 obtain⟨ti,hti,hb,hb0⟩:=r8 hfb
 intro a w kn hh
 obtain⟨q,rfl⟩:=hud
 obtain⟨sq,scap,e0,hl,_⟩:=hr.ex
 subst e0
 have hb2:=vE (n:=n) (cap:=0) hn (by omega) hb
 have hq:(Question.appendCap n 0 e).forced=false:=rfl
 have hcut:∃ cn,(Question.appendCap n 0 e).cut (w.tape w.drawn (.appendCap n 0 e))=cn∧n≤cn:=⟨_,rfl,by simp[Question.cut]⟩
 obtain⟨cn,ec,hcn⟩:=hcut
 obtain⟨zl,hzl⟩:∃ l:List Value,Builtin.zeroCells z.cells (cn - n)=l.toArray:=⟨_,(Array.toArray_toList).symm⟩
 have hzs:zl.length=(cn - n)*m:=by have:=j3 z.cells (cn - n);rw[hzl,hz1] at this;simpa using this
 refine⟨.value (.slice (some ⟨w.heap.size,0,none⟩) n cn),{w with drawn:=w.drawn+1,heap:=w.heap.push (.cells (xs++zl).toArray e)},?_,_,.inl aa,_,⟨w.heap.size,cn,zl,hcn,hzs,rfl,rfl⟩,by simpa [row] using(hh.drew (w.drawn+1)).new (.cells (xs++zl).toArray e)⟩
 ·simp only[execOp,resolve,Sem.run_bind,Sem.run_pure,Result.andThen_ok]
  have e2w:(Builtin.firstCells m n (.slice sq n scap)).run P w.drew= .ok xs.toArray w.drew:=hr.first (P:=P) (hh.drew (w.drawn+1))
  have e4w:(Builtin.firstCells m 0 (Value.slice none 0 0)).run P w.drew= .ok #[] w.drew:=by simp[Builtin.firstCells]
  simp only[invoke,builtin,Builtin.append_,ha,ha',Sem.run_bind,hu,kn.eval hx,kn.eval hy,ht,hs,Builtin.lenOf,Result.andThen_ok,Sem.run_pure,List.map_toArray,List.map_cons,List.map_nil,List.getElem?_toArray,List.getElem?_cons_zero,List.getElem?_cons_succ]
  simp[show ¬ n=0 by omega,hti,hq,ec,Nat.not_lt.2 hb2,hb0,e2w,e4w,hz,dr,show ¬ (2 ^ 63 - 1:Int)<(n:Int) by omega]
  have e9:(xs.toArray++Builtin.zeroCells z.cells (cn - n))=(xs++zl).toArray:=by rw[hzl];simp
  rw[e9];rfl
end
def iX{α:Type}(T:TypeId)(m:Nat)(enc:α→List Value)(_:Nat)(x:Value×List α):HP:=hex fun (o:Option (Nat×List Value×List Value×Nat))=>match o with
 | none=>pr (x.2=[]∧x.1= .slice none 0 0)
 | some (bd,pre,rest,k)=>grp [row bd (pre++x.2.flatMap enc++rest) T,pr (k*m≤rest.length∧x.1= .slice (some ⟨bd,pre.length,none⟩) x.2.length (x.2.length+k))]
structure nb{α:Type}(m:Nat)(enc:α→List Value):Prop where
 len:∀ a,(enc a).length=m
 c1:∀ a,(enc a).all aN=true
theorem gO{α:Type}{m:Nat}{enc:α→List Value}(he:nb m enc):∀ xs:List α,(xs.flatMap enc).length=xs.length*m
 | []=>by simp
 | a::t=>by simp only[List.flatMap_cons,List.length_append,he.len,gO he t,List.length_cons,Nat.add_mul,Nat.one_mul];omega
theorem Bx{α:Type}{m:Nat}{enc:α→List Value}(he:nb m enc)(xs:List α):(xs.flatMap enc).all aN=true:=by
 rw[List.all_eq_true];intro v hv
 obtain⟨a,_,ha⟩:=List.mem_flatMap.1 hv
 exact List.all_eq_true.1 (he.c1 a) v ha
theorem tD{α:Type}{m:Nat}{enc:α→List Value}(he:nb m enc):∀ (xs:List α) (i:Nat) (a:α),xs[i]? =some a→∀ j,j<m→(xs.flatMap enc)[i*m+j]? =(enc a)[j]?
 | [],i,a,h,j,hj=>by cases h
 | x::t,0,a,h,j,hj=>by
   cases h
   rw[List.flatMap_cons,Nat.zero_mul,Nat.zero_add,List.getElem?_append_left (by rw[he.len];exact hj)]
 | x::t,i+1,a,h,j,hj=>by
   rw[List.flatMap_cons,List.getElem?_append_right (by rw[he.len,Nat.add_mul];omega),he.len,show(i+1)*m+j - m=i*m+j by rw[Nat.add_mul];omega]
   exact tD he t i a h j hj
theorem oy:∀ (vs a b c:List Value),b.length=vs.length→dx (a++b++c) a.length vs=a++vs++c
 | [],a,b,c,h=>by cases b with
   | nil=>rfl
   | cons _ _=>cases h
 | v::vs,a,b,c,h=>by
   cases b with
   | nil=>cases h
   | cons x b=>
     simp only[dx]
     have e:(a++(x::b)++c).set a.length v=(a++[v])++b++c:=by simp
     rw[e,show a.length+1=(a++[v]).length by simp,oy vs (a++[v]) b c (by simpa using h)]
     simp
section
variable {α:Type} {B:World} {n:Nat} {D:List Deferred} {σ:Env} {H Fr:List HP} {P:Program} {K:Act→World→Prop} {T:TypeId} {m:Nat} {enc:α→List Value} {sv:Value} {xs:List α} {w:World}
theorem oe(h:Holds B Fr w):Holds B (iX T m enc 0 (.slice none 0 0,[])::Fr) w:=Holds.unhex none (h.unpr ⟨rfl,rfl⟩)
theorem ia{bd q c k:Nat}{pre rest:List Value}(hm:q=xs.length)(hc:c=q+k)(hk:k*m≤rest.length){o:Nat}(ho:o=pre.length)(h:Holds B (row bd (pre++xs.flatMap enc++rest) T::Fr) w):Holds B (iX T m enc 0 (.slice (some ⟨bd,o,none⟩) q c,xs)::Fr) w:=by
 subst hm;subst hc;subst ho
 refine Holds.unhex (some (bd,pre,rest,k)) (Holds.ungrp (l:=[row bd (pre++xs.flatMap enc++rest) T,pr _]) ?_)
 exact(h.unpr ⟨hk,rfl⟩).back 1 (by simp)
theorem fI(h:Holds B (iX T m enc 0 (sv,xs)::Fr) w):(xs=[]∧sv= .slice none 0 0∧Holds B Fr w)∨∃ bd pre rest k,k*m≤rest.length∧sv= .slice (some ⟨bd,pre.length,none⟩) xs.length (xs.length+k)∧Holds B (row bd (pre++xs.flatMap enc++rest) T::Fr) w:=by
 obtain⟨x,hx⟩:=h.hex
 cases x with
 | none=>have h2:=hx.pr;exact .inl ⟨h2.1.1,h2.1.2,h2.2⟩
 | some p=>have h2:=(hx.grp.front 1 rfl).pr;exact .inr ⟨_,_,_,_,h2.1.1,h2.1.2,h2.2⟩
theorem pl(h:∀ q cap,sv= .slice q xs.length cap→(∀ i,i<xs.length→∃ b off,q=some ⟨b,off,none⟩)→GO B n D σ (iX T m enc 0 (sv,xs)::Fr) K):GO B n D σ (iX T m enc 0 (sv,xs)::Fr) K:=fun a w st=>by
 rcases fI st.holds with ⟨e1,e2,_⟩ | ⟨bd,pre,rest,k,_,e,_⟩
 ·exact h none 0 (by rw[e2,e1];rfl) (fun i hi=>by rw[e1] at hi;exact absurd hi (Nat.not_lt_zero _)) a w st
 ·exact h _ _ e (fun i hi=>⟨_,_,rfl⟩) a w st
theorem lH(he:nb m enc){q:Option Addr}{cap:Nat}(i:Nat)(e:H[i]? =some (iX T m enc 0 (.slice q xs.length cap,xs))):SlN B H (.slice q xs.length cap) m (xs.map enc):=by
 refine⟨q,cap,by simp,fun w hw j c hc=> ?_⟩
 rw[List.getElem?_map] at hc
 cases hx:xs[j]? with
 | none=>rw[hx] at hc;cases hc
 | some a=>
   rw[hx] at hc;cases hc
   have hj:j<xs.length:=(List.getElem?_eq_some_iff.1 hx).1
   rcases fI (hw.front i e) with ⟨h1,_,_⟩ | ⟨bd,pre,rest,k,_,h1,h2⟩
   ·rw[h1] at hj;exact absurd hj (Nat.not_lt_zero _)
   ·injection h1 with h1 _ _
    refine⟨bd,pre.length,h1,he.len a,fun r hr=> ?_⟩
    have hlt:j*m+r<(xs.flatMap enc).length:=by
     rw[gO he]
     calc j*m+r<j*m+m:=by omega
      _=(j+1)*m:=by rw[Nat.add_mul,Nat.one_mul]
      _≤xs.length*m:=Nat.mul_le_mul_right m hj
    rw[h2.ucell (b:=bd) (pre.length+(j*m+r)),List.append_assoc,List.getElem?_append_right (by omega),Nat.add_sub_cancel_left,List.getElem?_append_left hlt,tD he xs j a hx r hr]
theorem yn(he:nb m enc){q:Option Addr}{cap:Nat}(i:Nat)(e:H[i]? =some (iX T m enc 0 (.slice q xs.length cap,xs))):SlM B H (.slice q xs.length cap) m xs.length (xs.flatMap enc):=by
 refine⟨q,cap,rfl,gO he xs,fun w hw j hj=> ?_⟩
 rcases fI (hw.front i e) with ⟨h1,_,_⟩ | ⟨bd,pre,rest,k,_,h1,h2⟩
 ·rw[h1] at hj;simp at hj
 ·injection h1 with h1 _ _
  refine⟨bd,pre.length,h1,?_⟩
  rw[h2.ucell (b:=bd) (pre.length+j),List.append_assoc,List.getElem?_append_right (by omega),Nat.add_sub_cancel_left,List.getElem?_append_left (by rw[gO he];exact hj)]
theorem kH(he:nb m enc){d:Option Tmp}{ty:TypeId}{p:String}{af:Array Edge}{g:Option (Nat×Bool)}{t:TypeId}{x y:Operand}{at_:Array TypeId}{u:TypeId}{ud:TypeDesc}{ys:List α}{z yv:Value}
 (ha:at_[0]? =some t) (ha':at_[1]? =some u) (ht:∀ w,(underlying t).run P w= .ok (.slice T) w) (hu:∀ w,(underlying u).run P w= .ok ud w) (hud:∃ q,ud= .slice q) (hs:∀ w,(sizeOf T).run P w= .ok m w) (hz:∀ w,(zeroValue T).run P w= .ok z w) (hz1:z.cells.size=m) (hfb:ed P T)
 (hx:evO σ x=some sv) (hy:evO σ y=some yv) (hr:SlM B Fr yv m ys.length (ys.flatMap enc)) (h0:0<ys.length) (hn:xs.length+ys.length≤1000000000):
 Chg P B σ (iX T m enc 0 (sv,xs)::Fr) ⟨d,.call ⟨.builtin .append, #[x,y],at_⟩,ty,p,af,g⟩ (fun v' H'=>aN v'=true∧H'=iX T m enc 0 (v',xs++ys)::Fr):=by
 intro a w kn hh
 have hrc:∀ A:HP,SlM B (A::Fr) yv m ys.length (ys.flatMap enc):=fun A=>by
  obtain⟨q,cap,e1,e2,e3⟩:=hr.ex
  exact⟨q,cap,e1,e2,fun w hw=>e3 w hw.tail⟩
 rcases fI hh with ⟨h1,h2,h3⟩ | ⟨bd,pre,rest,k,hk,h1,h3⟩
 ·subst h2;subst h1
  obtain⟨r,w',e1,u,e2,H',⟨bn,cn,rest,e3,e3',e4,rfl⟩,e5⟩:=pH (H:=Fr) (d:=d) (ty:=ty) (p:=p) (af:=af) (g:=g) ha ha' ht hu hud hs hz hz1 hfb hx hy hr h0 (by simpa using hn) a w kn h3
  subst e4
  refine⟨r,w',e1,_,e2,_,⟨rfl,rfl⟩,?_⟩
  exact ia (xs:=ys) (pre:=[]) (k:=cn - ys.length) aa (by omega) (by omega) aa e5
 ·subst h1
  obtain⟨r,w',e1,u,e2,H',hY,e5⟩:=vd (H:=row bd (pre++xs.flatMap enc++rest) T::Fr) (d:=d) (ty:=ty) (p:=p) (af:=af) (g:=g) (b:=bd) ha ha' ht hu hud hs hz hz1 hfb hx hy (hrc _) (by simp[gO he,Nat.add_mul];omega) (by omega) (by simpa using hn) (Bx he ys) a w kn h3
  rcases hY with ⟨g1,rfl,rfl⟩ | ⟨g1,bn,cn,rest',g2,g3,rfl,rfl⟩
  ·refine⟨r,w',e1,_,e2,_,⟨rfl,rfl⟩,?_⟩
   have g1:ys.length≤k:=by omega
   have g4:ys.length*m≤k*m:=Nat.mul_le_mul_right m g1
   have e:pre++xs.flatMap enc++rest=(pre++xs.flatMap enc)++rest.take (ys.length*m)++rest.drop (ys.length*m):=by simp
   have el:pre.length+xs.length*m=(pre++xs.flatMap enc).length:=by simp[gO he]
   rw[e,el,oy _ _ _ _ (by rw[gO he,List.length_take];omega)] at e5
   refine ia (k:=k - ys.length) (rest:=rest.drop (ys.length*m)) (by simp) (by omega) (by rw[List.length_drop,Nat.sub_mul];omega) aa ?_
   simpa using e5
  ·refine⟨r,w',e1,_,e2,_,⟨rfl,rfl⟩,?_⟩
   have e:(xs++ys).flatMap enc++rest'=((pre++xs.flatMap enc++rest).drop pre.length).take (xs.length*m)++ys.flatMap enc++rest':=by
    rw[List.append_assoc pre,List.drop_left, ←gO he xs,List.take_left];simp
   rw[←e] at e5
   exact ia (pre:=[]) (k:=cn - (xs.length+ys.length)) (by simp) (by omega) (by simpa using Nat.le_of_eq g3.symm) aa ((e5.front 1 aa).tail)
theorem rQ(he:nb m enc){d:Option Tmp}{ty:TypeId}{p:String}{af:Array Edge}{g:Option (Nat×Bool)}{t:TypeId}{x lo:Operand}{v:α}{kk:IntKind}(ht:∀ w,(underlying t).run P w= .ok (.slice T) w)(hs:∀ w,(sizeOf T).run P w= .ok m w)(hx:evO σ x=some sv)(hl:evO σ lo=some (.int kk 1)):
 Chg P B σ (iX T m enc 0 (sv,v::xs)::Fr) ⟨d,.slice t x (some lo) none none,ty,p,af,g⟩ (fun v' H'=>aN v'=true∧H'=iX T m enc 0 (v',xs)::Fr):=by
 intro a w kn hh
 rcases fI hh with ⟨h1,_,_⟩ | ⟨bd,pre,rest,k,hk,h1,h3⟩
 ·cases h1
 ·subst h1
  by_cases hlast:1<(v::xs).length+k
  ·have e:=kC (B:=B) (H:=row bd (pre++(v::xs).flatMap enc++rest) T::Fr) (d:=d) (ty:=ty) (p:=p) (af:=af) (g:=g) (hi:=none) (h:=(v::xs).length) (l:=1) (m:=pre.length+m) ht hs hx (.inr ⟨lo,kk,rfl,hl⟩) (.inl ⟨rfl,rfl⟩) (by simp) (by omega) (.inl hlast) (by omega)
   refine⟨_,w,e a w kn h3,_,.inl aa,_,⟨rfl,rfl⟩,?_⟩
   refine ia (pre:=pre++enc v) (rest:=rest) (k:=k) (by simp) (by simp<;>omega) hk (by simp[he.len]) ?_
   simpa using h3
  ·simp only[List.length_cons] at hlast
   have hxs:xs=[]:=List.length_eq_zero_iff.1 (by omega)
   have hk0:k=0:=by omega
   subst hxs;subst hk0
   have e:=jP (B:=B) (H:=row bd (pre++[v].flatMap enc++rest) T::Fr) (d:=d) (ty:=ty) (p:=p) (af:=af) (g:=g) (len:=1) ht hs hx hl
   refine⟨_,w,e a w kn h3,_,.inl aa,_,⟨rfl,rfl⟩,?_⟩
   refine ia (pre:=pre) (rest:=enc v++rest) (k:=0) (by simp) (by simp) (by simp) aa ?_
   simpa using h3
theorem kW:∀ (vs:List Value) (k:Nat) (a:Array Value),k+vs.length≤a.size→∀ j:Nat,(List.foldl (fun (cs:Array Value) (x:Value×Nat)=>cs.setIfInBounds x.2 x.1) a (vs.zipIdx k))[j]? =if k≤j∧j<k+vs.length then vs[j - k]? else a[j]?
 | [],k,a,_,j=>by rw[if_neg (by simp only[List.length_nil];omega)];rfl
 | v::vs,k,a,h,j=>by
   simp only[List.length_cons] at h
   rw[List.zipIdx_cons,List.foldl_cons,kW vs (k+1) _ (by simp;omega) j]
   by_cases h1:j=k
   ·subst h1
    rw[if_neg (by omega),if_pos (by simp only[List.length_cons];omega),Nat.sub_self,List.getElem?_cons_zero,Array.getElem?_setIfInBounds_self_of_lt (by omega)]
   ·by_cases h2:k+1≤j∧j<k+1+vs.length
    ·rw[if_pos h2,if_pos (by simp only[List.length_cons];omega)]
     rw[show j - k=(j - (k+1))+1 by omega,List.getElem?_cons_succ]
    ·rw[if_neg h2,if_neg (by simp only[List.length_cons];omega)]
     rw[Array.getElem?_setIfInBounds_ne (by omega)]
theorem pG(he:nb m enc){d:Option Tmp}{ty:TypeId}{p:String}{af:Array Edge}{g:Option (Nat×Bool)}{t e:TypeId}{x:Operand}{v:α}{xv z:Value}(ht:∀ w,(underlying t).run P w= .ok (.slice e) w)(hs:∀ w,(sizeOf e).run P w= .ok m w)(hz:∀ w,(zeroValue e).run P w= .ok z w)(hm0:(0<m∧m≤1000)∧z.cells.size=m)(hx:evO σ x=some xv)(hv:xv.cells=(enc v).toArray):
 Chg P B σ H ⟨d,.buildSlice t 1 #[(0,x)],ty,p,af,g⟩ (fun u H'=>∃ b,u= .slice (some ⟨b,0,none⟩) 1 1∧H'=row b (enc v) e::H):=by
 intro a w kn hh
 refine⟨.value (.slice (some ⟨w.heap.size,0,none⟩) 1 1),{w with heap:=w.heap.push (.cells (enc v).toArray e)},?_,_,.inl aa,_,⟨_,rfl,rfl⟩,by simpa [row] using hh.new _⟩
 have h1:m≠0:=by omega
 have h2:¬ 16777216<m:=by omega
 have hl:(enc v).length=m:=he.len v
 simp[execOp,Instr.buildSlice,ht,hs,Instr.fill,dr,hz,kn.eval hx,hv,h1,h2,hl]
 congr 2
 apply Array.ext_getElem?
 intro j
 rw[kW _ 0 _ (by simp[hl])]
 by_cases hj:j<m
 ·simp[hl,hj]
 ·have hj2:¬ j<(enc v).length:=by omega
  simp[hl,hj]
def m6{α:Type}(Ts T:TypeId)(m:Nat)(enc:α→List Value)(b:Nat)(xs:List α):HP:=hex fun (rv:Value)=>grp [row b [rv] Ts,iX T m enc 0 (rv,xs),pr (aN rv=true)]
theorem wn{Ts:TypeId}{b:Nat}(h:∀ rv,aN rv=true→GO B n D σ (row b [rv] Ts::iX T m enc 0 (rv,xs)::Fr) K):GO B n D σ (m6 Ts T m enc b xs::Fr) K:=fun a w st=>by
 obtain⟨rv,hx⟩:=st.holds.hex
 have h2:=(hx.grp.front 2 rfl).pr
 exact h rv h2.1 a w ⟨st.toStA,h2.2⟩
theorem lm{Ts:TypeId}{b:Nat}{rv:Value}(hr:aN rv=true)(h:Holds B (row b [rv] Ts::iX T m enc 0 (rv,xs)::Fr) w):Holds B (m6 Ts T m enc b xs::Fr) w:=
 Holds.unhex rv (Holds.ungrp (l:=[row b [rv] Ts,iX T m enc 0 (rv,xs),pr _]) ((h.unpr hr).back 2 (by simp)))
theorem yo{Ts:TypeId}{b:Nat}(h:Holds B (row b [.slice none 0 0] Ts::Fr) w):Holds B (m6 (α:=α) Ts T m enc b []::Fr) w:=
 lm rfl ((oe h).front 1 rfl)
theorem SlR.up{v:Value}{cs:List Value}[f:iR H Fr](h:SlR B Fr v cs):SlR B H v cs:=by
 obtain⟨l,e⟩:=f.ex
 subst e
 induction l with
 | nil=>exact h
 | cons A l ih=>exact ih.cons A
theorem Holds.hop{A C:HP}(L M:List HP){E:List HP}(h:Holds B (A::C::(L++(M++E))) w):Holds B (A::C::(M++(L++E))) w:=
 h.perm (List.Perm.cons _ (List.Perm.cons _ (by rw[←List.append_assoc, ←List.append_assoc];exact List.Perm.append_right _ List.perm_append_comm)))
end
abbrev str(l:List UInt8):Value:= .string ⟨l.toArray⟩
theorem iQ(l:List UInt8):(⟨l.toArray⟩:ByteArray).size=l.length:=by simp[ByteArray.size]
theorem BX(l:List UInt8):(⟨l.toArray⟩:ByteArray).toList=l:=by
 have h:∀ (b:ByteArray),b.toList=b.data.toList:=fun b=>ByteArray.toList_eq b
 rw[h]
theorem Dh(a b:List UInt8):(⟨a.toArray⟩:ByteArray)++⟨b.toArray⟩=⟨(a++b).toArray⟩:=by
 apply ByteArray.ext;simp
theorem Dg(l:List UInt8)(i j:Nat):(⟨l.toArray⟩:ByteArray).extract i j=⟨((l.take j).drop i).toArray⟩:=by
 apply ByteArray.ext
 simp only[ByteArray.data_extract,List.extract_toArray,List.extract_eq_take_drop,Array.mk.injEq]
 rw[List.take_drop]
 rcases Nat.le_total i j with h | h
 ·rw[show i+(j - i)=j by omega]
 ·rw[List.drop_eq_nil_of_le (by rw[List.length_take];omega),List.drop_eq_nil_of_le (by rw[List.length_take];omega)]
section
variable {B:World} {σ:Env} {H Fr:List HP} {P:Program} {d:Option Tmp} {ty:TypeId} {p:String} {af:Array Edge} {g:Option (Nat×Bool)} {w:World}
theorem eZ{x y:Operand}{i j:List UInt8}{t u:TypeId}(hx:evO σ x=some (str i))(hy:evO σ y=some (str j))(hl:i.length+j.length≤9223372036854775807):Evs P B σ H ⟨d,.binOp .add t x y u,ty,p,af,g⟩ (str (i++j)):=by
 intro a w kn _
 simp only[execOp,kn.eval hx,kn.eval hy]
 have h1:¬ (((⟨i.toArray⟩:ByteArray).size+(⟨j.toArray⟩:ByteArray).size:Nat):Int)>IntKind.i64.max:=by
  rw[iQ,iQ];show ¬ (9223372036854775807:Int)<_;omega
 simp only[binOp,Op.stringOp,if_neg h1,Dh]
 simp[eqGuard,go_sem]
theorem py{op:BinOp}{x y:Operand}{i j:List UInt8}{c:Bool}{t u:TypeId}(hx:evO σ x=some (str i))(hy:evO σ y=some (str j))(hc:(match op with | .eql=>some (i==j) | .neq=>some (!(i==j)) | _=>none)=some c):
 Evs P B σ H ⟨d,.binOp op t x y u,ty,p,af,g⟩ (.bool c):=by
 intro a w kn _
 cases op<;>simp only[Option.some.injEq,reduceCtorEq] at hc<;>subst hc<;>simp only[execOp,kn.eval hx,kn.eval hy]<;>simp[binOp,Op.stringOp,eqGuard,BX,go_sem]
theorem nS{t:TypeId}{x:Operand}{l:List UInt8}{at_:Array TypeId}(ha:at_[0]? =some t)(ht:∀ w,(underlying t).run P w= .ok .string w)(hx:evO σ x=some (str l)):
 Evs P B σ H ⟨d,.call ⟨.builtin .len, #[x],at_⟩,ty,p,af,g⟩ (.int .i64 l.length):=by
 intro q w kn _
 simp[execOp,resolve,invoke,builtin,Builtin.len_,ha,kn.eval hx,ht,goInt,iQ]
theorem zX{t:TypeId}{x:Operand}{lo hi:Option Operand}{s:List UInt8}{l h:Nat}(ht:∀ w,(underlying t).run P w= .ok .string w)(hx:evO σ x=some (str s))(hl:BV σ lo 0 l)(hh:BV σ hi s.length h)(h1:l≤h)(h2:h≤s.length):
 Evs P B σ H ⟨d,.slice t x lo hi none,ty,p,af,g⟩ (str ((s.take h).drop l)):=by
 intro a w kn _
 have e:=jy (P:=P) (len:=s.length) (cap:=s.length) (s:=false) kn hl hh h1 h2 w
 simp only[execOp,kn.eval hx]
 simp[Instr.sliceAt,Instr.slice,ht,iQ,e,Dg]
theorem qW{t:TypeId}{x y:Operand}{k:IntKind}{s:List UInt8}{i:Int}(ht:∀ w,(underlying t).run P w= .ok .string w)(hx:evO σ x=some (str s))(hy:evO σ y=some (.int k i))(h0:0≤i)(h2:i.toNat≤s.length):
 Evs P B σ H ⟨d,.slice t x none (some y) none,ty,p,af,g⟩ (str (s.take i.toNat)):=by
 have:=zX (P:=P) (B:=B) (H:=H) (d:=d) (ty:=ty) (p:=p) (af:=af) (g:=g) ht hx .no (.yesi hy (by omega)) (Nat.zero_le _) h2
 simpa using this
theorem qV{t:TypeId}{x y:Operand}{k:IntKind}{s:List UInt8}{i:Int}(ht:∀ w,(underlying t).run P w= .ok .string w)(hx:evO σ x=some (str s))(hy:evO σ y=some (.int k i))(h0:0≤i)(h2:i.toNat≤s.length):
 Evs P B σ H ⟨d,.slice t x (some y) none none,ty,p,af,g⟩ (str (s.drop i.toNat)):=by
 have:=zX (P:=P) (B:=B) (H:=H) (d:=d) (ty:=ty) (p:=p) (af:=af) (g:=g) ht hx (.yesi hy (by omega)) .no h2 (Nat.le_refl _)
 simpa using this
theorem Holds.below{w':World}(h:Holds B H w)(hb:RowKit.Below w.heap.size w w'):Holds B H w':=by
 refine⟨hb.os.trans h.os,hb.tape.trans h.tape,hb.output.trans h.output,Nat.le_trans h.size hb.size,oz (fun b o e=> ?_) h.sat⟩
 have hlt:=(Array.getElem?_eq_some_iff.1 e).1
 rw[hb.block b hlt];exact e
theorem yO{A:HP}{l:List HP}{h k:fh}{b:Nat}{o:Obj}(a:sat l h)(hs:eC h k)(hn:h b=none)(hb:k b=some o)(hA:∀ f:fh,f b=some o→A f):sat (A::l) k:=by
 refine⟨fun c=>if c=b then some o else none,h,?_,?_,hs,hA _ (by simp),a⟩
 ·intro c
  by_cases hcb:c=b
  ·subst hcb;exact .inr hn
  ·left;simp[hcb]
 ·intro c oo ec
  by_cases hcb:c=b
  ·subst hcb;simp at ec;rw[hb,ec]
  ·simp[hcb] at ec
theorem Holds.belowRow{w':World}(h:Holds B H w)(hb:RowKit.Below w.heap.size w w'){a:Nat}(ha:w.heap.size≤a){cs:List Value}{T:TypeId}(hr:w'.heap[a]? =some (.cells cs.toArray T (0,0))):Holds B (row a cs T::H) w':=by
 have h2:=h.below hb
 refine⟨h2.os,h2.tape,h2.output,h2.size,yO h.sat (fun b o e=> ?_) (by simp;omega) hr (fun f e=>e)⟩
 have hlt:=(Array.getElem?_eq_some_iff.1 e).1
 rw[hb.block b hlt];exact e
def yy(s:List UInt8):List Value:=[str s]
theorem Cp:nb 1 yy:=⟨fun _=>rfl,fun _=>rfl⟩
theorem pu(l:List (List UInt8)):l.flatMap yy=l.map str:=by
 induction l with
 | nil=>rfl
 | cons a t ih=>simp[yy,ih]
abbrev q7(T:TypeId)(sv:Value)(l:List (List UInt8)):HP:=iX T 1 yy 0 (sv,l)
theorem yx{w':World}{T:TypeId}{sv:Value}{l:List (List UInt8)}(h:Holds B H w)(hb:RowKit.Below w.heap.size w w')(ho:w'.ownsRow w.heap.size T 1 sv l.length (l.map str)):Holds B (q7 T sv l::H) w':=by
 rcases ho.2 with ⟨rfl,h0⟩ | ⟨a,cap,cur,rfl,ha,hr,hc,_,hs,ht⟩
 ·obtain rfl:=List.eq_nil_of_length_eq_zero h0
  exact oe (h.below hb)
 ·have hr':w'.heap[a]? =some (.cells (l.flatMap yy++cur.toList.drop (l.length*1)).toArray T (0,0)):=by
   rw[hr,pu, ←ht,List.take_append_drop]
  have:=h.belowRow hb ha hr'
  exact ia (pre:=[]) (k:=cap - l.length) aa (by omega) (by simp[List.length_drop,hs]) aa this
abbrev u8v(x:UInt8):Value:= .int .u8 (x.toNat:Int)
theorem C5{s t e:TypeId}{x:Operand}{b off cap:Nat}{l:List UInt8}{n:Nat}(hs:∀ w,(underlying s).run P w= .ok (.slice e) w)(he:∀ w,(underlying e).run P w= .ok (.int .u8) w)(ht:∀ w,(underlying t).run P w= .ok .string w)(hx:evO σ x=some (.slice (some ⟨b,off,none⟩) n cap))(hn:n=l.length)(hr:SlR B H (.slice (some ⟨b,off,none⟩) n cap) (l.map u8v)):
 Evs P B σ H ⟨d,.convert s t x,ty,p,af,g⟩ (str l):=by
 subst hn
 intro a w kn hh
 simp only[execOp,kn.eval hx]
 have hc:∀ j (hj:j<l.length),w.cell? ((⟨b,off,none⟩:Addr).add j)=some (.int .u8 (l[j].toNat:Int)):=fun j hj=>by
  obtain⟨q,c,e1,e2⟩:=hr.ex
  obtain⟨b',o',e3,e4⟩:=e2 w hh j (by simpa using hj)
  injection e1 with e5
  rw[←e5] at e3
  injection e3 with e3
  injection e3 with e6 e7
  subst e6;subst e7
  rw[iW,e4]
  simp[hj]
 have:=run_convert_bytes_back (P:=P) w s t e ⟨b,off,none⟩ cap l (eE hs) (eE he) (eE ht) hc
 simp[this]
end
end Go.Proofs.YtipdhkmphngmoaaGreatDoor
