/- Part of a law's texts. Conditions: none. -/
import Derived.Test.YtipdhkmphngmoaaGreatDoorQL19Ff
open Go.Proofs.Tryz
set_option linter.all false
namespace Go.Proofs.YtipdhkmphngmoaaGreatDoor
open Go
structure bD where
 L:bT
 ff:Int
 ft:Int
 seen:List (Int×Unit)
 dirty:List (Int×Unit)
abbrev dy(b bl:Nat)(S:bD)(o:Bool)(m1 m2:Option Nat):HP:=row b [ptr bl,ptr S.L.d,i64 S.L.c.log,i64 S.L.c.roots,i64 S.L.c.space,.bool o,i64 S.ff,i64 S.ft,.map m1,.map m2] 144
def dV(b:Nat)(S:bD):HP:=hex fun (x:Nat×Option Nat×Option Nat)=>grp [dy b x.1 S false x.2.1 x.2.2,dm x.1 S.L]
def gS(b:Nat)(S:bD):HP:=hex fun (x:Nat×Nat×Nat)=>grp [dy b x.1 S true (some x.2.1) (some x.2.2),dm x.1 S.L,bB .i64 cj x.2.1 S.seen,bB .i64 cj x.2.2 S.dirty]
theorem jJ{B:World}{n:Nat}{D:List Deferred}{σ:Env}{b:Nat}{S:bD}{Fr:List HP}{K:Act→World→Prop}(h:∀ bl o1 o2,GO B n D σ (dy b bl S false o1 o2::dm bl S.L::Fr) K):GO B n D σ (dV b S::Fr) K:=fun a w st=>by
 obtain⟨x,hx⟩:=st.holds.hex
 exact h _ _ _ a w ⟨st.toStA,hx.grp⟩
theorem l3{B:World}{n:Nat}{D:List Deferred}{σ:Env}{b:Nat}{S:bD}{Fr:List HP}{K:Act→World→Prop}(h:∀ bl o1 o2,GO B n D σ (dy b bl S true (some o1) (some o2)::dm bl S.L::bB .i64 cj o1 S.seen::bB .i64 cj o2 S.dirty::Fr) K):GO B n D σ (gS b S::Fr) K:=fun a w st=>by
 obtain⟨x,hx⟩:=st.holds.hex
 exact h _ _ _ a w ⟨st.toStA,hx.grp⟩
theorem dN{B:World}{b bl:Nat}{o1 o2:Option Nat}{S:bD}{Fr:List HP}{w:World}(h:Holds B (dy b bl S false o1 o2::dm bl S.L::Fr) w):Holds B (dV b S::Fr) w:=
 Holds.unhex (bl,o1,o2) (Holds.ungrp (l:=[dy b bl S false o1 o2,dm bl S.L]) h)
theorem fH{B:World}{b bl o1 o2:Nat}{S:bD}{Fr:List HP}{w:World}(h:Holds B (dy b bl S true (some o1) (some o2)::dm bl S.L::bB .i64 cj o1 S.seen::bB .i64 cj o2 S.dirty::Fr) w):Holds B (gS b S::Fr) w:=
 Holds.unhex (bl,o1,o2) (Holds.ungrp (l:=[dy b bl S true (some o1) (some o2),dm bl S.L,bB .i64 cj o1 S.seen,bB .i64 cj o2 S.dirty]) h)
structure lF(S:bD):Prop where
 L:dR S.L
 dirty:∀ p∈S.dirty,0≤p.1∧p.1≤1000000
theorem vW(o:Option Unit):(Value.tuple #[pV cj (.agg #[]) o,.bool o.isSome])= .tuple #[.agg #[],.bool o.isSome]:=by cases o<;>rfl
def bD.store(S:bD)(s:Dev)(i v:Int):Out (Int×bD):=
 if i<S.L.c.active∨(s.n:Int)≤i then .ok (1,S) s
 else if (bG S.seen i).isSome=false∧(i<S.ff∨S.ft≤i) then
  (S.L.append s i).then fun x s=>if x.1≠0 then .ok (x.1,{S with L:=x.2}) s else
   (s.store i v).then fun _ s=> .ok (0,{S with L:=x.2,seen:=mset S.seen i (),dirty:=mset S.dirty (i / 8) ()}) s
 else (s.store i v).then fun _ s=> .ok (0,{S with dirty:=mset S.dirty (i / 8) ()}) s
def dK:List Int→Dev→Out Unit
 | [],s=> .ok () s
 | k::ks,s=>(s.flush (k*8)).then fun _ s=>dK ks s
def bD.commit(S:bD)(s:Dev):Out bD:=
 (dK (cq (S.dirty.map Prod.fst)) s).then fun _ s=>(if 0<S.dirty.length then s.fence else .ok () s).then fun _ s=>(S.L.truncate s).then fun L s=> .ok {S with L:=L} s
def bD.abort(S:bD)(s:Dev):Out bD:=(S.L.undo s).then fun L s=> .ok {S with L:=L} s
theorem jt{S:bD}{s:Dev}{i v:Int}(h:¬i<S.L.c.active∧¬(s.n:Int)≤i)(hno:¬((bG S.seen i).isSome=false∧(i<S.ff∨S.ft≤i))):S.store s i v=(s.store i v).then fun _ s=> .ok (0,{S with dirty:=mset S.dirty (i / 8) ()}) s:=by
 unfold bD.store
 rw[if_neg (by omega),if_neg hno]
theorem mZ{L L':bT}{s s':Dev}{i a:Int}(h:L.append s i= .ok (a,L') s'):L'.d=L.d∧L'.c=L.c:=by
 unfold bT.append at h
 split at h
 ·cases h;exact⟨rfl,rfl⟩
 ·split at h
  ·cases h;exact⟨rfl,rfl⟩
  ·simp only[Out.then] at h
   repeat' split at h
   all_goals first | (cases h;exact⟨rfl,rfl⟩) | cases h
theorem rb{L L':bT}{s s':Dev}(h:L.truncate s= .ok L' s'):L'.d=L.d∧L'.c=L.c:=by
 unfold bT.truncate at h
 split at h
 ·cases h;exact⟨rfl,rfl⟩
 ·simp only[Out.then] at h
  repeat' split at h
  all_goals first | (cases h;exact⟨rfl,rfl⟩) | cases h
theorem my(B:World)(Fr:List HP)(b:Nat)(S:bD):
 ∀ w,Holds B (dV b S::Fr) w→Calls Tryz.prog 72 [ptr b].toArray w (aZ B (dV b S::Fr) (.bool false)):=by
 refine ak func72 aa ntmps72 aa (jJ fun bl o1 o2=>(ac (ab (kPa aa aa (ad (ac (ab (kPf dL isAgg4 aa aa aa aa (kPa aa aa (ad (au ?_)))))))))))
 exact aq results72 aa (fun w hh=>⟨rfl,dN hh⟩)
theorem xe(B:World)(Fr:List HP)(b:Nat)(S:bD):
 ∀ w,Holds B (gS b S::Fr) w→Calls Tryz.prog 72 [ptr b].toArray w (aZ B (gS b S::Fr) (.bool true)):=by
 refine ak func72 aa ntmps72 aa (l3 fun bl o1 o2=>(ac (ab (kPa aa aa (ad (ac (ab (kPf dL isAgg4 aa aa aa aa (kPa aa aa (ad (au ?_)))))))))))
 exact aq results72 aa (fun w hh=>⟨rfl,fH hh⟩)
theorem su(B:World)(Fr:List HP)(b:Nat)(S:bD):
 ∀ w,Holds B (dV b S::Fr) w→Calls Tryz.prog 83 [ptr b].toArray w (aZ B (dV b S::Fr) (i64 2)):=by
 refine ak func83 aa ntmps83 aa (jJ fun bl o1 o2=>(ac (ab (kPa aa aa (ad (ac (ac (ab (kPf dL isAgg4 aa aa aa aa (kPv (bu aa) aa (ad ?_)))))))))))
 refine li aa (rfl) (ac (ab (kPa aa aa (ad (au ?_)))))
 exact aq results83 aa (fun w hh=>⟨rfl,dN hh⟩)
theorem ut(B:World)(Fr:List HP)(b:Nat)(S:bD):
 ∀ w,Holds B (dV b S::Fr) w→Calls Tryz.prog 95 [ptr b].toArray w (aZ B (dV b S::Fr) (i64 2)):=by
 refine ak func95 aa ntmps95 aa (jJ fun bl o1 o2=>(ac (ab (kPa aa aa (ad (ac (ac (ab (kPf dL isAgg4 aa aa aa aa (kPv (bu aa) aa (ad ?_)))))))))))
 refine li aa (rfl) (ac (ab (kPa aa aa (ad (au ?_)))))
 exact aq results95 aa (fun w hh=>⟨rfl,dN hh⟩)
theorem om(B:World)(Fr:List HP)(b:Nat)(S:bD)(s:Dev)(hL:lF S)(i v:Int):
 ∀ w,Holds B (gS b S::ax S.L.d s::Fr) w→Calls Tryz.prog 77 [ptr b,i64 i,w64 v].toArray w (Ret B (fun rv H'=>∃ a S' s',S.store s i v= .ok (a,S') s'∧rv=i64 a∧H'=gS b S'::ax S.L.d s'::Fr) (fun c H'=>∃ s',S.store s i v= .off s'∧c=dh∧H'=ax S.L.d s'::Fr)):=by
 refine ak func77 aa ntmps77 aa ?_
 have hl:=hL.L
 have hc:=hl.c
 have hc1:=hc.r1
 have hc2:=hc.r2
 have hc3:=hc.l1
 have hc4:=hc.l2
 have hact:=hc.act
 refine kt S.L.d fun hn1 hn2 hn3=>(l3 fun bl o1 o2=>(ac (ab (kPa aa aa (ad (ac (aI (ac (ab (kPf dL isAgg4 aa aa aa aa (kPv (bu aa) aa ?_)))))))))))
 refine kPa aa aa (ad (bH aa (rfl) (ac (ab (kPm aa aa (kPm aa aa (kPv (aF aa) aa (kPv (aC (m:=_) zU aa aa) aa (kPv (ah isAgg39 sizeOf39 aa aa) aa ?_)))))))))
 refine ap aa (ar call108 aa) (fS _ _ S.L.c hL.L.c) .free aa aa ?_
 refine kPv (am aa aa aa) aa (kPm aa aa ?_)
 apply gJ (tp:=32) (t:=24) (σ1:=[(24,_),(6,_),(0,_),(1,_),(2,_)]) 8 rfl (aG rfl)
 ·intro hg1
  refine ao aa (al aa) (.on aa aa (ae hg1)) aa aa (ao aa (al aa) (.on aa aa (ae hg1)) aa aa (ao aa (aF aa) (.on aa aa (ae hg1)) aa aa (ao aa (aC (m:=_) kz aa aa) (.on aa aa (ae hg1)) aa aa (ao aa (ag isAgg53 aa aa) (.on aa aa (ae hg1)) aa aa (ap aa (ar call103 aa) (bF (q:=ax) (fun Fr=>kQ _ Fr _ _)) (.on aa aa (ae hg1)) aa aa ?_)))))
  refine ao aa (am aa aa aa) (.on aa aa (ae hg1)) aa aa (kPv (aJ aa hg1 aa) aa ?_)
  exact bf aa (aG aa) (ga hg1)
 ·intro hg1
  refine ay aa (.on aa aa (ai hg1)) aa (ay aa (.on aa aa (ai hg1)) aa (ay aa (.on aa aa (ai hg1)) aa (ay aa (.on aa aa (ai hg1)) aa (ay aa (.on aa aa (ai hg1)) aa (ay aa (.on aa aa (ai hg1)) aa (ay aa (.on aa aa (ai hg1)) aa (kPv (aB aa hg1 aa) aa ?_)))))))
  exact bf aa (aG aa) (f9 hg1)
 refine kPa aa aa (ad ?_)
 refine aV aa (fun h16=> ?_) (fun h16=> ?_)
 ·try simp only[decide_eq_true_eq,decide_eq_false_iff_not,Bool.not_eq_true',Bool.not_eq_false',Bool.or_eq_true,Bool.and_eq_true,Bool.and_eq_false_iff,Bool.or_eq_false_iff,beq_iff_eq,bne_iff_ne,beq_eq_false_iff_ne,bne_eq_false_iff_eq,ge_iff_le,gt_iff_lt,ne_eq] at h16
  refine ac (ab (kPa aa aa (ad (au ?_))))
  exact aq results77 aa (fun w hh=>⟨_,⟨1,S,s,by simp[bD.store, *],rfl,rfl⟩,fH hh⟩)
 ·try simp only[decide_eq_true_eq,decide_eq_false_iff_not,Bool.not_eq_true',Bool.not_eq_false',Bool.or_eq_true,Bool.and_eq_true,Bool.and_eq_false_iff,Bool.or_eq_false_iff,beq_iff_eq,bne_iff_ne,beq_eq_false_iff_ne,bne_eq_false_iff_eq,ge_iff_le,gt_iff_lt,ne_eq] at h16
  refine aw (ac (ac (ab (kPf mf isAgg142 aa aa aa aa (kPm aa aa (kPv ((eR runUnderlying142 runUnderlying3 zeroValue171 aa aa).eq (vW _)) aa (kPm aa aa (kPv (az aa aa) aa (kPv (az aa aa) aa (kPb (aD zeroValue171 aa) aa fun b7=>(kPs (aA (vs:=[]) sizeOf171 aa aa aa aa aa) aa ?_)))))))))))
  refine kPa aa aa (ad (aj [8,6,0,1,2] rfl (ac (ab (kPm aa aa (kPv (bu aa) aa (kPm aa aa ?_)))))))
  apply dS (tp:=61) (t:=44) (σ1:=[(44,_),(6,_),(0,_),(1,_),(2,_)]) 17 rfl (aG rfl)
  ·intro hg2
   refine ao aa (al aa) (.on aa aa (ae hg2)) aa aa (ao aa (al aa) (.on aa aa (ae hg2)) aa aa (ao aa (aF aa) (.on aa aa (ae hg2)) aa aa (ao aa (aC (m:=_) mg aa aa) (.on aa aa (ae hg2)) aa aa (ao aa (aC (m:=_) zW aa aa) (.on aa aa (ae hg2)) aa aa (ao aa (ag isAgg3 aa aa) (.on aa aa (ae hg2)) aa aa (ao aa (am aa aa aa) (.on aa aa (ae hg2)) aa aa (ao aa (al aa) (.on aa aa (ae hg2)) aa aa ?_)))))))
   apply gJ (tp:=60) (t:=52) (σ1:=[(52,_),(44,_),(6,_),(0,_),(1,_),(2,_)]) 8 rfl (aG rfl)
   ·intro hg3
    refine ao aa (al aa) (.on aa aa (ae hg3)) aa aa (ao aa (al aa) (.on aa aa (ae hg3)) aa aa (ao aa (aF aa) (.on aa aa (ae hg3)) aa aa (ao aa (aC (m:=_) mg aa aa) (.on aa aa (ae hg3)) aa aa (ao aa (aC (m:=_) zV aa aa) (.on aa aa (ae hg3)) aa aa (ao aa (ag isAgg3 aa aa) (.on aa aa (ae hg3)) aa aa (ao aa (am aa aa aa) (.on aa aa (ae hg3)) aa aa (ao aa (aJ aa hg3 aa) (.on aa aa (ae hg2)) aa aa ?_)))))))
    exact bf aa (aG aa) (ga hg3)
   ·intro hg3
    refine ay aa (.on aa aa (ai hg3)) aa (ay aa (.on aa aa (ai hg3)) aa (ay aa (.on aa aa (ai hg3)) aa (ay aa (.on aa aa (ai hg3)) aa (ay aa (.on aa aa (ai hg3)) aa (ay aa (.on aa aa (ai hg3)) aa (ay aa (.on aa aa (ai hg3)) aa (ao aa (aB aa hg3 aa) (.on aa aa (ae hg2)) aa aa ?_)))))))
    exact bf aa (aG aa) (f9 hg3)
   refine kPv (aB aa hg2 aa) aa ?_
   exact bf aa (aG aa) (dj hg2)
  ·intro hg2
   refine ay aa (.on aa aa (ai hg2)) aa (ay aa (.on aa aa (ai hg2)) aa (ay aa (.on aa aa (ai hg2)) aa (ay aa (.on aa aa (ai hg2)) aa (ay aa (.on aa aa (ai hg2)) aa (ay aa (.on aa aa (ai hg2)) aa (ay aa (.on aa aa (ai hg2)) aa (ay aa (.on aa aa (ai hg2)) aa (ay aa (.und aa aa) aa (ay aa (.und aa aa) aa (ay aa (.und aa aa) aa (ay aa (.und aa aa) aa ?_)))))))))))
   refine ay aa (.und aa aa) aa (ay aa (.und aa aa) aa (ay aa (.und aa aa) aa (ay aa (.on aa aa (ai hg2)) aa (kPv (aJ aa hg2 aa) aa ?_))))
   exact bf aa (aG aa) (dl hg2)
  refine ad ?_
  refine aV aa (fun h61=> ?_) (fun h61=> ?_)
  ·try simp only[decide_eq_true_eq,decide_eq_false_iff_not,Bool.not_eq_true',Bool.not_eq_false',Bool.or_eq_true,Bool.and_eq_true,Bool.and_eq_false_iff,Bool.or_eq_false_iff,beq_iff_eq,bne_iff_ne,beq_eq_false_iff_ne,bne_eq_false_iff_eq,ge_iff_le,gt_iff_lt,ne_eq] at h61
   refine ac (ac (ab (aK (H':=dm bl S.L::ax S.L.d s::row b7 [] 171::dy b bl S true (some o1) (some o2)::bB .i64 cj o1 S.seen::bB .i64 cj o2 S.dirty::Fr) (fun w hh=>((hh.front 5 aa).front 3 aa)) (kPf ix isAgg141 aa aa aa aa (kPm aa aa ?_)))))
   refine aQ aa (ar call141 aa) (o8 _ _ bl S.L _ hL.L i) .free aa aa ?_ ?_
   rotate_left
   ·rintro _ _ ⟨s9,hm9,rfl,rfl⟩
    exact aX fun w hh=>⟨_,⟨s9,by simp[bD.store, *],rfl,rfl⟩,(((((hh.front 5 aa).front 5 aa).front 5 aa).front 5 aa).front 4 aa).tail.tail.tail.tail.tail⟩
   rintro _ _ ⟨a1,L1,s1,hm1,rfl,rfl⟩
   refine kPa aa aa (ad (aj [9,6,0,1,2] rfl (ac (ab (kPm aa aa (kPv (am aa aa aa) aa (ad ?_)))))))
   refine aV aa (fun h69=> ?_) (fun h69=> ?_)
   ·try simp only[decide_eq_true_eq,decide_eq_false_iff_not,Bool.not_eq_true',Bool.not_eq_false',Bool.or_eq_true,Bool.and_eq_true,Bool.and_eq_false_iff,Bool.or_eq_false_iff,beq_iff_eq,bne_iff_ne,beq_eq_false_iff_ne,bne_eq_false_iff_eq,ge_iff_le,gt_iff_lt,ne_eq] at h69
    refine ac (ab (kPm aa aa (kPa aa aa (ad (au ?_)))))
    exact aq results77 aa (fun w hh=>by
   have hd1:=mZ hm1
   obtain⟨d1,c1,e1,n1⟩:=L1
   obtain⟨hd2,hd3⟩:=hd1
   simp only at hd2 hd3
   subst hd2;subst hd3
   exact⟨_,⟨a1,{S with L:=⟨_,_,e1,n1⟩},_,by simp[bD.store, *],rfl,rfl⟩,fH ((((((hh.front 2 aa).tail.front 1 aa).front 4 aa).front 4 aa).front 3 aa).front 4 aa)⟩)
   ·try simp only[decide_eq_true_eq,decide_eq_false_iff_not,Bool.not_eq_true',Bool.not_eq_false',Bool.or_eq_true,Bool.and_eq_true,Bool.and_eq_false_iff,Bool.or_eq_false_iff,beq_iff_eq,bne_iff_ne,beq_eq_false_iff_ne,bne_eq_false_iff_eq,ge_iff_le,gt_iff_lt,ne_eq] at h69
    refine aw (ab (kPf mf isAgg142 aa aa aa aa (kPm aa aa (kPv (aR aa (nX)) aa (kPs (gz (u:=()) runUnderlying142 runUnderlying3 aa aa aa aa) aa (ad (aj [6,0,1,2] rfl (ac (ab (kPf kz isAgg53 aa aa aa aa (kPm aa aa ?_)))))))))))
    refine kPm aa aa ?_
    refine aQ aa (ar call104 aa) (cS (q:=ax) (fun Fr=>cI _ Fr _ _ _ _)) .free aa aa ?_ ?_
    rotate_left
    ·first
      | (rintro _ _ ⟨s9,⟨hm9,rfl⟩,rfl⟩;exact aX fun w hh=>⟨_,⟨s9,by simp[bD.store, *],rfl,rfl⟩,(((((hh.front 5 aa).front 5 aa).front 5 aa).front 5 aa).front 4 aa).tail.tail.tail.tail.tail⟩)
      | (rintro _ _ ⟨s9,⟨hm9,rfl⟩,rfl⟩;exact aX fun w hh=>⟨_,⟨s9,by simp[jt h16 hno,hm9],rfl,rfl⟩,(((((hh.front 4 aa).front 4 aa).front 4 aa).front 4 aa).front 4 aa).tail.tail.tail.tail.tail⟩)
    rintro _ _ ⟨s2,⟨e2,hm2,rfl⟩,rfl⟩
    refine ad (aj [6,0,1] rfl (ac (ab (kPf jf isAgg142 aa aa aa aa (kPm aa aa (kPv (ly aa aa (by decide) (Cz (by omega) (by omega))) aa (kPv (aR aa (nX)) aa (kPs (gz (u:=()) runUnderlying142 runUnderlying3 aa aa aa aa) aa (ad (aj [6] rfl (ac ?_)))))))))))
    refine ab (kPa aa aa (ad (au ?_)))
    exact aq results77 aa (fun w hh=>by
   have hd1:=mZ hm1
   obtain⟨d1,c1,e1,n1⟩:=L1
   obtain⟨hd2,hd3⟩:=hd1
   simp only at hd2 hd3
   subst hd2;subst hd3
   exact⟨_,⟨0,{S with L:=⟨_,_,e1,n1⟩,seen:=mset S.seen i (),dirty:=mset S.dirty (i / 8) ()},_,by simp[bD.store, *],rfl,rfl⟩,fH ((((((hh.front 2 aa).tail.front 1 aa).front 4 aa).front 4 aa).front 3 aa).front 4 aa)⟩)
  ·have hno:¬((bG S.seen i).isSome=false∧(i<S.ff∨S.ft≤i)):=by
    rintro⟨q1,q2⟩
    rw[q1] at h61
    simp at h61;omega
   refine aw (ac (ab (kPf kz isAgg53 aa aa aa aa (kPm aa aa (kPm aa aa ?_)))))
   refine aQ aa (ar call104 aa) (cS (q:=ax) (fun Fr=>cI _ Fr _ _ _ _)) .free aa aa ?_ ?_
   rotate_left
   ·first
     | (rintro _ _ ⟨s9,⟨hm9,rfl⟩,rfl⟩;exact aX fun w hh=>⟨_,⟨s9,by simp[bD.store, *],rfl,rfl⟩,(((((hh.front 5 aa).front 5 aa).front 5 aa).front 5 aa).front 4 aa).tail.tail.tail.tail.tail⟩)
     | (rintro _ _ ⟨s9,⟨hm9,rfl⟩,rfl⟩;exact aX fun w hh=>⟨_,⟨s9,by simp[jt h16 hno,hm9],rfl,rfl⟩,(((((hh.front 4 aa).front 4 aa).front 4 aa).front 4 aa).front 4 aa).tail.tail.tail.tail.tail⟩)
   rintro _ _ ⟨s3,⟨e3,hm3,rfl⟩,rfl⟩
   refine ad (aj [6,0,1] rfl (ac (ab (kPf jf isAgg142 aa aa aa aa (kPm aa aa (kPv (ly aa aa (by decide) (Cz (by omega) (by omega))) aa (kPv (aR aa (nX)) aa (kPs (gz (u:=()) runUnderlying142 runUnderlying3 aa aa aa aa) aa (ad (aj [6] rfl (ac ?_)))))))))))
   refine ab (kPa aa aa (ad (au ?_)))
   exact aq results77 aa (fun w hh=>⟨_,⟨0,{S with dirty:=mset S.dirty (i / 8) ()},_,by simp[jt h16 hno,hm3],rfl,rfl⟩,fH (((((hh.tail.front 4 aa).front 4 aa).front 4 aa).front 4 aa).front 4 aa)⟩)
theorem zH{B:World}{n:Nat}{D:List Deferred}{σ:Env}{sv:Value}{xs:List Int}{Fr:List HP}{K:Act→World→Prop}(h:∀ q cap,sv= .slice q xs.length cap→GO B n D σ (iC 0 (sv,xs)::Fr) K):GO B n D σ (iC 0 (sv,xs)::Fr) K:=fun a w st=>by
 rcases jI st.holds with ⟨e1,e2,_⟩ | ⟨bd,rest,e,_⟩
 ·exact h none 0 (by rw[e2,e1];rfl) a w st
 ·exact h _ _ e a w st
theorem Bq{B:World}{n:Nat}{D:List Deferred}{σ:Env}{q:Option Addr}{m cap k:Nat}{xs:List Int}{Fr:List HP}{K:Act→World→Prop}(hk:k<xs.length)(h:∀ bd rest,q=some ⟨bd,0,none⟩→m=xs.length→cap=m+rest.length→GO B n D σ (row bd (xs.map i64++rest) 3::Fr) K):GO B n D σ (iC 0 (.slice q m cap,xs)::Fr) K:=fun a w st=>by
 rcases jI st.holds with ⟨e1,e2,_⟩ | ⟨bd,rest,e,hh⟩
 ·subst e1;simp at hk
 ·injection e with e1 e2 e3
  exact h bd rest e1 e2 (by omega) a w ⟨st.toStA,hh⟩
theorem ni(B:World)(Fr:List HP)(b:Nat)(S:bD)(s:Dev)(hL:lF S)(hdl:S.dirty.length≤1000000):
 ∀ w,Holds B (gS b S::ax S.L.d s::Fr) w→Calls Tryz.prog 83 [ptr b].toArray w (Ret B (fun rv H'=>∃ S' s',S.commit s= .ok S' s'∧rv=i64 0∧H'=dV b S'::ax S.L.d s'::Fr) (fun c H'=>∃ s',S.commit s= .off s'∧c=dh∧H'=ax S.L.d s'::Fr)):=by
 refine ak func83 aa ntmps83 aa ?_
 have hl:=hL.L
 have hc:=hl.c
 have hc1:=hc.r1
 have hc2:=hc.r2
 have hc3:=hc.l1
 have hc4:=hc.l2
 have hact:=hc.act
 refine kt S.L.d fun hn1 hn2 hn3=>(l3 fun bl o1 o2=> ?_)
 have hks:∀ x∈cq (S.dirty.map Prod.fst),0≤x∧x≤1000000:=fun x hx=>by
  obtain⟨p,hp,rfl⟩:=List.mem_map.1 (List.mem_mergeSort.1 hx)
  exact hL.dirty p hp
 have hkl:(cq (S.dirty.map Prod.fst)).length≤1000000:=by rw[cq,List.length_mergeSort,List.length_map];exact hdl
 refine ac (ab (kPa aa aa (ad (ac (ac (ab (kPf dL isAgg4 aa aa aa aa (kPv (bu aa) aa (ad (bH aa (rfl) (aw ?_)))))))))))
 refine ac (ac (ab (kPf jf isAgg142 aa aa aa aa (aE aa (ar call146 aa) (zh _ _ _) .free aa aa ?_))))
 rintro _ _ ⟨bb,rfl,rfl⟩
 refine aK (H':=row bb [.map (some o2)] 142::bB .i64 cj o2 S.dirty::dy b bl S true (some o1) (some o2)::dm bl S.L::bB .i64 cj o1 S.seen::ax S.L.d s::Fr) (fun w hh=>((hh.front 4 aa).front 1 aa)) (aE aa (ar call145 aa) (xc _ _ _ _ _ hdl) .free aa aa ?_)
 rintro sv _ rfl
 refine zH fun q cap hq=> ?_
 subst hq
 refine kPv (bS aa runUnderlying59 ⟨_,rfl⟩ rfl) aa (kPm aa aa (ad (aj [17,16,15,2,0] rfl (aI (dF (ι:=Nat×Dev) (fun i=>i.1≤(cq (S.dirty.map Prod.fst)).length∧dK (cq (S.dirty.map Prod.fst)) s=dK ((cq (S.dirty.map Prod.fst)).drop i.1) i.2) (fun i=>[(0,ptr b),(2,i64 0),(15,.slice q (cq (S.dirty.map Prod.fst)).length cap),(16,i64 (cq (S.dirty.map Prod.fst)).length),(17,i64 i.1)]) (fun i=>iC 0 (.slice q (cq (S.dirty.map Prod.fst)).length cap,cq (S.dirty.map Prod.fst))::bB .i64 cj o2 S.dirty::dy b bl S true (some o1) (some o2)::dm bl S.L::bB .i64 cj o1 S.seen::ax S.L.d i.2::Fr) (fun i=>(cq (S.dirty.map Prod.fst)).length - i.1) (0,s) ⟨Nat.zero_le _,by simp⟩ (fun a w st=>st.to ⟨rfl,rfl,rfl,rfl,rfl,trivial⟩ id) ?_)))))
 rintro⟨k,s1⟩ ⟨hk1,hk2⟩
 simp only at hk1 hk2 ⊢
 refine ac (ab (kPv (am aa aa aa) aa (ad (ac ?_))))
 refine aV aa (fun h18=> ?_) (fun h18=> ?_)
 ·have hkn:k<(cq (S.dirty.map Prod.fst)).length:=by simpa using h18
  have hkb:=hks _ (List.getElem_mem hkn)
  refine aw (ac (aI (ac (ab (Bq (k:=k) hkn fun bd rest hq hm hcap=> ?_)))))
  subst hq
  refine kPv (cC runUnderlying59 sizeOf3 aa aa (by omega) (by omega)) aa ?_
  refine kPv (ag (v:=i64 (cq (S.dirty.map Prod.fst))[k]) isAgg3 aa (by rw[Nat.zero_add,Int.toNat_natCast,List.getElem?_append_left (by rw[List.length_map];exact hkn),List.getElem?_map,List.getElem?_eq_getElem hkn];rfl)) aa ?_
  refine kPa aa aa (ad (ab (kPf kz isAgg53 aa aa aa aa (kPm aa aa (kPv (mi aa aa) aa ?_)))))
  refine aQ aa (ar call105 aa) (cS (q:=ax) (fun Fr=>dJ _ Fr _ _ _)) .free aa aa ?_ ?_
  rotate_left
  ·rintro _ _ ⟨s9,⟨hm9,rfl⟩,rfl⟩
   exact aX fun w hh=>⟨_,⟨s9,by unfold bD.commit;rw[hk2,List.drop_eq_getElem_cons hkn];simp only[dK];rw[hm9];rfl,rfl,rfl⟩,(((((hh.front 4 aa).front 4 aa).front 4 aa).front 4 aa).front 4 aa).tail.tail.tail.tail.tail⟩
  rintro _ _ ⟨s1',⟨e1,hm1,rfl⟩,rfl⟩
  refine ad (aj [17,16,15,2,0] rfl (ab (kPv (aP aa aa) aa (kPm aa aa (ad ?_)))))
  exact fun a w st=>⟨(k+1,s1'),⟨by simp only;omega,by simp only;rw[hk2,List.drop_eq_getElem_cons hkn];simp only[dK];rw[hm1];rfl⟩,by simp only;omega,st.to ⟨rfl,rfl,rfl,rfl,rfl,trivial⟩ (fun hh=>pN hm hcap hh)⟩
 ·have hkn:¬k<(cq (S.dirty.map Prod.fst)).length:=by simpa using h18
  have hfl:dK (cq (S.dirty.map Prod.fst)) s= .ok () s1:=by
   rw[hk2,List.drop_eq_nil_of_le (by omega)];rfl
  refine bJ (ac (ac (ab (kPf jf isAgg142 aa aa aa aa (kPv (wI aa runUnderlying142 aa) aa (kPv (am aa aa aa) aa (ad (aj [34,2,0] rfl ?_))))))))
  refine aV aa (fun h34=> ?_) (fun h34=> ?_)
  ·try simp only[decide_eq_true_eq,decide_eq_false_iff_not,Bool.not_eq_true',Bool.not_eq_false',Bool.or_eq_true,Bool.and_eq_true,Bool.and_eq_false_iff,Bool.or_eq_false_iff,beq_iff_eq,bne_iff_ne,beq_eq_false_iff_ne,bne_eq_false_iff_eq,ge_iff_le,gt_iff_lt,ne_eq] at h34
   refine ab (kPf kz isAgg53 aa aa aa aa ?_)
   refine aQ aa (ar call106 aa) (cS (q:=ax) (fun Fr=>eW _ Fr _ _)) .free aa aa ?_ ?_
   rotate_left
   ·rintro _ _ ⟨s9,⟨hm9,rfl⟩,rfl⟩
    exact aX fun w hh=>⟨_,⟨s9,by unfold bD.commit;rw[hfl,aU,if_pos (by omega),hm9];rfl,rfl,rfl⟩,(((((hh.front 4 aa).front 4 aa).front 4 aa).front 4 aa).front 4 aa).tail.tail.tail.tail.tail⟩
   rintro _ _ ⟨s4,⟨e4,hm4,rfl⟩,rfl⟩
   refine ad (ac (ab (aK (H':=dm bl S.L::ax S.L.d _::iC 0 (.slice q (cq (S.dirty.map Prod.fst)).length cap,cq (S.dirty.map Prod.fst))::bB .i64 cj o2 S.dirty::dy b bl S true (some o1) (some o2)::bB .i64 cj o1 S.seen::Fr) (fun w hh=>((hh.front 5 aa).front 4 aa)) (kPf ix isAgg141 aa aa aa aa ?_))))
   refine aQ aa (ar call147 aa) (kR _ _ bl S.L _ hL.L) .free aa aa ?_ ?_
   rotate_left
   ·rintro _ _ ⟨s9,hm9,rfl,rfl⟩
    exact aX fun w hh=>⟨_,⟨s9,by unfold bD.commit;rw[hfl];first | (rw[aU,if_pos (by omega),hm4,aU,hm9];rfl) | (rw[aU,if_neg (by omega),aU,hm9];rfl),rfl,rfl⟩,(((((hh.front 5 aa).front 5 aa).front 5 aa).front 5 aa).front 4 aa).tail.tail.tail.tail.tail⟩
   rintro _ _ ⟨L5,s5,hm5,rfl,rfl⟩
   refine ad (aj [2,0] rfl (ac (ab (kPm aa aa (kPv (aF aa) aa (kPv (aC (m:=_) dL aa aa) aa (kPs (aO sizeOf4 aa aa aa aa) aa (ad (ac (ab (kPa aa aa ?_)))))))))))
   refine ad (au ?_)
   exact aq results83 aa (fun w hh=>by
   have hd1:=rb hm5
   obtain⟨d1,c1,e1,n1⟩:=L5
   obtain⟨hd2,hd3⟩:=hd1
   simp only at hd2 hd3
   subst hd2;subst hd3
   exact⟨_,⟨{S with L:=⟨_,_,e1,n1⟩},_,by unfold bD.commit;rw[hfl,aU,if_pos (by omega),hm4,aU,hm5];rfl,rfl,rfl⟩,dN ((((((hh.front 5 aa).front 4 aa).front 4 aa).tail.tail.tail.front 1 aa).front 1 aa).front 2 aa)⟩)
  ·try simp only[decide_eq_true_eq,decide_eq_false_iff_not,Bool.not_eq_true',Bool.not_eq_false',Bool.or_eq_true,Bool.and_eq_true,Bool.and_eq_false_iff,Bool.or_eq_false_iff,beq_iff_eq,bne_iff_ne,beq_eq_false_iff_ne,bne_eq_false_iff_eq,ge_iff_le,gt_iff_lt,ne_eq] at h34
   refine aw (ac (ab (aK (H':=dm bl S.L::ax S.L.d _::iC 0 (.slice q (cq (S.dirty.map Prod.fst)).length cap,cq (S.dirty.map Prod.fst))::bB .i64 cj o2 S.dirty::dy b bl S true (some o1) (some o2)::bB .i64 cj o1 S.seen::Fr) (fun w hh=>((hh.front 5 aa).front 4 aa)) (kPf ix isAgg141 aa aa aa aa ?_))))
   refine aQ aa (ar call147 aa) (kR _ _ bl S.L _ hL.L) .free aa aa ?_ ?_
   rotate_left
   ·rintro _ _ ⟨s9,hm9,rfl,rfl⟩
    exact aX fun w hh=>⟨_,⟨s9,by unfold bD.commit;rw[hfl];first | (rw[aU,if_pos (by omega),hm4,aU,hm9];rfl) | (rw[aU,if_neg (by omega),aU,hm9];rfl),rfl,rfl⟩,(((((hh.front 5 aa).front 5 aa).front 5 aa).front 5 aa).front 4 aa).tail.tail.tail.tail.tail⟩
   rintro _ _ ⟨L5,s5,hm5,rfl,rfl⟩
   refine ad (ac (ab (kPm aa aa (kPv (aF aa) aa (kPv (aC (m:=_) dL aa aa) aa (kPs (aO sizeOf4 aa aa aa aa) aa (ad (aj [2] rfl (ac (ab (kPa aa aa ?_)))))))))))
   refine ad (au ?_)
   exact aq results83 aa (fun w hh=>by
   have hd1:=rb hm5
   obtain⟨d1,c1,e1,n1⟩:=L5
   obtain⟨hd2,hd3⟩:=hd1
   simp only at hd2 hd3
   subst hd2;subst hd3
   exact⟨_,⟨{S with L:=⟨_,_,e1,n1⟩},_,by unfold bD.commit;rw[hfl,aU,if_neg (by omega),aU,hm5];rfl,rfl,rfl⟩,dN ((((((hh.front 5 aa).front 4 aa).front 4 aa).tail.tail.tail.front 1 aa).front 1 aa).front 2 aa)⟩)
theorem jx(B:World)(Fr:List HP)(b:Nat)(S:bD)(f t:Int):
 ∀ w,Holds B (dV b S::Fr) w→Calls Tryz.prog 74 [ptr b,.agg #[i64 f,i64 t]].toArray w (Ret B (fun rv H'=>rv=i64 0∧H'=gS b {S with ff:=f,ft:=t,seen:=[],dirty:=[]}::Fr) (fun _ _=>False)):=by
 refine ak func74 aa ntmps74 aa (jJ fun bl o1 o2=>(ac (ab (kPb (aY aa) aa fun b3=>(kPa aa aa (ad (ac (ac (ab (kPf dL isAgg4 aa aa aa aa (ad ?_)))))))))))
 refine bH aa (rfl) (aw (ac (aK (H':=row b3 [i64 f,i64 t] 129::dy b bl S false o1 o2::dm bl S.L::pr True::pr True::Fr) (fun w hh=>(((hh.unpr trivial).unpr trivial).front 4 aa |>.front 4 aa |>.front 4 aa)) (cE (σ':=[(0,ptr b),(3,ptr b3)]) ⟨rfl,rfl,trivial⟩ ?_))))
 refine zK (G:=Nat×Nat) [0,3] (fun g i=>match i with | 0=>ptr b | 1=>ptr b | 2=>ptr b | 3=>ptr b | 4=> .agg #[i64 f,i64 t] | 5=> .map (some g.1) | 6=> .map (some g.2) | 7=> .pointer (some ⟨b,0,none⟩) | 8=> .pointer (some ⟨b,5,none⟩) | 10=> .pointer (some ⟨b,0,none⟩) | 11=> .pointer (some ⟨b,6,none⟩) | 13=> .pointer (some ⟨b,0,none⟩) | 14=> .pointer (some ⟨b,8,none⟩) | 16=> .pointer (some ⟨b,0,none⟩) | 17=> .pointer (some ⟨b,9,none⟩) | _=>undef) (fun L g=>row b3 [i64 f,i64 t] 129::row b [ptr bl,ptr S.L.d,i64 S.L.c.log,i64 S.L.c.roots,i64 S.L.c.space,.bool (L.getD 9 false),i64 (if (L.getD 12 false)=true then f else S.ff),i64 (if (L.getD 12 false)=true then t else S.ft),.map (if (L.getD 15 false)=true then some g.1 else o1),.map (if (L.getD 18 false)=true then some g.2 else o2)] 144::dm bl S.L::(if (L.getD 5 false)=true then bB .i64 cj g.1 [] else pr True)::(if (L.getD 6 false)=true then bB .i64 cj g.2 [] else pr True)::Fr) (0,0) (fun g=>[(0,ptr b)]) (fun g=>row b3 [i64 f,i64 t] 129::dy b bl {S with ff:=f,ft:=t} true (some g.1) (some g.2)::dm bl S.L::bB .i64 cj g.1 []::bB .i64 cj g.2 []::Fr) Tryz.mixed (by kernel_rfl) (fun t v h=>o5 h) aa ?_ ?_ ?_
 ·intro i o ho L g hsz hun hcl hdep a hk hd w hw
  have hi:i<19:=(Array.getElem?_eq_some_iff.1 ho).1
  have hL:L.size=19:=hsz
  obtain rfl | rfl | rfl | rfl | rfl | rfl | rfl | rfl | rfl | rfl | rfl | rfl | rfl | rfl | rfl | rfl | rfl | rfl | rfl:i=0∨i=1∨i=2∨i=3∨i=4∨i=5∨i=6∨i=7∨i=8∨i=9∨i=10∨i=11∨i=12∨i=13∨i=14∨i=15∨i=16∨i=17∨i=18:=by omega
  ·obtain rfl:=Option.some.inj (show some _=some o from ho)
   exact dz (v:=ptr b) (by first | exact al rfl | exact Evs.eq (al rfl) rfl) hk hw ⟨g,fun _=>rfl,fun _ _ _=>rfl,by simpa (disch:=decide) only[getD_set_ne] using hw⟩
  ·obtain rfl:=Option.some.inj (show some _=some o from ho)
   exact dz (v:=ptr b) (by first | exact al rfl | exact Evs.eq (al rfl) rfl) hk hw ⟨g,fun _=>rfl,fun _ _ _=>rfl,by simpa (disch:=decide) only[getD_set_ne] using hw⟩
  ·obtain rfl:=Option.some.inj (show some _=some o from ho)
   exact dz (v:=ptr b) (by first | exact al rfl | exact Evs.eq (al rfl) rfl) hk hw ⟨g,fun _=>rfl,fun _ _ _=>rfl,by simpa (disch:=decide) only[getD_set_ne] using hw⟩
  ·obtain rfl:=Option.some.inj (show some _=some o from ho)
   exact dz (v:=ptr b) (by first | exact al rfl | exact Evs.eq (al rfl) rfl) hk hw ⟨g,fun _=>rfl,fun _ _ _=>rfl,by simpa (disch:=decide) only[getD_set_ne] using hw⟩
  ·obtain rfl:=Option.some.inj (show some _=some o from ho)
   exact dz (v:= .agg #[i64 f,i64 t]) (by first | exact ah isAgg129 sizeOf129 rfl rfl | exact Evs.eq (ah isAgg129 sizeOf129 rfl rfl) rfl) hk hw ⟨g,fun _=>rfl,fun _ _ _=>rfl,by simpa (disch:=decide) only[getD_set_ne] using hw⟩
  ·obtain rfl:=Option.some.inj (show some _=some o from ho)
   have hk':=hk
   have hun':L.getD 5 false=false:=getD_both hun
   have n15:L.getD 15 false=false:=by
    cases h:L.getD 15 false with
    | false=>rfl
    | true=>have h2:=hcl 15 _ rfl h ⟨5,.data⟩ (by simp) rfl;rw[hun'] at h2;cases h2
   refine jQ (dP .i64 cj) hk' hw ?_
   rintro v H' ⟨bn,rfl,rfl⟩ w' hw'
   refine⟨(bn,g.2),fun _=>rfl,fun j hj hl=> ?_,?_⟩
   ·match j with
    | 5=>exact absurd aa hj
    | 0 | 1 | 2 | 3 | 4 | 6 | 7 | 8 | 10 | 11 | 13 | 14 | 16 | 17=>rfl
    | 9 | 12 | 15 | 18 | _+19=>rfl
   ·simp only[getD_set_ne false (show(5:Nat)≠6 by decide),getD_set_ne false (show(5:Nat)≠9 by decide),getD_set_ne false (show(5:Nat)≠12 by decide),getD_set_ne false (show(5:Nat)≠15 by decide),getD_set_ne false (show(5:Nat)≠18 by decide),dW (show 5<L.size by omega)]
    simp only[hun',n15] at hw' ⊢
    exact(((hw'.front 4 aa).tail).front 3 aa |>.front 3 aa |>.front 3 aa)
  ·obtain rfl:=Option.some.inj (show some _=some o from ho)
   have hk':=hk
   have hun':L.getD 6 false=false:=getD_both hun
   have n18:L.getD 18 false=false:=by
    cases h:L.getD 18 false with
    | false=>rfl
    | true=>have h2:=hcl 18 _ rfl h ⟨6,.data⟩ (by simp) rfl;rw[hun'] at h2;cases h2
   refine jQ (dP .i64 cj) hk' hw ?_
   rintro v H' ⟨bn,rfl,rfl⟩ w' hw'
   refine⟨(g.1,bn),fun _=>rfl,fun j hj hl=> ?_,?_⟩
   ·match j with
    | 6=>exact absurd aa hj
    | 0 | 1 | 2 | 3 | 4 | 5 | 7 | 8 | 10 | 11 | 13 | 14 | 16 | 17=>rfl
    | 9 | 12 | 15 | 18 | _+19=>rfl
   ·simp only[getD_set_ne false (show(6:Nat)≠5 by decide),getD_set_ne false (show(6:Nat)≠9 by decide),getD_set_ne false (show(6:Nat)≠12 by decide),getD_set_ne false (show(6:Nat)≠15 by decide),getD_set_ne false (show(6:Nat)≠18 by decide),dW (show 6<L.size by omega)]
    simp only[hun',n18] at hw' ⊢
    exact(((hw'.front 5 aa).tail).front 4 aa |>.front 4 aa |>.front 4 aa |>.front 4 aa)
  ·obtain rfl:=Option.some.inj (show some _=some o from ho)
   have d0_data:L.getD 0 false=true:=hdep ⟨0,.data⟩ (by simp) rfl
   have d0:=d0_data
   have d0_phase:L.getD 0 false=true:=hdep ⟨0,.phase⟩ (by simp) rfl
   have d0:=d0_phase
   have v0:a.tmps[9]? =some (ptr b):=hd 0 _ 9 rfl rfl d0
   exact dz (v:= .pointer (some ⟨b,0,none⟩)) (by first | exact aF rfl | exact Evs.eq (aF rfl) rfl) (bR v0 hk) hw ⟨g,fun _=>rfl,fun _ _ _=>rfl,by simpa (disch:=decide) only[getD_set_ne] using hw⟩
  ·obtain rfl:=Option.some.inj (show some _=some o from ho)
   have d7_data:L.getD 7 false=true:=hdep ⟨7,.data⟩ (by simp) rfl
   have d7:=d7_data
   have v7:a.tmps[16]? =some (.pointer (some ⟨b,0,none⟩)):=hd 7 _ 16 rfl rfl d7
   exact dz (v:= .pointer (some ⟨b,5,none⟩)) (by first | exact aC (m:=_) dL aa aa | exact Evs.eq (aC (m:=_) dL aa aa) aa) (bR v7 hk) hw ⟨g,fun _=>rfl,fun _ _ _=>rfl,by simpa (disch:=decide) only[getD_set_ne] using hw⟩
  ·obtain rfl:=Option.some.inj (show some _=some o from ho)
   have d8_data:L.getD 8 false=true:=hdep ⟨8,.data⟩ (by simp) rfl
   have d8:=d8_data
   have v8:a.tmps[17]? =some (.pointer (some ⟨b,5,none⟩)):=hd 8 _ 17 rfl rfl d8
   have hk':=(bR v8 hk)
   have hun':L.getD 9 false=false:=getD_both hun
   refine jQ (aO sizeOf4 aa aa aa aa) hk' hw ?_
   rintro v H' rfl w' hw'
   refine⟨g,fun h=>absurd aa h,fun _ _ _=>rfl,?_⟩
   simp only[getD_set_ne false (show(9:Nat)≠5 by decide),getD_set_ne false (show(9:Nat)≠6 by decide),getD_set_ne false (show(9:Nat)≠12 by decide),getD_set_ne false (show(9:Nat)≠15 by decide),getD_set_ne false (show(9:Nat)≠18 by decide),dW (show 9<L.size by omega)]
   simp only[hun',if_true] at hw' ⊢
   exact hw'
  ·obtain rfl:=Option.some.inj (show some _=some o from ho)
   have d1_data:L.getD 1 false=true:=hdep ⟨1,.data⟩ (by simp) rfl
   have d1:=d1_data
   have d1_phase:L.getD 1 false=true:=hdep ⟨1,.phase⟩ (by simp) rfl
   have d1:=d1_phase
   have d9_phase:L.getD 9 false=true:=hdep ⟨9,.phase⟩ (by simp) rfl
   have d9:=d9_phase
   have v1:a.tmps[10]? =some (ptr b):=hd 1 _ 10 rfl rfl d1
   exact dz (v:= .pointer (some ⟨b,0,none⟩)) (by first | exact aF rfl | exact Evs.eq (aF rfl) rfl) (bR v1 hk) hw ⟨g,fun _=>rfl,fun _ _ _=>rfl,by simpa (disch:=decide) only[getD_set_ne] using hw⟩
  ·obtain rfl:=Option.some.inj (show some _=some o from ho)
   have d10_data:L.getD 10 false=true:=hdep ⟨10,.data⟩ (by simp) rfl
   have d10:=d10_data
   have d9_phase:L.getD 9 false=true:=hdep ⟨9,.phase⟩ (by simp) rfl
   have d9:=d9_phase
   have v10:a.tmps[18]? =some (.pointer (some ⟨b,0,none⟩)):=hd 10 _ 18 rfl rfl d10
   exact dz (v:= .pointer (some ⟨b,6,none⟩)) (by first | exact aC (m:=_) mg aa aa | exact Evs.eq (aC (m:=_) mg aa aa) aa) (bR v10 hk) hw ⟨g,fun _=>rfl,fun _ _ _=>rfl,by simpa (disch:=decide) only[getD_set_ne] using hw⟩
  ·obtain rfl:=Option.some.inj (show some _=some o from ho)
   have d11_data:L.getD 11 false=true:=hdep ⟨11,.data⟩ (by simp) rfl
   have d11:=d11_data
   have d4_data:L.getD 4 false=true:=hdep ⟨4,.data⟩ (by simp) rfl
   have d4:=d4_data
   have d9_chain:L.getD 9 false=true:=hdep ⟨9,.chain⟩ (by simp) rfl
   have d9:=d9_chain
   have d4_phase:L.getD 4 false=true:=hdep ⟨4,.phase⟩ (by simp) rfl
   have d4:=d4_phase
   have d9_phase:L.getD 9 false=true:=hdep ⟨9,.phase⟩ (by simp) rfl
   have d9:=d9_phase
   have v4:a.tmps[13]? =some (.agg #[i64 f,i64 t]):=hd 4 _ 13 rfl rfl d4
   have v11:a.tmps[19]? =some (.pointer (some ⟨b,6,none⟩)):=hd 11 _ 19 rfl rfl d11
   have hk':=(bR v11 (bR v4 hk))
   have hun':L.getD 12 false=false:=getD_both hun
   refine jQ (aA (vs:=[i64 f,i64 t]) sizeOf129 aa aa aa aa aa) hk' hw ?_
   rintro v H' rfl w' hw'
   refine⟨g,fun h=>absurd aa h,fun _ _ _=>rfl,?_⟩
   simp only[getD_set_ne false (show(12:Nat)≠5 by decide),getD_set_ne false (show(12:Nat)≠6 by decide),getD_set_ne false (show(12:Nat)≠9 by decide),getD_set_ne false (show(12:Nat)≠15 by decide),getD_set_ne false (show(12:Nat)≠18 by decide),dW (show 12<L.size by omega)]
   simp only[hun',if_true] at hw' ⊢
   exact hw'
  ·obtain rfl:=Option.some.inj (show some _=some o from ho)
   have d2_data:L.getD 2 false=true:=hdep ⟨2,.data⟩ (by simp) rfl
   have d2:=d2_data
   have d2_phase:L.getD 2 false=true:=hdep ⟨2,.phase⟩ (by simp) rfl
   have d2:=d2_phase
   have d5_phase:L.getD 5 false=true:=hdep ⟨5,.phase⟩ (by simp) rfl
   have d5:=d5_phase
   have d9_phase:L.getD 9 false=true:=hdep ⟨9,.phase⟩ (by simp) rfl
   have d9:=d9_phase
   have d12_phase:L.getD 12 false=true:=hdep ⟨12,.phase⟩ (by simp) rfl
   have d12:=d12_phase
   have v2:a.tmps[11]? =some (ptr b):=hd 2 _ 11 rfl rfl d2
   exact dz (v:= .pointer (some ⟨b,0,none⟩)) (by first | exact aF rfl | exact Evs.eq (aF rfl) rfl) (bR v2 hk) hw ⟨g,fun _=>rfl,fun _ _ _=>rfl,by simpa (disch:=decide) only[getD_set_ne] using hw⟩
  ·obtain rfl:=Option.some.inj (show some _=some o from ho)
   have d13_data:L.getD 13 false=true:=hdep ⟨13,.data⟩ (by simp) rfl
   have d13:=d13_data
   have d5_phase:L.getD 5 false=true:=hdep ⟨5,.phase⟩ (by simp) rfl
   have d5:=d5_phase
   have d9_phase:L.getD 9 false=true:=hdep ⟨9,.phase⟩ (by simp) rfl
   have d9:=d9_phase
   have d12_phase:L.getD 12 false=true:=hdep ⟨12,.phase⟩ (by simp) rfl
   have d12:=d12_phase
   have v13:a.tmps[20]? =some (.pointer (some ⟨b,0,none⟩)):=hd 13 _ 20 rfl rfl d13
   exact dz (v:= .pointer (some ⟨b,8,none⟩)) (by first | exact aC (m:=_) mf aa aa | exact Evs.eq (aC (m:=_) mf aa aa) aa) (bR v13 hk) hw ⟨g,fun _=>rfl,fun _ _ _=>rfl,by simpa (disch:=decide) only[getD_set_ne] using hw⟩
  ·obtain rfl:=Option.some.inj (show some _=some o from ho)
   have d14_data:L.getD 14 false=true:=hdep ⟨14,.data⟩ (by simp) rfl
   have d14:=d14_data
   have d5_data:L.getD 5 false=true:=hdep ⟨5,.data⟩ (by simp) rfl
   have d5:=d5_data
   have d12_chain:L.getD 12 false=true:=hdep ⟨12,.chain⟩ (by simp) rfl
   have d12:=d12_chain
   have d5_phase:L.getD 5 false=true:=hdep ⟨5,.phase⟩ (by simp) rfl
   have d5:=d5_phase
   have d9_phase:L.getD 9 false=true:=hdep ⟨9,.phase⟩ (by simp) rfl
   have d9:=d9_phase
   have d12_phase:L.getD 12 false=true:=hdep ⟨12,.phase⟩ (by simp) rfl
   have d12:=d12_phase
   have v5:a.tmps[14]? =some (.map (some g.1)):=hd 5 _ 14 rfl rfl d5
   have v14:a.tmps[21]? =some (.pointer (some ⟨b,8,none⟩)):=hd 14 _ 21 rfl rfl d14
   have hk':=(bR v14 (bR v5 hk))
   have hun':L.getD 15 false=false:=getD_both hun
   refine jQ (aO sizeOf142 aa aa aa aa) hk' hw ?_
   rintro v H' rfl w' hw'
   refine⟨g,fun h=>absurd aa h,fun _ _ _=>rfl,?_⟩
   simp only[getD_set_ne false (show(15:Nat)≠5 by decide),getD_set_ne false (show(15:Nat)≠6 by decide),getD_set_ne false (show(15:Nat)≠9 by decide),getD_set_ne false (show(15:Nat)≠12 by decide),getD_set_ne false (show(15:Nat)≠18 by decide),dW (show 15<L.size by omega)]
   simp only[hun',if_true] at hw' ⊢
   exact hw'
  ·obtain rfl:=Option.some.inj (show some _=some o from ho)
   have d3_data:L.getD 3 false=true:=hdep ⟨3,.data⟩ (by simp) rfl
   have d3:=d3_data
   have d3_phase:L.getD 3 false=true:=hdep ⟨3,.phase⟩ (by simp) rfl
   have d3:=d3_phase
   have d5_phase:L.getD 5 false=true:=hdep ⟨5,.phase⟩ (by simp) rfl
   have d5:=d5_phase
   have d6_phase:L.getD 6 false=true:=hdep ⟨6,.phase⟩ (by simp) rfl
   have d6:=d6_phase
   have d9_phase:L.getD 9 false=true:=hdep ⟨9,.phase⟩ (by simp) rfl
   have d9:=d9_phase
   have d12_phase:L.getD 12 false=true:=hdep ⟨12,.phase⟩ (by simp) rfl
   have d12:=d12_phase
   have d15_phase:L.getD 15 false=true:=hdep ⟨15,.phase⟩ (by simp) rfl
   have d15:=d15_phase
   have v3:a.tmps[12]? =some (ptr b):=hd 3 _ 12 rfl rfl d3
   exact dz (v:= .pointer (some ⟨b,0,none⟩)) (by first | exact aF rfl | exact Evs.eq (aF rfl) rfl) (bR v3 hk) hw ⟨g,fun _=>rfl,fun _ _ _=>rfl,by simpa (disch:=decide) only[getD_set_ne] using hw⟩
  ·obtain rfl:=Option.some.inj (show some _=some o from ho)
   have d16_data:L.getD 16 false=true:=hdep ⟨16,.data⟩ (by simp) rfl
   have d16:=d16_data
   have d5_phase:L.getD 5 false=true:=hdep ⟨5,.phase⟩ (by simp) rfl
   have d5:=d5_phase
   have d6_phase:L.getD 6 false=true:=hdep ⟨6,.phase⟩ (by simp) rfl
   have d6:=d6_phase
   have d9_phase:L.getD 9 false=true:=hdep ⟨9,.phase⟩ (by simp) rfl
   have d9:=d9_phase
   have d12_phase:L.getD 12 false=true:=hdep ⟨12,.phase⟩ (by simp) rfl
   have d12:=d12_phase
   have d15_phase:L.getD 15 false=true:=hdep ⟨15,.phase⟩ (by simp) rfl
   have d15:=d15_phase
   have v16:a.tmps[22]? =some (.pointer (some ⟨b,0,none⟩)):=hd 16 _ 22 rfl rfl d16
   exact dz (v:= .pointer (some ⟨b,9,none⟩)) (by first | exact aC (m:=_) jf aa aa | exact Evs.eq (aC (m:=_) jf aa aa) aa) (bR v16 hk) hw ⟨g,fun _=>rfl,fun _ _ _=>rfl,by simpa (disch:=decide) only[getD_set_ne] using hw⟩
  ·obtain rfl:=Option.some.inj (show some _=some o from ho)
   have d17_data:L.getD 17 false=true:=hdep ⟨17,.data⟩ (by simp) rfl
   have d17:=d17_data
   have d6_data:L.getD 6 false=true:=hdep ⟨6,.data⟩ (by simp) rfl
   have d6:=d6_data
   have d15_chain:L.getD 15 false=true:=hdep ⟨15,.chain⟩ (by simp) rfl
   have d15:=d15_chain
   have d5_phase:L.getD 5 false=true:=hdep ⟨5,.phase⟩ (by simp) rfl
   have d5:=d5_phase
   have d6_phase:L.getD 6 false=true:=hdep ⟨6,.phase⟩ (by simp) rfl
   have d6:=d6_phase
   have d9_phase:L.getD 9 false=true:=hdep ⟨9,.phase⟩ (by simp) rfl
   have d9:=d9_phase
   have d12_phase:L.getD 12 false=true:=hdep ⟨12,.phase⟩ (by simp) rfl
   have d12:=d12_phase
   have d15_phase:L.getD 15 false=true:=hdep ⟨15,.phase⟩ (by simp) rfl
   have d15:=d15_phase
   have v6:a.tmps[15]? =some (.map (some g.2)):=hd 6 _ 15 rfl rfl d6
   have v17:a.tmps[23]? =some (.pointer (some ⟨b,9,none⟩)):=hd 17 _ 23 rfl rfl d17
   have hk':=(bR v17 (bR v6 hk))
   have hun':L.getD 18 false=false:=getD_both hun
   refine jQ (aO sizeOf142 aa aa aa aa) hk' hw ?_
   rintro v H' rfl w' hw'
   refine⟨g,fun h=>absurd aa h,fun _ _ _=>rfl,?_⟩
   simp only[getD_set_ne false (show(18:Nat)≠5 by decide),getD_set_ne false (show(18:Nat)≠6 by decide),getD_set_ne false (show(18:Nat)≠9 by decide),getD_set_ne false (show(18:Nat)≠12 by decide),getD_set_ne false (show(18:Nat)≠15 by decide),dW (show 18<L.size by omega)]
   simp only[hun',if_true] at hw' ⊢
   exact hw'
 ·intro L g hall a w hk hd hw
  have h5:=hall 5 (by decide)
  have h6:=hall 6 (by decide)
  have h9:=hall 9 (by decide)
  have h12:=hall 12 (by decide)
  have h15:=hall 15 (by decide)
  have h18:=hall 18 (by decide)
  simp only[h5,h6,h9,h12,h15,h18,if_true] at hw
  exact⟨fun u x e=>hk u x (by simp only[look] at e ⊢;cases hb:Nat.beq 0 u<;>simp_all),hw⟩
 intro g
 refine ac (ab (kPa aa aa (ad (aj [4] rfl (au ?_)))))
 exact aq results74 aa (fun w hh=>⟨_,⟨rfl,rfl⟩,fH (S:={S with ff:=f,ft:=t,seen:=[],dirty:=[]}) hh.tail⟩)
theorem AM{L L':bT}{s s':Dev}(h:L.undo s= .ok L' s'):L'.d=L.d∧L'.c=L.c:=by
 unfold bT.undo at h
 cases h1:kZ jU L.c L.n.toNat s with
 | off s1=>rw[h1] at h;cases h
 | ok u s1=>
   rw[h1,aU] at h
   cases h2:(if 0<L.n then s1.fence else Out.ok () s1) with
   | off s2=>rw[h2] at h;cases h
   | ok u s2=>rw[h2,aU] at h;exact rb h
theorem lr(B:World)(Fr:List HP)(b:Nat)(S:bD)(s:Dev)(hL:lF S):
 ∀ w,Holds B (gS b S::ax S.L.d s::Fr) w→Calls Tryz.prog 95 [ptr b].toArray w (Ret B (fun rv H'=>∃ S' s',S.abort s= .ok S' s'∧rv=i64 0∧H'=dV b S'::ax S.L.d s'::Fr) (fun c H'=>∃ s',S.abort s= .off s'∧c=dh∧H'=ax S.L.d s'::Fr)):=by
 refine ak func95 aa ntmps95 aa ?_
 have hl:=hL.L
 have hc:=hl.c
 have hc1:=hc.r1
 have hc2:=hc.r2
 have hc3:=hc.l1
 have hc4:=hc.l2
 have hact:=hc.act
 refine kt S.L.d fun hn1 hn2 hn3=>(l3 fun bl o1 o2=>(ac (ab (kPa aa aa (ad (ac (ac (ab (kPf dL isAgg4 aa aa aa aa (kPv (bu aa) aa (ad ?_)))))))))))
 refine bH aa (rfl) (aw (ac (ab (aK (H':=dm bl S.L::ax S.L.d s::dy b bl S true (some o1) (some o2)::bB .i64 cj o1 S.seen::bB .i64 cj o2 S.dirty::Fr) (fun w hh=>((hh.front 4 aa).front 2 aa)) (kPf ix isAgg141 aa aa aa aa ?_)))))
 refine aQ aa (ar call113 aa) (o3 _ _ bl S.L _ hL.L) .free aa aa ?_ ?_
 rotate_left
 ·rintro _ _ ⟨s9,hm9,rfl,rfl⟩
  exact aX fun w hh=>⟨_,⟨s9,by simp[bD.abort,hm9],rfl,rfl⟩,((((hh.front 4 aa).front 4 aa).front 4 aa).front 3 aa).tail.tail.tail.tail⟩
 rintro _ _ ⟨L5,s5,hm5,rfl,rfl⟩
 refine ad (aj [2,0] rfl (ac (ab (kPm aa aa (kPv (aF aa) aa (kPv (aC (m:=_) dL aa aa) aa (kPs (aO sizeOf4 aa aa aa aa) aa (ad (ac (ab (kPa aa aa ?_)))))))))))
 refine ad (au ?_)
 exact aq results95 aa (fun w hh=>by
  have hd1:=AM hm5
  obtain⟨d1,c1,e1,n1⟩:=L5
  obtain⟨hd2,hd3⟩:=hd1
  simp only at hd2 hd3
  subst hd2;subst hd3
  exact⟨_,⟨{S with L:=⟨_,_,e1,n1⟩},_,by simp[bD.abort,hm5],rfl,rfl⟩,dN (((((hh.front 4 aa).front 4 aa).tail.tail.front 1 aa).front 1 aa).front 2 aa)⟩)
theorem rj(B:World)(Fr:List HP)(bd:Nat)(s:Dev)(c:Cfg)(hc:bx c):
 ∀ w,Holds B (ax bd s::Fr) w→Calls Tryz.prog 115 [ptr bd,dU c].toArray w (Ret B (fun rv H'=>∃ b,rv=ptr b∧H'=dV b ⟨bP bd c s,0,0,[],[]⟩::ax bd s::Fr) (fun _ _=>False)):=by
 refine ak func115 aa ntmps115 aa (ac (ab (kPb (aY aa) aa fun b3=>(kPa aa aa (ad (ac (aK (H':=pr True::ax bd s::row b3 [i64 c.log,i64 c.roots,i64 c.space] 39::pr True::Fr) (fun w hh=>((((hh.unpr trivial).front 1 aa).front 2 aa).unpr trivial)) (cE (σ':=[(0,ptr bd),(3,ptr b3)]) ⟨rfl,rfl,trivial⟩ ?_))))))))
 refine zK (G:=Nat×Nat) [0,3] (fun g i=>match i with | 0=>ptr bd | 1=>dU c | 2=>ptr g.1 | 3=>ptr bd | 4=>dU c | 5=> .agg #[ptr g.1,ptr bd,i64 c.log,i64 c.roots,i64 c.space,.bool false,i64 0,i64 0,.map none,.map none] | 6=>ptr g.2 | 7=>ptr g.2 | _=>undef) (fun L g=>(if (L.getD 2 false)=true then dm g.1 (bP bd c s) else pr True)::ax bd s::row b3 [i64 c.log,i64 c.roots,i64 c.space] 39::(if (L.getD 6 false)=true then dy g.2 g.1 ⟨bP bd c s,0,0,[],[]⟩ false none none else pr True)::Fr) (0,0) (fun g=>[(4,ptr g.2)]) (fun g=>dm g.1 (bP bd c s)::ax bd s::row b3 [i64 c.log,i64 c.roots,i64 c.space] 39::dy g.2 g.1 ⟨bP bd c s,0,0,[],[]⟩ false none none::Fr) Tryz.mixed (by kernel_rfl) (fun t v h=>o5 h) aa ?_ ?_ ?_
 ·intro i o ho L g hsz hun hcl hdep a hk hd w hw
  have hi:i<8:=(Array.getElem?_eq_some_iff.1 ho).1
  have hL:L.size=8:=hsz
  obtain rfl | rfl | rfl | rfl | rfl | rfl | rfl | rfl:i=0∨i=1∨i=2∨i=3∨i=4∨i=5∨i=6∨i=7:=by omega
  ·obtain rfl:=Option.some.inj (show some _=some o from ho)
   exact dz (v:=ptr bd) (by first | exact al rfl | exact Evs.eq (al rfl) rfl) hk hw ⟨g,fun _=>rfl,fun _ _ _=>rfl,by simpa (disch:=decide) only[getD_set_ne] using hw⟩
  ·obtain rfl:=Option.some.inj (show some _=some o from ho)
   exact dz (v:=dU c) (by first | exact ah isAgg39 sizeOf39 rfl rfl | exact Evs.eq (ah isAgg39 sizeOf39 rfl rfl) rfl) hk hw ⟨g,fun _=>rfl,fun _ _ _=>rfl,by simpa (disch:=decide) only[getD_set_ne] using hw⟩
  ·obtain rfl:=Option.some.inj (show some _=some o from ho)
   have d0_data:L.getD 0 false=true:=hdep ⟨0,.data⟩ (by simp) rfl
   have d0:=d0_data
   have d1_data:L.getD 1 false=true:=hdep ⟨1,.data⟩ (by simp) rfl
   have d1:=d1_data
   have v0:a.tmps[5]? =some (ptr bd):=hd 0 _ 5 rfl rfl d0
   have v1:a.tmps[6]? =some (dU c):=hd 1 _ 6 rfl rfl d1
   have hk':=(bR v1 (bR v0 hk))
   have hun':L.getD 2 false=false:=getD_both hun
   have n6:L.getD 6 false=false:=by
    cases h:L.getD 6 false with
    | false=>rfl
    | true=>have h2:=hcl 6 _ rfl h ⟨5,.data⟩ (by simp) rfl;have h3:=hcl 5 _ rfl h2 ⟨2,.data⟩ (by simp) rfl;rw[hun'] at h3;cases h3
   simp only[hun',n6] at hw
   refine Ac (ar call110 aa) (ki B _ bd s c hc) hk' (hw.tail) ?_
   rintro v H' ⟨bl,rfl,rfl⟩ w' hw'
   refine⟨(bl,g.2),fun _=>rfl,fun j hj hl=> ?_,?_⟩
   ·match j with
    | 2=>exact absurd aa hj
    | 5=>have h3:=hcl 5 _ rfl hl ⟨2,.data⟩ (by simp) rfl;rw[hun'] at h3;cases h3
    | 0 | 1 | 3 | 4 | 6 | 7=>rfl
    | _+8=>rfl
   ·simp only[getD_set_ne false (show(2:Nat)≠6 by decide),dW (show 2<L.size by omega)]
    simp only[n6,if_true] at hw' ⊢
    exact hw'
  ·obtain rfl:=Option.some.inj (show some _=some o from ho)
   exact dz (v:=ptr bd) (by first | exact al rfl | exact Evs.eq (al rfl) rfl) hk hw ⟨g,fun _=>rfl,fun _ _ _=>rfl,by simpa (disch:=decide) only[getD_set_ne] using hw⟩
  ·obtain rfl:=Option.some.inj (show some _=some o from ho)
   exact dz (v:=dU c) (by first | exact ah isAgg39 sizeOf39 rfl rfl | exact Evs.eq (ah isAgg39 sizeOf39 rfl rfl) rfl) hk hw ⟨g,fun _=>rfl,fun _ _ _=>rfl,by simpa (disch:=decide) only[getD_set_ne] using hw⟩
  ·obtain rfl:=Option.some.inj (show some _=some o from ho)
   have d2_data:L.getD 2 false=true:=hdep ⟨2,.data⟩ (by simp) rfl
   have d2:=d2_data
   have d3_data:L.getD 3 false=true:=hdep ⟨3,.data⟩ (by simp) rfl
   have d3:=d3_data
   have d4_data:L.getD 4 false=true:=hdep ⟨4,.data⟩ (by simp) rfl
   have d4:=d4_data
   have v2:a.tmps[7]? =some (ptr g.1):=hd 2 _ 7 rfl rfl d2
   have v3:a.tmps[8]? =some (ptr bd):=hd 3 _ 8 rfl rfl d3
   have v4:a.tmps[9]? =some (dU c):=hd 4 _ 9 rfl rfl d4
   exact dz (v:= .agg #[ptr g.1,ptr bd,i64 c.log,i64 c.roots,i64 c.space,.bool false,i64 0,i64 0,.map none,.map none]) (by first | exact aR rfl (lj _ _ _ _ _ (by first | rfl | assumption) (by first | rfl | assumption)) | exact Evs.eq (aR rfl (lj _ _ _ _ _ (by first | rfl | assumption) (by first | rfl | assumption))) rfl) (bR v4 (bR v3 (bR v2 hk))) hw ⟨g,fun _=>rfl,fun _ _ _=>rfl,by simpa (disch:=decide) only[getD_set_ne] using hw⟩
  ·obtain rfl:=Option.some.inj (show some _=some o from ho)
   have d5_data:L.getD 5 false=true:=hdep ⟨5,.data⟩ (by simp) rfl
   have d5:=d5_data
   have v5:a.tmps[10]? =some (.agg #[ptr g.1,ptr bd,i64 c.log,i64 c.roots,i64 c.space,.bool false,i64 0,i64 0,.map none,.map none]):=hd 5 _ 10 rfl rfl d5
   have hk':=(bR v5 hk)
   have hun':L.getD 6 false=false:=getD_both hun
   have d2:L.getD 2 false=true:=hcl 5 _ rfl d5 ⟨2,.data⟩ (by simp) rfl
   refine jQ (aY aa) hk' hw ?_
   rintro v H' ⟨b,rfl,rfl⟩ w' hw'
   refine⟨(g.1,b),fun _=>rfl,fun j hj hl=> ?_,?_⟩
   ·match j with
    | 6=>exact absurd aa hj
    | 7=>have h3:=hcl 7 _ rfl hl ⟨6,.data⟩ (by simp) rfl;rw[hun'] at h3;cases h3
    | 0 | 1 | 2 | 3 | 4 | 5=>rfl
    | _+8=>rfl
   ·simp only[getD_set_ne false (show(6:Nat)≠2 by decide),dW (show 6<L.size by omega)]
    simp only[hun',if_true] at hw' ⊢
    exact(((hw'.front 4 aa).tail).front 3 aa |>.front 3 aa |>.front 3 aa)
  ·obtain rfl:=Option.some.inj (show some _=some o from ho)
   have d6_data:L.getD 6 false=true:=hdep ⟨6,.data⟩ (by simp) rfl
   have d6:=d6_data
   have d2_chain:L.getD 2 false=true:=hdep ⟨2,.chain⟩ (by simp) rfl
   have d2:=d2_chain
   have d2_phase:L.getD 2 false=true:=hdep ⟨2,.phase⟩ (by simp) rfl
   have d2:=d2_phase
   have d6_phase:L.getD 6 false=true:=hdep ⟨6,.phase⟩ (by simp) rfl
   have d6:=d6_phase
   have v6:a.tmps[11]? =some (ptr g.2):=hd 6 _ 11 rfl rfl d6
   exact dz (v:=ptr g.2) (by first | exact bE rfl | exact Evs.eq (bE rfl) rfl) (bR v6 hk) hw ⟨g,fun _=>rfl,fun _ _ _=>rfl,by simpa (disch:=decide) only[getD_set_ne] using hw⟩
 ·intro L g hall a w hk hd hw
  have h2:=hall 2 (by decide)
  have h6:=hall 6 (by decide)
  have h7:=hall 7 (by decide)
  simp only[h2,h6,if_true] at hw
  exact⟨KnA.knows ⟨hd 7 _ 4 aa aa h7,trivial⟩,hw⟩
 intro g
 refine au ?_
 exact aq results115 aa (fun w hh=>⟨_,⟨_,rfl,rfl⟩,dN (S:=⟨bP bd c s,0,0,[],[]⟩) ((((hh.front 2 aa).tail).front 2 aa).front 1 aa |>.front 1 aa)⟩)
theorem pI(c:Cfg):bx c↔1≤c.roots∧c.roots≤16∧c.roots+2≤c.log∧c.log≤200∧8≤c.space∧c.space≤4096:=⟨fun h=>⟨h.r1,h.r2,h.l1,h.l2,h.s1,h.s2⟩,fun ⟨a,b,c,d,e,f⟩=>⟨a,b,c,d,e,f⟩⟩
def chk(c:Cfg):Int:=if bx c then 0 else 1
theorem Ce{c:Cfg}(h:(chk c !=0)=false):bx c:=by
 unfold chk at h;split at h
 ·assumption
 ·simp at h
def ew(f:Int→Int):Nat→Int→Dev→Out Unit
 | 0,_,s=> .ok () s
 | k+1,i,s=>(s.store (f i) 0).then fun _ s=>(s.flush (f i)).then fun _ s=>ew f k (i+1) s
def gv:Int:=6076848300954571569
def st3(l:List Int):Nat→Nat→Dev→Out Unit
 | 0,_,s=> .ok () s
 | k+1,i,s=>(s.store (1+(i:Int)) (l.getD i 0)).then fun _ s=>st3 l k (i+1) s
theorem CP{a b c:Int}{k:Nat}(h:k<3):([i64 a,i64 b,i64 c]:List Value)[k]? =some (i64 ([a,b,c].getD k 0)):=by
 rcases (by omega:k=0∨k=1∨k=2) with rfl | rfl | rfl<;>rfl
theorem D9{a b c:Int}{k:Nat}(h:k<3)(ha:0≤a∧a≤100000)(hb:0≤b∧b≤100000)(hc:0≤c∧c≤100000):0≤[a,b,c].getD k 0∧[a,b,c].getD k 0≤100000:=by
 rcases (by omega:k=0∨k=1∨k=2) with rfl | rfl | rfl<;>simpa
def Dev.format(s:Dev)(c:Cfg):Out Int:=
 if ¬ bx c∨(s.n:Int)≠c.words then .ok 1 s else
  (s.store 0 0).then fun _ s=>(s.flush 0).then fun _ s=>s.fence.then fun _ s=>
  (st3 [c.log,c.roots,c.space] 3 0 s).then fun _ s=>
  (s.store 8 1).then fun _ s=>(s.flush 8).then fun _ s=>(ew c.record c.log.toNat 0 s).then fun _ s=>
  (ew id (c.root c.roots - c.active).toNat c.active s).then fun _ s=>(s.flush 0).then fun _ s=>s.fence.then fun _ s=>
  (s.store 0 gv).then fun _ s=>(s.flush 0).then fun _ s=>s.fence.then fun _ s=> .ok 0 s
theorem iA(B:World)(H:List HP)(c:Cfg):
 ∀ w,Holds B H w→Calls Tryz.prog 22 [dU c].toArray w (aZ B H (i64 (chk c))):=by
 refine ak func22 aa ntmps22 aa (ac (ab (kPb (aY aa) aa fun b1=>(kPa aa aa (ad (ac (ac (ab (kPl gc isAgg3 aa aa aa aa (kPv (am aa aa aa) aa (kPm aa aa ?_)))))))))))
 apply gJ (tp:=10) (t:=6) (σ1:=[(6,_),(2,_),(1,_)]) 4 rfl (aG rfl)
 ·intro hg1
  refine ao aa (aC (m:=_) gc aa aa) (.on aa aa (ae hg1)) aa aa (ao aa (ag isAgg3 aa aa) (.on aa aa (ae hg1)) aa aa (ao aa (am aa aa aa) (.on aa aa (ae hg1)) aa aa (kPv (aJ aa hg1 aa) aa ?_)))
  exact bf aa (aG aa) (ga hg1)
 ·intro hg1
  refine ay aa (.on aa aa (ai hg1)) aa (ay aa (.on aa aa (ai hg1)) aa (ay aa (.on aa aa (ai hg1)) aa (kPv (aB aa hg1 aa) aa ?_)))
  exact bf aa (aG aa) (f9 hg1)
 refine kPm aa aa ?_
 apply gJ (tp:=18) (t:=11) (σ1:=[(11,_),(2,_),(1,_)]) 7 rfl (aG rfl)
 ·intro hg2
  refine ao aa (aC (m:=_) jN aa aa) (.on aa aa (ae hg2)) aa aa (ao aa (ag isAgg3 aa aa) (.on aa aa (ae hg2)) aa aa (ao aa (aC (m:=_) gc aa aa) (.on aa aa (ae hg2)) aa aa (ao aa (ag isAgg3 aa aa) (.on aa aa (ae hg2)) aa aa (ao aa (iT (c:=c.roots+2) aa aa (by simp only[Bool.or_eq_false_iff,decide_eq_false_iff_not] at*;rw[hG (by omega)])) (.on aa aa (ae hg2)) aa aa (ao aa (am aa aa aa) (.on aa aa (ae hg2)) aa aa (kPv (aJ aa hg2 aa) aa ?_))))))
  exact bf aa (aG aa) (ga hg2)
 ·intro hg2
  refine ay aa (.on aa aa (ai hg2)) aa (ay aa (.on aa aa (ai hg2)) aa (ay aa (.on aa aa (ai hg2)) aa (ay aa (.on aa aa (ai hg2)) aa (ay aa (.on aa aa (ai hg2)) aa (ay aa (.on aa aa (ai hg2)) aa (kPv (aB aa hg2 aa) aa ?_))))))
  exact bf aa (aG aa) (f9 hg2)
 refine kPm aa aa ?_
 apply gJ (tp:=23) (t:=19) (σ1:=[(19,_),(2,_),(1,_)]) 4 rfl (aG rfl)
 ·intro hg3
  refine ao aa (aC (m:=_) jN aa aa) (.on aa aa (ae hg3)) aa aa (ao aa (ag isAgg3 aa aa) (.on aa aa (ae hg3)) aa aa (ao aa (am aa aa aa) (.on aa aa (ae hg3)) aa aa (kPv (aJ aa hg3 aa) aa ?_)))
  exact bf aa (aG aa) (ga hg3)
 ·intro hg3
  refine ay aa (.on aa aa (ai hg3)) aa (ay aa (.on aa aa (ai hg3)) aa (ay aa (.on aa aa (ai hg3)) aa (kPv (aB aa hg3 aa) aa ?_)))
  exact bf aa (aG aa) (f9 hg3)
 refine kPm aa aa ?_
 apply gJ (tp:=28) (t:=24) (σ1:=[(24,_),(2,_),(1,_)]) 4 rfl (aG rfl)
 ·intro hg4
  refine ao aa (aC (m:=_) gD aa aa) (.on aa aa (ae hg4)) aa aa (ao aa (ag isAgg3 aa aa) (.on aa aa (ae hg4)) aa aa (ao aa (am aa aa aa) (.on aa aa (ae hg4)) aa aa (kPv (aJ aa hg4 aa) aa ?_)))
  exact bf aa (aG aa) (ga hg4)
 ·intro hg4
  refine ay aa (.on aa aa (ai hg4)) aa (ay aa (.on aa aa (ai hg4)) aa (ay aa (.on aa aa (ai hg4)) aa (kPv (aB aa hg4 aa) aa ?_)))
  exact bf aa (aG aa) (f9 hg4)
 refine kPm aa aa ?_
 apply gJ (tp:=33) (t:=29) (σ1:=[(29,_),(2,_)]) 4 rfl ⟨rfl,rfl,trivial⟩
 ·intro hg5
  refine ao aa (aC (m:=_) gD aa aa) (.on aa aa (ae hg5)) aa aa (ao aa (ag isAgg3 aa aa) (.on aa aa (ae hg5)) aa aa (ao aa (am aa aa aa) (.on aa aa (ae hg5)) aa aa (kPv (aJ aa hg5 aa) aa ?_)))
  exact bf aa ⟨rfl,rfl,trivial⟩ (ga hg5)
 ·intro hg5
  refine ay aa (.on aa aa (ai hg5)) aa (ay aa (.on aa aa (ai hg5)) aa (ay aa (.on aa aa (ai hg5)) aa (kPv (aB aa hg5 aa) aa ?_)))
  exact bf aa ⟨rfl,rfl,trivial⟩ (f9 hg5)
 refine ad ?_
 refine aV aa (fun h33=> ?_) (fun h33=> ?_)
 ·try simp only[decide_eq_true_eq,decide_eq_false_iff_not,Bool.not_eq_true',Bool.not_eq_false',Bool.or_eq_true,Bool.and_eq_true,Bool.and_eq_false_iff,Bool.or_eq_false_iff,beq_iff_eq,bne_iff_ne,beq_eq_false_iff_ne,bne_eq_false_iff_eq,ge_iff_le,gt_iff_lt,ne_eq] at h33
  refine ac (ab (kPa aa aa (ad (au ?_))))
  exact aq results22 aa (fun w hw=>⟨by unfold chk;rw[if_neg (by rw[pI];omega)],hw.tail⟩)
 ·try simp only[decide_eq_true_eq,decide_eq_false_iff_not,Bool.not_eq_true',Bool.not_eq_false',Bool.or_eq_true,Bool.and_eq_true,Bool.and_eq_false_iff,Bool.or_eq_false_iff,beq_iff_eq,bne_iff_ne,beq_eq_false_iff_ne,bne_eq_false_iff_eq,ge_iff_le,gt_iff_lt,ne_eq] at h33
  refine aw (ac (ab (kPa aa aa (ad (au ?_)))))
  exact aq results22 aa (fun w hw=>⟨by unfold chk;rw[if_pos (by rw[pI];omega)],hw.tail⟩)
theorem cJ{s:Dev}{c:Cfg}(h:bx c)(hn:(s.n:Int)=c.words):¬ (¬ bx c∨(s.n:Int)≠c.words):=by simp[h,hn]
theorem wZ(f:Int→Int):∀ (k:Nat) (i:Int) (s:Dev),ew f (k+1) i s=(s.store (f i) 0).then fun _ s=>(s.flush (f i)).then fun _ s=>ew f k (i+1) s:=fun _ _ _=>rfl
theorem lx(B:World)(Fr:List HP)(b:Nat)(s:Dev)(c:Cfg):
 ∀ w,Holds B (ax b s::Fr) w→Calls Tryz.prog 47 [ptr b,dU c].toArray w (Ret B (fun rv H'=>∃ a s',s.format c= .ok a s'∧rv=i64 a∧H'=ax b s'::Fr) (fun k H'=>∃ s',s.format c= .off s'∧k=dh∧H'=ax b s'::Fr)):=by
 refine ak func47 aa ntmps47 aa (ac (ab (kPb (aY aa) aa fun b3=>(kPa aa aa (ad (ac (ac (cN Tryz.mixed (by kernel_rfl) (by kernel_rfl) ?_))))))))
 refine kQv (ah isAgg39 sizeOf39 aa aa) aa ?_
 refine bj aa (ar call22 aa) (iA _ _ c) .free aa ?_
 refine kQv (am aa aa aa) aa (kQm aa aa ?_)
 apply CB (tp:=18) (t:=12) (σ1:=[(12,_),(4,_),(3,_),(0,_)]) 6 rfl (aG rfl)
 ·intro hg1
  refine bg aa (al aa) (.on aa aa (ae hg1)) aa (bj aa (ar call103 aa) (bF (q:=ax) (fun Fr=>kQ _ Fr _ _)) (.on aa aa (ae hg1)) aa ?_)
  refine bg aa (ah isAgg39 sizeOf39 aa aa) (.on aa aa (ae hg1)) aa ?_
  refine bj aa (ar call23 aa) (gy _ _ c (Ce hg1)) (.on aa aa (ae hg1)) aa ?_
  refine bg aa (am aa aa aa) (.on aa aa (ae hg1)) aa (kQv (aJ aa hg1 aa) aa ?_)
  exact fp aa (aG aa) (ga hg1)
 ·intro hg1
  refine ba aa (.on aa aa (ai hg1)) aa (ba aa (.on aa aa (ai hg1)) aa (ba aa (.on aa aa (ai hg1)) aa (ba aa (.on aa aa (ai hg1)) aa (ba aa (.on aa aa (ai hg1)) aa (kQv (aB aa hg1 aa) aa ?_)))))
  exact fp aa (aG aa) (f9 hg1)
 refine bM ?_
 refine aV aa (fun h18=> ?_) (fun h18=> ?_)
 ·have hbad:¬ bx c∨(s.n:Int)≠c.words:=by
   by_cases q:bx c
   ·right;simpa [chk,q] using h18
   ·exact .inl q
  refine ac (ab (kPa aa aa (ad (au ?_))))
  exact aq results47 aa (fun w hh=>⟨_,⟨1,s,by unfold Dev.format;rw[if_pos hbad],rfl,rfl⟩,hh.tail⟩)
 ·have hgd:bx c∧(s.n:Int)=c.words:=by
   by_cases q:bx c
   ·exact⟨q,by simpa [chk,q] using h18⟩
   ·simp[chk,q] at h18
  obtain⟨hc,hn⟩:=hgd
  have hc1:=hc.r1
  have hc2:=hc.r2
  have hc3:=hc.l1
  have hc4:=hc.l2
  have hc5:=hc.s1
  have hc6:=hc.s2
  have hact:=hc.act
  refine aw (ac (ab (kPm aa aa ?_)))
  refine aQ aa (ar call104 aa) (cS (q:=ax) (fun Fr=>cI _ Fr _ _ _ _)) .free aa aa ?_ ?_
  rotate_left
  ·rintro _ _ ⟨sx,⟨hx,rfl⟩,rfl⟩
   have hfo:s.format c= .off sx:=by
    simp[Dev.format,cJ hc hn,hx]
   exact aX fun w hh=>⟨_,⟨sx,hfo,rfl,rfl⟩,hh.tail⟩
  rintro _ _ ⟨s1,⟨e1,hm1,rfl⟩,rfl⟩
  refine ad (ac (ab (kPm aa aa ?_)))
  refine aQ aa (ar call105 aa) (cS (q:=ax) (fun Fr=>dJ _ Fr _ _ _)) .free aa aa ?_ ?_
  rotate_left
  ·rintro _ _ ⟨sx,⟨hx,rfl⟩,rfl⟩
   have hfo:s.format c= .off sx:=by
    simp[Dev.format,cJ hc hn,hm1,hx]
   exact aX fun w hh=>⟨_,⟨sx,hfo,rfl,rfl⟩,hh.tail⟩
  rintro _ _ ⟨s2,⟨e2,hm2,rfl⟩,rfl⟩
  refine ad (ac (ab (kPm aa aa ?_)))
  refine aQ aa (ar call106 aa) (cS (q:=ax) (fun Fr=>eW _ Fr _ _)) .free aa aa ?_ ?_
  rotate_left
  ·rintro _ _ ⟨sx,⟨hx,rfl⟩,rfl⟩
   have hfo:s.format c= .off sx:=by
    simp[Dev.format,cJ hc hn,hm1,hm2,hx]
   exact aX fun w hh=>⟨_,⟨sx,hfo,rfl,rfl⟩,hh.tail⟩
  rintro _ _ ⟨s3,⟨e3,hm3,rfl⟩,rfl⟩
  refine ad (aj [4,3,0] rfl (ac (ac (ab (kPl jN isAgg3 aa aa aa aa (kPl gc isAgg3 aa aa aa aa (kPl gD isAgg3 aa aa aa aa (kPb (C9 runUnderlying59 sizeOf3 zeroValue3 aa aa aa aa aa aa aa) aa fun b31=>(kPv (bS aa runUnderlying59 ⟨_,rfl⟩ rfl) aa (kPm aa aa (ad ?_)))))))))))
  refine aI (dF (ι:=Nat×Dev) (fun i=>i.1≤3∧st3 [c.log,c.roots,c.space] 3 0 s3=st3 [c.log,c.roots,c.space] (3 - i.1) i.1 i.2) (fun i=>[(0,ptr b),(3,ptr b3),(4,i64 0),(31,.slice (some ⟨b31,0,none⟩) 3 3),(32,i64 3),(33,i64 i.1)]) (fun i=>row b31 [i64 c.log,i64 c.roots,i64 c.space] 3::row b3 [i64 c.log,i64 c.roots,i64 c.space] 39::ax b i.2::Fr) (fun i=>3 - i.1) (0,s3) ⟨Nat.zero_le _,rfl⟩ (fun a w st=>st.to ⟨rfl,rfl,rfl,rfl,rfl,rfl,trivial⟩ id) ?_)
  rintro⟨k,sa⟩ ⟨hk1,hk2⟩
  simp only at hk1 hk2 ⊢
  refine ac (ab (kPv (am aa aa aa) aa (ad (ac ?_))))
  refine aV aa (fun h34=> ?_) (fun h34=> ?_)
  ·have hk3:k<3:=by simp at h34;omega
   refine aw (ac (aI (ac (ab ?_))))
   have hlb:=D9 (k:=k) hk3 (a:=c.log) (b:=c.roots) (c:=c.space) (by omega) (by omega) (by omega)
   refine kPm aa aa (kPv (cC runUnderlying59 sizeOf3 aa aa (by omega) (by omega)) aa (kPv (ag (v:=i64 ([c.log,c.roots,c.space].getD k 0)) isAgg3 aa (by rw[Nat.zero_add,Int.toNat_natCast];exact CP hk3)) aa (kPa aa aa (kPa aa aa (ad (aj [6,5,33,32,31,4,3,0] rfl (ab (kPm aa aa (kPm aa aa (kPv (aP aa aa) aa (kPm aa aa ?_)))))))))))
   refine kPv (bY runUnderlying3 runUnderlying24 aa) aa ?_
   refine aQ aa (ar call104 aa) (cS (q:=ax) (fun Fr=>cI _ Fr _ _ _ _)) .free aa aa ?_ ?_
   rotate_left
   ·rintro _ _ ⟨sx,⟨hx,rfl⟩,rfl⟩
    have hfo:s.format c= .off sx:=by
     have hz:st3 [c.log,c.roots,c.space] 3 0 s3= .off sx:=by rw[hk2,show 3 - k=(3 - (k+1))+1 by omega];simp only[st3];rw[hx];rfl
     simp[Dev.format,cJ hc hn,hm1,hm2,hm3,hz]
    exact aX fun w hh=>⟨_,⟨sx,hfo,rfl,rfl⟩,hh.tail.tail⟩
   rintro _ _ ⟨s4,⟨e4,hm4,rfl⟩,rfl⟩
   refine ad (aj [33,32,31,4,3,0] rfl (ab (kPv (aP aa aa) aa (kPm aa aa (ad ?_)))))
   exact fun a w st=>⟨(k+1,s4),⟨by simp only;omega,by simp only;rw[hk2,show 3 - k=(3 - (k+1))+1 by omega];simp only[st3];rw[hm4];rfl⟩,by simp only;omega,st.to ⟨rfl,rfl,rfl,rfl,rfl,rfl,trivial⟩ id⟩
  ·have hk3:¬ k<3:=by simp at h34;omega
   have hA:st3 [c.log,c.roots,c.space] 3 0 s3= .ok () sa:=by
    rw[hk2,show 3 - k=0 by omega];rfl
   refine bJ (ac (ab (kPm aa aa ?_)))
   refine aQ aa (ar call104 aa) (cS (q:=ax) (fun Fr=>cI _ Fr _ _ _ _)) .free aa aa ?_ ?_
   rotate_left
   ·rintro _ _ ⟨sx,⟨hx,rfl⟩,rfl⟩
    have hfo:s.format c= .off sx:=by
     simp[Dev.format,cJ hc hn,hm1,hm2,hm3,hA,hx]
    exact aX fun w hh=>⟨_,⟨sx,hfo,rfl,rfl⟩,hh.tail.tail⟩
   rintro _ _ ⟨s5,⟨e5,hm5,rfl⟩,rfl⟩
   refine ad (aj [4,3,0] rfl (ac (ab (kPm aa aa ?_))))
   refine aQ aa (ar call105 aa) (cS (q:=ax) (fun Fr=>dJ _ Fr _ _ _)) .free aa aa ?_ ?_
   rotate_left
   ·rintro _ _ ⟨sx,⟨hx,rfl⟩,rfl⟩
    have hfo:s.format c= .off sx:=by
     simp[Dev.format,cJ hc hn,hm1,hm2,hm3,hA,hm5,hx]
    exact aX fun w hh=>⟨_,⟨sx,hfo,rfl,rfl⟩,hh.tail.tail⟩
   rintro _ _ ⟨s6,⟨e6,hm6,rfl⟩,rfl⟩
   refine ad (ac (ac (ab (kPa aa aa (ad (aI (dF (ι:=Int×Dev) (fun i=>(0≤i.1∧i.1≤c.log)∧ew c.record c.log.toNat 0 s6=ew c.record (c.log - i.1).toNat i.1 i.2) (fun i=>[(0,ptr b),(3,ptr b3),(4,i64 0),(7,i64 i.1)]) (fun i=>row b31 [i64 c.log,i64 c.roots,i64 c.space] 3::row b3 [i64 c.log,i64 c.roots,i64 c.space] 39::ax b i.2::Fr) (fun i=>(c.log - i.1).toNat) (0,s6) ⟨⟨by simp only;omega,by simp only;omega⟩,by simp only;rw[Int.sub_zero]⟩ (fun a w st=>st.to ⟨rfl,rfl,rfl,rfl,trivial⟩ id) ?_)))))))
   rintro⟨i,sb⟩ ⟨⟨hi1,hi2⟩,hi3⟩
   simp only at hi1 hi2 hi3 ⊢
   have hri:16≤c.record i∧c.record i≤10000:=by simp only[Cfg.record];omega
   refine ac (ac (ab (kPm aa aa (kPl jN isAgg3 aa aa aa aa (kPv (am aa aa aa) aa (ad ?_))))))
   refine aV aa (fun h52=> ?_) (fun h52=> ?_)
   ·have hlt:i<c.log:=by simpa using h52
    refine aw (ac (aI (ac (ab (kPm aa aa (kPv (ah isAgg39 sizeOf39 aa aa) aa ?_))))))
    refine kPm aa aa (ap aa (ar call107 aa) (gq _ _ c _ (by omega) (by omega)) .free aa aa ?_)
    refine aQ aa (ar call104 aa) (cS (q:=ax) (fun Fr=>cI _ Fr _ _ _ _)) .free aa aa ?_ ?_
    rotate_left
    ·rintro _ _ ⟨sx,⟨hx,rfl⟩,rfl⟩
     have hfo:s.format c= .off sx:=by
      have hz:ew c.record c.log.toNat 0 s6= .off sx:=by rw[hi3,show(c.log - i).toNat=(c.log - (i+1)).toNat+1 by omega];simp only[ew];rw[hx];rfl
      simp[Dev.format,cJ hc hn,hm1,hm2,hm3,hA,hm5,hm6,hz]
     exact aX fun w hh=>⟨_,⟨sx,hfo,rfl,rfl⟩,hh.tail.tail⟩
    rintro _ _ ⟨s7,⟨e7,hm7,rfl⟩,rfl⟩
    refine ad (aj [7,4,3,0] rfl (ab (kPm aa aa (kPv (ah isAgg39 sizeOf39 aa aa) aa ?_))))
    refine kPm aa aa (ap aa (ar call107 aa) (gq _ _ c _ (by omega) (by omega)) .free aa aa ?_)
    refine aQ aa (ar call105 aa) (cS (q:=ax) (fun Fr=>dJ _ Fr _ _ _)) .free aa aa ?_ ?_
    rotate_left
    ·rintro _ _ ⟨sx,⟨hx,rfl⟩,rfl⟩
     have hfo:s.format c= .off sx:=by
      have hz:ew c.record c.log.toNat 0 s6= .off sx:=by rw[hi3,show(c.log - i).toNat=(c.log - (i+1)).toNat+1 by omega];simp only[ew];rw[hm7,aU,hx];rfl
      simp[Dev.format,cJ hc hn,hm1,hm2,hm3,hA,hm5,hm6,hz]
     exact aX fun w hh=>⟨_,⟨sx,hfo,rfl,rfl⟩,hh.tail.tail⟩
    rintro _ _ ⟨s8,⟨e8,hm8,rfl⟩,rfl⟩
    refine ad (ab (kPm aa aa (kPv (aP aa aa) aa (kPa aa aa (ad (aj [7,4,3,0] rfl ?_))))))
    exact fun a w st=>⟨(i+1,s8),⟨⟨by simp only;omega,by simp only;omega⟩,by simp only;rw[hi3,show(c.log - i).toNat=(c.log - (i+1)).toNat+1 by omega];simp only[ew];rw[hm7,aU,hm8];rfl⟩,by simp only;omega,st.to ⟨rfl,rfl,rfl,rfl,trivial⟩ id⟩
   ·have hlt:¬ i<c.log:=by simpa using h52
    have hB:ew c.record c.log.toNat 0 s6= .ok () sb:=by
     rw[hi3,show(c.log - i).toNat=0 by omega];rfl
    refine bJ (ac (ac (ab (kPv (ah isAgg39 sizeOf39 aa aa) aa ?_))))
    refine ap aa (ar call108 aa) (fS _ _ c hc) .free aa aa ?_
    refine kPa aa aa (ad (aj [8,4,3,0] rfl (aI ?_)))
    have hroot:c.active≤c.root c.roots∧c.root c.roots≤2000:=by simp only[Cfg.root];omega
    refine dF (ι:=Int×Dev) (fun i=>(c.active≤i.1∧i.1≤c.root c.roots)∧ew id (c.root c.roots - c.active).toNat c.active sb=ew id (c.root c.roots - i.1).toNat i.1 i.2) (fun i=>[(0,ptr b),(3,ptr b3),(4,i64 0),(8,i64 i.1)]) (fun i=>row b31 [i64 c.log,i64 c.roots,i64 c.space] 3::row b3 [i64 c.log,i64 c.roots,i64 c.space] 39::ax b i.2::Fr) (fun i=>(c.root c.roots - i.1).toNat) (c.active,sb) ⟨⟨by simp only;omega,by simp only;omega⟩,rfl⟩ (fun a w st=>st.to ⟨rfl,rfl,rfl,rfl,trivial⟩ id) ?_
    rintro⟨j,sc⟩ ⟨⟨hj1,hj2⟩,hj3⟩
    simp only at hj1 hj2 hj3 ⊢
    refine ac (ac (ab (kPm aa aa (kPv (ah isAgg39 sizeOf39 aa aa) aa ?_))))
    refine kPl gc isAgg3 aa aa aa aa (ap aa (ar call82 aa) (jz _ _ c hc _ (by omega) (by omega)) .free aa aa ?_)
    refine kPv (am aa aa aa) aa (ad ?_)
    refine aV aa (fun h72=> ?_) (fun h72=> ?_)
    ·have hlt2:j<c.root c.roots:=by simpa using h72
     refine aw (ac (aI (ac (ab (kPm aa aa (kPm aa aa ?_))))))
     refine aQ aa (ar call104 aa) (cS (q:=ax) (fun Fr=>cI _ Fr _ _ _ _)) .free aa aa ?_ ?_
     rotate_left
     ·rintro _ _ ⟨sx,⟨hx,rfl⟩,rfl⟩
      have hfo:s.format c= .off sx:=by
       have hz:ew id (c.root c.roots - c.active).toNat c.active sb= .off sx:=by rw[hj3,show(c.root c.roots - j).toNat=(c.root c.roots - (j+1)).toNat+1 by omega];simp only[ew,id];rw[hx];rfl
       simp[Dev.format,cJ hc hn,hm1,hm2,hm3,hA,hm5,hm6,hB,hz]
      exact aX fun w hh=>⟨_,⟨sx,hfo,rfl,rfl⟩,hh.tail.tail⟩
     rintro _ _ ⟨s9,⟨e9,hm9,rfl⟩,rfl⟩
     refine ad (aj [8,4,3,0] rfl (ab (kPm aa aa (kPm aa aa ?_))))
     refine aQ aa (ar call105 aa) (cS (q:=ax) (fun Fr=>dJ _ Fr _ _ _)) .free aa aa ?_ ?_
     rotate_left
     ·rintro _ _ ⟨sx,⟨hx,rfl⟩,rfl⟩
      have hfo:s.format c= .off sx:=by
       have hz:ew id (c.root c.roots - c.active).toNat c.active sb= .off sx:=by rw[hj3,show(c.root c.roots - j).toNat=(c.root c.roots - (j+1)).toNat+1 by omega];simp only[ew,id];rw[hm9,aU,hx];rfl
       simp[Dev.format,cJ hc hn,hm1,hm2,hm3,hA,hm5,hm6,hB,hz]
      exact aX fun w hh=>⟨_,⟨sx,hfo,rfl,rfl⟩,hh.tail.tail⟩
     rintro _ _ ⟨s10,⟨e10,hm10,rfl⟩,rfl⟩
     refine ad (ab (kPm aa aa (kPv (aP aa aa) aa (kPa aa aa (ad ?_)))))
     exact fun a w st=>⟨(j+1,s10),⟨⟨by simp only;omega,by simp only;omega⟩,by simp only;rw[hj3,show(c.root c.roots - j).toNat=(c.root c.roots - (j+1)).toNat+1 by omega];simp only[ew,id];rw[hm9,aU,hm10];rfl⟩,by simp only;omega,st.to ⟨rfl,rfl,rfl,rfl,trivial⟩ id⟩
    ·have hlt2:¬ j<c.root c.roots:=by simpa using h72
     have hC:ew id (c.root c.roots - c.active).toNat c.active sb= .ok () sc:=by
      rw[hj3,show(c.root c.roots - j).toNat=0 by omega];rfl
     refine bJ (ac (ab (kPm aa aa ?_)))
     refine aQ aa (ar call105 aa) (cS (q:=ax) (fun Fr=>dJ _ Fr _ _ _)) .free aa aa ?_ ?_
     rotate_left
     ·rintro _ _ ⟨sx,⟨hx,rfl⟩,rfl⟩
      have hfo:s.format c= .off sx:=by
       simp[Dev.format,cJ hc hn,hm1,hm2,hm3,hA,hm5,hm6,hB,hC,hx]
      exact aX fun w hh=>⟨_,⟨sx,hfo,rfl,rfl⟩,hh.tail.tail⟩
     rintro _ _ ⟨s11,⟨e11,hm11,rfl⟩,rfl⟩
     refine ad (aj [4,0] rfl (ac (ab (kPm aa aa ?_))))
     refine aQ aa (ar call106 aa) (cS (q:=ax) (fun Fr=>eW _ Fr _ _)) .free aa aa ?_ ?_
     rotate_left
     ·rintro _ _ ⟨sx,⟨hx,rfl⟩,rfl⟩
      have hfo:s.format c= .off sx:=by
       simp[Dev.format,cJ hc hn,hm1,hm2,hm3,hA,hm5,hm6,hB,hC,hm11,hx]
      exact aX fun w hh=>⟨_,⟨sx,hfo,rfl,rfl⟩,hh.tail.tail⟩
     rintro _ _ ⟨s12,⟨e12,hm12,rfl⟩,rfl⟩
     refine ad (ac (ab (kPm aa aa ?_)))
     refine aQ aa (ar call104 aa) (cS (q:=ax) (fun Fr=>cI _ Fr _ _ _ _)) .free aa aa ?_ ?_
     rotate_left
     ·rintro _ _ ⟨sx,⟨hx,rfl⟩,rfl⟩
      have hfo:s.format c= .off sx:=by
       simp[Dev.format,cJ hc hn,hm1,hm2,hm3,hA,hm5,hm6,hB,hC,hm11,hm12,gv,hx]
      exact aX fun w hh=>⟨_,⟨sx,hfo,rfl,rfl⟩,hh.tail.tail⟩
     rintro _ _ ⟨s13,⟨e13,hm13,rfl⟩,rfl⟩
     refine ad (ac (ab (kPm aa aa ?_)))
     refine aQ aa (ar call105 aa) (cS (q:=ax) (fun Fr=>dJ _ Fr _ _ _)) .free aa aa ?_ ?_
     rotate_left
     ·rintro _ _ ⟨sx,⟨hx,rfl⟩,rfl⟩
      have hfo:s.format c= .off sx:=by
       simp[Dev.format,cJ hc hn,hm1,hm2,hm3,hA,hm5,hm6,hB,hC,hm11,hm12,gv,hm13,hx]
      exact aX fun w hh=>⟨_,⟨sx,hfo,rfl,rfl⟩,hh.tail.tail⟩
     rintro _ _ ⟨s14,⟨e14,hm14,rfl⟩,rfl⟩
     refine ad (ac (ab (kPm aa aa ?_)))
     refine aQ aa (ar call106 aa) (cS (q:=ax) (fun Fr=>eW _ Fr _ _)) .free aa aa ?_ ?_
     rotate_left
     ·rintro _ _ ⟨sx,⟨hx,rfl⟩,rfl⟩
      have hfo:s.format c= .off sx:=by
       simp[Dev.format,cJ hc hn,hm1,hm2,hm3,hA,hm5,hm6,hB,hC,hm11,hm12,gv,hm13,hm14,hx]
      exact aX fun w hh=>⟨_,⟨sx,hfo,rfl,rfl⟩,hh.tail.tail⟩
     rintro _ _ ⟨s15,⟨e15,hm15,rfl⟩,rfl⟩
     refine ad (aj [4] rfl (ac (ab (kPa aa aa (ad (au ?_))))))
     exact aq results47 aa (fun w hh=>⟨_,⟨0,s15,by simp[Dev.format,cJ hc hn,hm1,hm2,hm3,hA,hm5,hm6,hB,hC,hm11,hm12,gv,hm13,hm14,hm15],rfl,rfl⟩,hh.tail.tail⟩)
theorem oP{p:Pow}(h:p.lim<0):p.out=false:=by simp[Pow.out];omega
theorem lM{s:Dev}{i v:Int}(h:s.pow.lim<0)(hi:0≤i∧i<s.n):s.store i v= .ok 0 (s.up.st i.toNat v):=by
 have:s.has i=true:=by simp[Dev.has,hi]
 simp[Dev.store,this,oP h]
theorem pq{s:Dev}{i:Int}(h:s.pow.lim<0)(hi:0≤i∧i<s.n):s.flush i= .ok 0 (s.up.fl i.toNat):=by
 have:s.has i=true:=by simp[Dev.has,hi]
 simp[Dev.flush,this,oP h]
theorem l5{s:Dev}(h:s.pow.lim<0):s.fence= .ok () s.up.fe:=by simp[Dev.fence,oP h]
theorem sC{x:Bool}(h:x=true):Ending.returned (.bool x)=Ending.returned (.bool true):=by rw[h]
theorem CK{α:Type}{a b:α}{s t:Dev}(h:Out.ok a s=Out.ok b t):a=b∧s=t:=by cases h;exact⟨rfl,rfl⟩
theorem CJ{α:Type}{a:α}{s t:Dev}(h:Out.ok a s=Out.off t):False:=by cases h
theorem Dk(B:World)(Fr:List HP)(bp pb:Nat):
 ∀ w,Holds B (row bp [ptr pb] 106::iY pb ⟨1,0⟩::Fr) w→Calls Tryz.prog 273 [ptr bp].toArray w (Ret B (fun _ _=>False) (fun c H'=>c=dh∧H'=row bp [ptr pb] 106::iY pb ⟨1,1⟩::Fr)):=by
 refine ak func273 aa ntmps273 aa (ac (ab (kPv (ag isAgg106 aa aa) aa ?_)))
 refine aQ aa (ar call156 aa) (cS (fun Fr=>lJ _ Fr _ _)) .free aa aa ?_ ?_
 rotate_left
 ·rintro _ _ ⟨_,⟨ho,rfl,rfl⟩,rfl⟩
  first | (exfalso;revert ho;decide) | exact aX fun w hw=>⟨_,⟨rfl,rfl⟩,hw⟩
 rintro _ _ ⟨_,⟨ho,rfl,rfl⟩,rfl⟩
 refine ad (ab (kPv (ag isAgg106 aa aa) aa ?_))
 refine aQ aa (ar call156 aa) (cS (fun Fr=>lJ _ Fr _ _)) .free aa aa ?_ ?_
 rotate_left
 ·rintro _ _ ⟨_,⟨ho,rfl,rfl⟩,rfl⟩
  first | (exfalso;revert ho;decide) | exact aX fun w hw=>⟨_,⟨rfl,rfl⟩,hw⟩
 rintro _ _ ⟨_,⟨ho,rfl,rfl⟩,rfl⟩
 exfalso;revert ho;decide
theorem Dj(B:World)(H:List HP):
 ∀ w,Holds B H w→Calls Tryz.prog 275 [].toArray w (aZ B H (.tuple #[])):=by
 refine ak func275 aa ntmps275 aa (aw ?_)
 exact cG results275 (fun w hw=>⟨rfl,hw⟩)
theorem yd(B:World)(H:List HP):
 ∀ w,Holds B H w→Calls Tryz.prog 271 [].toArray w (aZ B H (.bool true)):=by
 refine ak func271 aa ntmps271 aa (ac (ab (kPa aa aa (ad (ac (ab (aE aa (ar call56 aa) (jA _ _ _) .free aa aa ?_)))))))
 rintro _ _ ⟨pb,rfl,rfl⟩
 refine kPb (cm zeroValue106 aa) aa fun b1=> ?_
 refine kPs (aO sizeOf106 aa aa (by first | rfl | assumption) rfl) rfl ?_;refine ad ?_;refine ac ?_;refine ac ?_;refine ab ?_;refine kPv (ag isAgg106 aa aa) aa ?_;refine kPv (cV runUnderlying106 aa aa aa) aa ?_;refine ad ?_;refine bH aa (rfl) ?_;refine aw ?_;refine ac ?_;refine ab ?_;refine kPv (c7 aa aa) aa ?_
 refine de aa (ar call59 aa) (vJ false (row b1 [ptr pb] 106::iY pb ⟨1,1⟩::H) call273 (fun A w hw=>(Dk B (A::H) b1 pb w ((hw.front 2 aa).front 2 aa)).mono (Ret.mono (fun _ _ h=>h.elim) (fun c H' h=>⟨rfl,h.1,fun w hw=>h.2▸hw |>.front 2 aa⟩)))) .free aa aa ?_
 refine kPa aa aa (ad (ac (ab (kPm aa aa (kPv (bu aa) aa (kPm aa aa ?_))))))
 apply dS (tp:=14) (t:=10) (σ1:=[(10,_),(0,_)]) 4 rfl ⟨rfl,rfl,trivial⟩
 ·intro hg1
  refine ao aa (ag isAgg106 aa aa) (.on aa aa (ae hg1)) aa aa (ap aa (ar call274 aa) (bF (fun Fr=>AK _ Fr _ _)) (.on aa aa (ae hg1)) aa aa ?_)
  refine ao aa (am aa aa aa) (.on aa aa (ae hg1)) aa aa (kPv (aB aa hg1 aa) aa ?_)
  exact bf aa ⟨rfl,rfl,trivial⟩ (dj hg1)
 ·intro hg1
  refine ay aa (.on aa aa (ai hg1)) aa (ay aa (.on aa aa (ai hg1)) aa (ay aa (.on aa aa (ai hg1)) aa (kPv (aJ aa hg1 aa) aa ?_)))
  exact bf aa ⟨rfl,rfl,trivial⟩ (dl hg1)
 refine kPm aa aa ?_
 apply dS (tp:=17) (t:=15) (σ1:=[(15,_),(0,_)]) 2 rfl ⟨rfl,rfl,trivial⟩
 ·intro hg2
  refine de aa (ar call59 aa) (vJ true (row b1 [ptr pb] 106::iY pb ⟨1,1⟩::H) call275 (fun A w hw=>(Dj B _ w hw).mono fun _ _ h=>h.ret ⟨rfl,fun _ h=>h⟩)) (.on aa aa (ae hg2)) aa aa ?_
  refine kPv (aB aa hg2 aa) aa ?_
  exact bf aa ⟨rfl,rfl,trivial⟩ (dj hg2)
 ·intro hg2
  refine ay aa (.on aa aa (ai hg2)) aa (kPv (aJ aa hg2 aa) aa ?_)
  exact bf aa ⟨rfl,rfl,trivial⟩ (dl hg2)
 refine kPa aa aa (ad (au ?_))
 exact aq results271 aa (fun w hw=>⟨rfl,hw.tail.tail⟩)
theorem ry(B:World)(Fr:List HP)(sv:Value)(xs:List Int)(hx0:0<xs.length)(hx1:xs.length≤100000)(hr:SlR B Fr sv (xs.map w64)):
 ∀ w,Holds B Fr w→Calls Tryz.prog 46 [sv].toArray w (Ret B (fun rv H'=>∃ b pa,rv=ptr b∧H'=ax b ⟨pa,⟨-1,0⟩,(xs.length+7) / 8*8,fun i=>xs.getD i 0,fun i=>xs.getD i 0,fun _=>none⟩::Fr) (fun _ _=>False)):=by
 refine ak func46 aa ntmps46 aa (ac (ab (kPa aa aa (ad (ac (ab (aE aa (ar call56 aa) (jA _ _ _) .free aa aa ?_)))))))
 rintro _ _ ⟨pb,rfl,rfl⟩
 refine kPm aa aa (aE aa (ar call55 aa) (ru _ _ _ _ _ xs hx0 hx1 hr) .free aa aa ?_)
 rintro _ _ ⟨b,rfl,rfl⟩
 refine kPa aa aa (ad (au ?_))
 exact aq results46 aa (fun w hw=>⟨_,⟨b,pb,rfl,rfl⟩,hw⟩)
theorem BZ(B:World)(H:List HP)(i:Int):
 ∀ w,Holds B H w→Calls Tryz.prog 272 [i64 i].toArray w (aZ B H (.int .u8 0)):=by
 refine ak func272 aa ntmps272 aa (ac (ab (kPa aa aa (ad (ac (ab (kPa aa aa (ad (au ?_)))))))))
 exact aq results272 aa (fun w hw=>⟨rfl,hw⟩)
theorem yc(B:World)(H:List HP):
 ∀ w,Holds B H w→Calls Tryz.prog 270 [].toArray w (aZ B H (.bool true)):=by
 refine ak func270 aa ntmps270 aa (ac (ab (kPa aa aa (ad (ac (ac (ab (ap aa (ar call271 aa) (yd _ _) .free aa aa ?_))))))))
 refine kPv (bu aa) aa (ad (bH aa (rfl) (aw (ac (ab (kPb (gA runUnderlying22 sizeOf24 zeroValue24 aa aa aa) aa fun b6=>(aE aa (ar call46 aa) (ry _ _ _ [1] (by decide) (by decide) (SlR.row aa aa)) .free aa aa ?_)))))))
 rintro _ _ ⟨bd,pa,rfl,rfl⟩
 refine kPa aa aa (ad (ac (ac (ab (kPm aa aa (kPv (cV runUnderlying53 aa aa aa) aa (ad (bH aa (rfl) (aw (ac (ab ?_)))))))))))
 refine kPm aa aa ?_
 refine aQ aa (ar call104 aa) (cS (q:=ax) (fun Fr=>cI _ Fr _ _ _ _)) .free aa aa ?_ ?_
 rotate_left
 ·rintro _ _ ⟨s9,⟨hm9,rfl⟩,rfl⟩
  exact(CJ ((lM (s:=(⟨pa,⟨-1,0⟩,8,fun i=>([1]:List Int).getD i 0,fun i=>([1]:List Int).getD i 0,fun _=>none⟩:Dev)) (i:=0) (v:=5) (show(-1:Int)<0 by decide) ⟨by decide,show(0:Int)<8 by decide⟩).symm.trans hm9)).elim
 rintro _ _ ⟨s1,⟨e1,hm1,rfl⟩,rfl⟩
 obtain⟨rfl,rfl⟩:=CK ((lM (s:=(⟨pa,⟨-1,0⟩,8,fun i=>([1]:List Int).getD i 0,fun i=>([1]:List Int).getD i 0,fun _=>none⟩:Dev)) (i:=0) (v:=5) (show(-1:Int)<0 by decide) ⟨by decide,show(0:Int)<8 by decide⟩).symm.trans hm1)
 refine kPa aa aa (ad (aj [2,1,0] rfl (ac (ab (kPm aa aa (ap aa (ar call101 aa) (bF (q:=ax) (fun Fr=>ck _ Fr _ _ _)) .free aa aa ?_))))))
 refine kPa aa aa (ad (ac (ab (kPm aa aa (aE aa (ar call49 aa) (qs _ _ _ ((⟨pa,⟨-1,0⟩,8,fun i=>([1]:List Int).getD i 0,fun i=>([1]:List Int).getD i 0,fun _=>none⟩:Dev).up.st 0 5) 272 [] (fun _=>0) ⟨call272,fun _=>by decide,fun H _ i _=>BZ B H i⟩) .free aa aa ?_)))))
 rintro _ _ rfl
 refine ad (ac (ab (kPm aa aa (kPv (am aa aa aa) aa (kPm aa aa ?_)))))
 apply dS (tp:=21) (t:=18) (σ1:=[(18,_),(1,_),(0,_)]) 3 rfl (aG rfl)
 ·intro hg1
  refine ao aa (al aa) (.on aa aa (ae hg1)) aa aa (ao aa (am aa aa aa) (.on aa aa (ae hg1)) aa aa (kPv (aB aa hg1 aa) aa ?_))
  exact bf aa (aG aa) (dj hg1)
 ·intro hg1
  refine ay aa (.on aa aa (ai hg1)) aa (ay aa (.on aa aa (ai hg1)) aa (kPv (aJ aa hg1 aa) aa ?_))
  exact bf aa (aG aa) (dl hg1)
 refine kPm aa aa ?_
 apply dS (tp:=26) (t:=22) (σ1:=[(22,_),(1,_),(0,_)]) 4 rfl (aG rfl)
 ·intro hg2
  refine ao aa (al aa) (.on aa aa (ae hg2)) aa aa (ap aa (ar call101 aa) (bF (q:=ax) (fun Fr=>ck _ Fr _ _ _)) (.on aa aa (ae hg2)) aa aa ?_)
  refine ao aa (am aa aa aa) (.on aa aa (ae hg2)) aa aa (kPv (aB aa hg2 aa) aa ?_)
  exact bf aa (aG aa) (dj hg2)
 ·intro hg2
  refine ay aa (.on aa aa (ai hg2)) aa (ay aa (.on aa aa (ai hg2)) aa (ay aa (.on aa aa (ai hg2)) aa (kPv (aJ aa hg2 aa) aa ?_)))
  exact bf aa (aG aa) (dl hg2)
 refine kPm aa aa ?_
 apply dS (tp:=31) (t:=27) (σ1:=[(27,_),(0,_)]) 4 rfl ⟨rfl,rfl,trivial⟩
 ·intro hg3
  refine ao aa (al aa) (.on aa aa (ae hg3)) aa aa (ap aa (ar call103 aa) (bF (q:=ax) (fun Fr=>kQ _ Fr _ _)) (.on aa aa (ae hg3)) aa aa ?_)
  refine ao aa (am aa aa aa) (.on aa aa (ae hg3)) aa aa (kPv (aB aa hg3 aa) aa ?_)
  exact bf aa ⟨rfl,rfl,trivial⟩ (dj hg3)
 ·intro hg3
  refine ay aa (.on aa aa (ai hg3)) aa (ay aa (.on aa aa (ai hg3)) aa (ay aa (.on aa aa (ai hg3)) aa (kPv (aJ aa hg3 aa) aa ?_)))
  exact bf aa ⟨rfl,rfl,trivial⟩ (dl hg3)
 refine kPa aa aa (ad (au ?_))
 exact aq results270 aa (fun w hw=>⟨rfl,hw.tail.tail⟩)
theorem gg:bx ⟨3,1,8⟩:=⟨by decide,by decide,by decide,by decide,by decide,by decide⟩
def eA(w r:Int):Int:=pK .or .u64 (pK .or .u64 12754194144713244672 (IntKind.u64.wrap (IntKind.u64.wrap r*2 ^ min (32:Int).toNat IntKind.u64.bits))) (IntKind.u64.wrap w)
def mo(w r:Int):Int:=if 0≤w∧w≤64∧0≤r∧r≤w then 0 else 5
def q9(w:Int):Int:=IntKind.i64.wrap (IntKind.u32.wrap w)
def ra(w:Int):Int:=IntKind.i64.wrap (pK .and .u64 (w.fdiv (2 ^ min (32:Int).toNat IntKind.u64.bits)) 16777215)
def unp(w:Int):Int×Int×Bool:=if mo (q9 w) (ra w)=0∧eA (q9 w) (ra w)=w then (q9 w,ra w,true) else (0,0,false)
theorem yb(B:World)(H:List HP):
 ∀ w,Holds B H w→Calls Tryz.prog 269 [].toArray w (aZ B H (.bool true)):=by
 refine ak func269 aa ntmps269 aa (ac (ab (kPa aa aa (ad (ac (ac (ab (ap aa (ar call270 aa) (yc _ _) .free aa aa ?_))))))))
 refine kPv (bu aa) aa (ad (bH aa (rfl) (aw (ac (ab (kPv (aR aa (cW _ _ _ aa aa aa)) aa (kPb (aD zeroValue39 aa) aa fun b1=>(kPs (aA (vs:=_) sizeOf39 aa aa aa aa aa) aa (ad (ac (ab ?_)))))))))))
 refine kPv (ah isAgg39 sizeOf39 aa aa) aa ?_
 refine ap aa (ar call22 aa) (iA _ _ ⟨3,1,8⟩) .free aa aa ?_
 refine kPv (am aa aa aa) aa (kPm aa aa ?_)
 apply dS (tp:=12) (t:=8) (σ1:=[(8,_),(1,_),(0,_)]) 4 rfl (aG rfl)
 ·intro hg1
  refine ao aa (ah isAgg39 sizeOf39 aa aa) (.on aa aa (ae hg1)) aa aa ?_
  refine ap aa (ar call108 aa) (fS _ _ ⟨3,1,8⟩ gg) (.on aa aa (ae hg1)) aa aa ?_
  refine ao aa (am aa aa aa) (.on aa aa (ae hg1)) aa aa (kPv (aB aa hg1 aa) aa ?_)
  exact bf aa (aG aa) (dj hg1)
 ·intro hg1
  refine ay aa (.on aa aa (ai hg1)) aa (ay aa (.on aa aa (ai hg1)) aa (ay aa (.on aa aa (ai hg1)) aa (kPv (aJ aa hg1 aa) aa ?_)))
  exact bf aa (aG aa) (dl hg1)
 refine kPm aa aa ?_
 apply dS (tp:=17) (t:=13) (σ1:=[(13,_),(1,_),(0,_)]) 4 rfl (aG rfl)
 ·intro hg2
  refine ao aa (ah isAgg39 sizeOf39 aa aa) (.on aa aa (ae hg2)) aa aa ?_
  refine ap aa (ar call67 aa) (jL _ _ ⟨3,1,8⟩ gg _ (by omega) (by omega)) (.on aa aa (ae hg2)) aa aa ?_
  refine ao aa (am aa aa aa) (.on aa aa (ae hg2)) aa aa (kPv (aB aa hg2 aa) aa ?_)
  exact bf aa (aG aa) (dj hg2)
 ·intro hg2
  refine ay aa (.on aa aa (ai hg2)) aa (ay aa (.on aa aa (ai hg2)) aa (ay aa (.on aa aa (ai hg2)) aa (kPv (aJ aa hg2 aa) aa ?_)))
  exact bf aa (aG aa) (dl hg2)
 refine kPm aa aa ?_
 apply dS (tp:=22) (t:=18) (σ1:=[(18,_),(0,_)]) 4 rfl ⟨rfl,rfl,trivial⟩
 ·intro hg3
  refine ao aa (ah isAgg39 sizeOf39 aa aa) (.on aa aa (ae hg3)) aa aa ?_
  refine ap aa (ar call23 aa) (gy _ _ ⟨3,1,8⟩ gg) (.on aa aa (ae hg3)) aa aa ?_
  refine ao aa (am aa aa aa) (.on aa aa (ae hg3)) aa aa (kPv (aB aa hg3 aa) aa ?_)
  exact bf aa ⟨rfl,rfl,trivial⟩ (dj hg3)
 ·intro hg3
  refine ay aa (.on aa aa (ai hg3)) aa (ay aa (.on aa aa (ai hg3)) aa (ay aa (.on aa aa (ai hg3)) aa (kPv (aJ aa hg3 aa) aa ?_)))
  exact bf aa ⟨rfl,rfl,trivial⟩ (dl hg3)
 refine kPa aa aa (ad (au ?_))
 exact aq results269 aa (fun w hw=>⟨sC (by decide+kernel),hw.tail⟩)
theorem qK(B:World)(H:List HP)(x r:Int):
 ∀ w,Holds B H w→Calls Tryz.prog 137 [.agg #[i64 x,i64 r]].toArray w (aZ B H (i64 (mo x r))):=by
 refine ak func137 aa ntmps137 aa (ac (ab (kPb (aY aa) aa fun b1=>(kPa aa aa (ad (ac (ac (ab (kPl iK isAgg3 aa aa aa aa (kPv (am aa aa aa) aa (kPm aa aa ?_)))))))))))
 apply gJ (tp:=10) (t:=6) (σ1:=[(6,_),(2,_),(1,_)]) 4 rfl (aG rfl)
 ·intro hg1
  refine ao aa (aC (m:=_) iK aa aa) (.on aa aa (ae hg1)) aa aa (ao aa (ag isAgg3 aa aa) (.on aa aa (ae hg1)) aa aa (ao aa (am aa aa aa) (.on aa aa (ae hg1)) aa aa (kPv (aJ aa hg1 aa) aa ?_)))
  exact bf aa (aG aa) (ga hg1)
 ·intro hg1
  refine ay aa (.on aa aa (ai hg1)) aa (ay aa (.on aa aa (ai hg1)) aa (ay aa (.on aa aa (ai hg1)) aa (kPv (aB aa hg1 aa) aa ?_)))
  exact bf aa (aG aa) (f9 hg1)
 refine kPm aa aa ?_
 apply gJ (tp:=15) (t:=11) (σ1:=[(11,_),(2,_),(1,_)]) 4 rfl (aG rfl)
 ·intro hg2
  refine ao aa (aC (m:=_) gC aa aa) (.on aa aa (ae hg2)) aa aa (ao aa (ag isAgg3 aa aa) (.on aa aa (ae hg2)) aa aa (ao aa (am aa aa aa) (.on aa aa (ae hg2)) aa aa (kPv (aJ aa hg2 aa) aa ?_)))
  exact bf aa (aG aa) (ga hg2)
 ·intro hg2
  refine ay aa (.on aa aa (ai hg2)) aa (ay aa (.on aa aa (ai hg2)) aa (ay aa (.on aa aa (ai hg2)) aa (kPv (aB aa hg2 aa) aa ?_)))
  exact bf aa (aG aa) (f9 hg2)
 refine kPm aa aa ?_
 apply gJ (tp:=22) (t:=16) (σ1:=[(16,_),(2,_)]) 6 rfl ⟨rfl,rfl,trivial⟩
 ·intro hg3
  refine ao aa (aC (m:=_) gC aa aa) (.on aa aa (ae hg3)) aa aa (ao aa (ag isAgg3 aa aa) (.on aa aa (ae hg3)) aa aa (ao aa (aC (m:=_) iK aa aa) (.on aa aa (ae hg3)) aa aa (ao aa (ag isAgg3 aa aa) (.on aa aa (ae hg3)) aa aa (ao aa (am aa aa aa) (.on aa aa (ae hg3)) aa aa (kPv (aJ aa hg3 aa) aa ?_)))))
  exact bf aa ⟨rfl,rfl,trivial⟩ (ga hg3)
 ·intro hg3
  refine ay aa (.on aa aa (ai hg3)) aa (ay aa (.on aa aa (ai hg3)) aa (ay aa (.on aa aa (ai hg3)) aa (ay aa (.on aa aa (ai hg3)) aa (ay aa (.on aa aa (ai hg3)) aa (kPv (aB aa hg3 aa) aa ?_)))))
  exact bf aa ⟨rfl,rfl,trivial⟩ (f9 hg3)
 refine ad ?_
 refine aV aa (fun h22=> ?_) (fun h22=> ?_)
 ·try simp only[decide_eq_true_eq,decide_eq_false_iff_not,Bool.not_eq_true',Bool.not_eq_false',Bool.or_eq_true,Bool.and_eq_true,Bool.and_eq_false_iff,Bool.or_eq_false_iff,beq_iff_eq,bne_iff_ne,beq_eq_false_iff_ne,bne_eq_false_iff_eq,ge_iff_le,gt_iff_lt,ne_eq] at h22
  refine ac (ab (kPa aa aa (ad (au ?_))))
  exact aq results137 aa (fun w hw=>⟨by unfold mo;rw[if_neg (by omega)],hw.tail⟩)
 ·try simp only[decide_eq_true_eq,decide_eq_false_iff_not,Bool.not_eq_true',Bool.not_eq_false',Bool.or_eq_true,Bool.and_eq_true,Bool.and_eq_false_iff,Bool.or_eq_false_iff,beq_iff_eq,bne_iff_ne,beq_eq_false_iff_ne,bne_eq_false_iff_eq,ge_iff_le,gt_iff_lt,ne_eq] at h22
  refine aw (ac (ab (kPa aa aa (ad (au ?_)))))
  exact aq results137 aa (fun w hw=>⟨by unfold mo;rw[if_pos (by omega)],hw.tail⟩)
theorem pg(B:World)(H:List HP)(x r:Int):
 ∀ w,Holds B H w→Calls Tryz.prog 140 [.agg #[i64 x,i64 r]].toArray w (aZ B H (w64 (eA x r))):=by
 refine ak func140 aa ntmps140 aa (ac (ab (kPb (aY aa) aa fun b1=>(kPa aa aa (ad (ac (ab (kPl gC isAgg3 aa aa aa aa (kPv (bY runUnderlying3 runUnderlying24 aa) aa ?_)))))))))
 first | refine ao rfl (u5 rfl rfl (by decide) rfl) .free rfl rfl ?_ | refine ao rfl (u5 rfl rfl (by omega) rfl) .free rfl rfl ?_
 refine kPv (zY aa aa aa) aa (kPl iK isAgg3 aa aa aa aa (kPv (bY runUnderlying3 runUnderlying24 aa) aa (kPv (zY aa aa aa) aa (kPa aa aa (ad (aj [2] rfl (au ?_)))))))
 exact aq results140 aa (fun w hw=>⟨rfl,hw.tail⟩)
theorem eJ(B:World)(H:List HP)(x r:Int)(h:0≤x∧x≤1000000):
 ∀ w,Holds B H w→Calls Tryz.prog 138 [.agg #[i64 x,i64 r]].toArray w (aZ B H (i64 (x+1))):=by
 refine ak func138 aa ntmps138 aa (ac (ab (kPb (aY aa) aa fun b1=>(kPa aa aa (ad (ac (ab (kPl iK isAgg3 aa aa aa aa (kPv (aP aa aa) aa (kPa aa aa (ad ?_)))))))))))
 refine au ?_
 exact aq results138 aa (fun w hw=>⟨rfl,hw.tail⟩)
theorem iZ(B:World)(H:List HP)(v:Int):
 ∀ w,Holds B H w→Calls Tryz.prog 176 [w64 v].toArray w (aZ B H (.tuple #[.agg #[i64 (unp v).1,i64 (unp v).2.1],.bool (unp v).2.2])):=by
 refine ak func176 aa ntmps176 aa (ac (ab (kPb (aD zeroValue63 aa) aa fun b2=>(kPa aa aa (ad (ac (ab (kPm aa aa (kPv (cR runUnderlying24 runUnderlying237 aa aa) aa (kPv (bY runUnderlying237 runUnderlying3 aa) aa (kPm aa aa ?_)))))))))))
 first | refine ao rfl (u4 rfl rfl (by decide) rfl) .free rfl rfl ?_ | refine ao rfl (u4 rfl rfl (by omega) rfl) .free rfl rfl ?_
 refine kPv (pz aa aa aa) aa (kPv (bY runUnderlying24 runUnderlying3 aa) aa (kPv (aR aa (lD _ _ aa aa)) aa (kPb (aD zeroValue63 aa) aa fun b4=>(kPs (aA (vs:=_) sizeOf63 aa aa aa aa aa) aa (ad (aj [4,3,2,0] rfl (ac (ac (ab (kPv (ah isAgg63 sizeOf63 aa aa) aa ?_))))))))))
 refine ap aa (ar call137 aa) (qK _ _ (q9 v) (ra v)) .free aa aa ?_
 refine kPv (am aa aa aa) aa (kPm aa aa ?_)
 apply gJ (tp:=21) (t:=16) (σ1:=[(16,_),(4,_),(3,_),(2,_)]) 5 rfl (aG rfl)
 ·intro hg1
  refine ao aa (ah isAgg63 sizeOf63 aa aa) (.on aa aa (ae hg1)) aa aa ?_
  refine ap aa (ar call140 aa) (pg _ _ (q9 v) (ra v)) (.on aa aa (ae hg1)) aa aa ?_
  refine ao aa (al aa) (.on aa aa (ae hg1)) aa aa (ao aa (am aa aa aa) (.on aa aa (ae hg1)) aa aa (kPv (aJ aa hg1 aa) aa ?_))
  exact bf aa (aG aa) (ga hg1)
 ·intro hg1
  refine ay aa (.on aa aa (ai hg1)) aa (ay aa (.on aa aa (ai hg1)) aa (ay aa (.on aa aa (ai hg1)) aa (ay aa (.on aa aa (ai hg1)) aa (kPv (aB aa hg1 aa) aa ?_))))
  exact bf aa (aG aa) (f9 hg1)
 refine ad ?_
 refine aV aa (fun h21=> ?_) (fun h21=> ?_)
 ·have hbad:¬ (mo (q9 v) (ra v)=0∧eA (q9 v) (ra v)=v):=by
   rintro⟨q1,q2⟩
   rw[q1,q2] at h21;simp at h21
  refine ac (ab (kPv (aR aa (De)) aa (kPs (aA (vs:=_) sizeOf63 aa aa aa aa aa) aa (kPa aa aa (ad (au ?_))))))
  exact fY results176 (.cellA aa isAgg63 sizeOf63 aa aa) (.tmp aa) (fun w hw=>⟨by unfold unp;rw[if_neg hbad];rfl,hw.tail.tail⟩)
 ·have hgd:mo (q9 v) (ra v)=0∧eA (q9 v) (ra v)=v:=by simpa using h21
  refine aw (ac (ab (kPv (ah isAgg63 sizeOf63 aa aa) aa ?_)))
  refine kPs (aA (vs:=_) sizeOf63 aa aa aa aa aa) aa (kPa aa aa (ad (au ?_)))
  exact fY results176 (.cellA aa isAgg63 sizeOf63 aa aa) (.tmp aa) (fun w hw=>⟨by unfold unp;rw[if_pos hgd];rfl,hw.tail.tail⟩)
theorem ya(B:World)(H:List HP):
 ∀ w,Holds B H w→Calls Tryz.prog 268 [].toArray w (aZ B H (.bool true)):=by
 refine ak func268 aa ntmps268 aa (ac (ab (kPa aa aa (ad (ac (ac (ab (ap aa (ar call269 aa) (yb _ _) .free aa aa ?_))))))))
 refine kPv (bu aa) aa (ad (bH aa (rfl) (aw (ac (ab (ap aa (ar call176 aa) (iZ _ _ _) .free aa aa ?_))))))
 refine kPm aa aa (kPv (az aa aa) aa (kPv (az aa aa) aa (kPb (aD zeroValue63 aa) aa fun b1=>(kPs (aA (vs:=_) sizeOf63 aa aa aa aa aa) aa (kPa aa aa (ad (ac (ab (kPm aa aa (kPm aa aa ?_))))))))))
 apply dS (tp:=14) (t:=10) (σ1:=[(10,_),(1,_),(0,_)]) 4 rfl (aG rfl)
 ·intro hg1
  refine ao aa (aC (m:=_) iK aa aa) (.on aa aa (ae hg1)) aa aa (ao aa (ag isAgg3 aa aa) (.on aa aa (ae hg1)) aa aa (ao aa (am aa aa aa) (.on aa aa (ae hg1)) aa aa (kPv (aB aa hg1 aa) aa ?_)))
  exact bf aa (aG aa) (dj hg1)
 ·intro hg1
  refine ay aa (.on aa aa (ai hg1)) aa (ay aa (.on aa aa (ai hg1)) aa (ay aa (.on aa aa (ai hg1)) aa (kPv (aJ aa hg1 aa) aa ?_)))
  exact bf aa (aG aa) (dl hg1)
 refine kPm aa aa ?_
 apply dS (tp:=19) (t:=15) (σ1:=[(15,_),(1,_),(0,_)]) 4 rfl (aG rfl)
 ·intro hg2
  refine ao aa (aC (m:=_) gC aa aa) (.on aa aa (ae hg2)) aa aa (ao aa (ag isAgg3 aa aa) (.on aa aa (ae hg2)) aa aa (ao aa (am aa aa aa) (.on aa aa (ae hg2)) aa aa (kPv (aB aa hg2 aa) aa ?_)))
  exact bf aa (aG aa) (dj hg2)
 ·intro hg2
  refine ay aa (.on aa aa (ai hg2)) aa (ay aa (.on aa aa (ai hg2)) aa (ay aa (.on aa aa (ai hg2)) aa (kPv (aJ aa hg2 aa) aa ?_)))
  exact bf aa (aG aa) (dl hg2)
 refine kPm aa aa ?_
 apply dS (tp:=24) (t:=20) (σ1:=[(20,_),(1,_),(0,_)]) 4 rfl (aG rfl)
 ·intro hg3
  refine ao aa (ah isAgg63 sizeOf63 aa aa) (.on aa aa (ae hg3)) aa aa ?_
  refine ap aa (ar call138 aa) (eJ _ _ _ _ ⟨by decide,by decide⟩) (.on aa aa (ae hg3)) aa aa ?_
  refine ao aa (am aa aa aa) (.on aa aa (ae hg3)) aa aa (kPv (aB aa hg3 aa) aa ?_)
  exact bf aa (aG aa) (dj hg3)
 ·intro hg3
  refine ay aa (.on aa aa (ai hg3)) aa (ay aa (.on aa aa (ai hg3)) aa (ay aa (.on aa aa (ai hg3)) aa (kPv (aJ aa hg3 aa) aa ?_)))
  exact bf aa (aG aa) (dl hg3)
 refine kPm aa aa ?_
 apply dS (tp:=29) (t:=25) (σ1:=[(25,_),(0,_)]) 4 rfl ⟨rfl,rfl,trivial⟩
 ·intro hg4
  refine ao aa (ah isAgg63 sizeOf63 aa aa) (.on aa aa (ae hg4)) aa aa ?_
  refine ap aa (ar call140 aa) (pg _ _ _ _) (.on aa aa (ae hg4)) aa aa ?_
  refine ao aa (am aa aa aa) (.on aa aa (ae hg4)) aa aa (kPv (aB aa hg4 aa) aa ?_)
  exact bf aa ⟨rfl,rfl,trivial⟩ (dj hg4)
 ·intro hg4
  refine ay aa (.on aa aa (ai hg4)) aa (ay aa (.on aa aa (ai hg4)) aa (ay aa (.on aa aa (ai hg4)) aa (kPv (aJ aa hg4 aa) aa ?_)))
  exact bf aa ⟨rfl,rfl,trivial⟩ (dl hg4)
 refine kPa aa aa (ad (au ?_))
 exact aq results268 aa (fun w hw=>⟨sC (by decide+kernel),hw.tail⟩)
end Go.Proofs.YtipdhkmphngmoaaGreatDoor
