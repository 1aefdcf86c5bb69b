/- Part of a law's texts. Conditions: none. -/
import Derived.Test.YtoakdoeajpjgkaaGreatDoorQL18Rf
open Go.Proofs.Tryz
set_option linter.all false
namespace Go.Proofs.YtoakdoeajpjgkaaGreatDoor
open Go
structure bC where
 L:bM
 ff:Int
 ft:Int
 seen:List (Int×Unit)
 dirty:List (Int×Unit)
abbrev c9(b bl:Nat)(S:bC)(o:Bool)(m1 m2:Option Nat):HP:=row b [ptr bl,ptr S.L.d,i64 S.L.c.log,i64 S.L.c.roots,i64 S.L.c.space,.bool o,i64 S.ff,i64 S.ft,.map m1,.map m2] 171
def fx(b:Nat)(S:bC):HP:=hex fun (x:Nat×Option Nat×Option Nat)=>grp [c9 b x.1 S false x.2.1 x.2.2,cV x.1 S.L]
def iN(b:Nat)(S:bC):HP:=hex fun (x:Nat×Nat×Nat)=>grp [c9 b x.1 S true (some x.2.1) (some x.2.2),cV x.1 S.L,bx .i64 bX x.2.1 S.seen,bx .i64 bX x.2.2 S.dirty]
theorem kL{B:World}{n:Nat}{D:List Deferred}{σ:Env}{b:Nat}{S:bC}{Fr:List HP}{K:Act→World→Prop}(h:∀ bl o1 o2,GO B n D σ (c9 b bl S false o1 o2::cV bl S.L::Fr) K):GO B n D σ (fx b S::Fr) K:=fun a w st=>by
 obtain⟨x,hx⟩:=st.holds.hex
 exact h _ _ _ a w ⟨st.toStA,hx.grp⟩
theorem lO{B:World}{n:Nat}{D:List Deferred}{σ:Env}{b:Nat}{S:bC}{Fr:List HP}{K:Act→World→Prop}(h:∀ bl o1 o2,GO B n D σ (c9 b bl S true (some o1) (some o2)::cV bl S.L::bx .i64 bX o1 S.seen::bx .i64 bX o2 S.dirty::Fr) K):GO B n D σ (iN b S::Fr) K:=fun a w st=>by
 obtain⟨x,hx⟩:=st.holds.hex
 exact h _ _ _ a w ⟨st.toStA,hx.grp⟩
theorem dP{B:World}{b bl:Nat}{o1 o2:Option Nat}{S:bC}{Fr:List HP}{w:World}(h:Holds B (c9 b bl S false o1 o2::cV bl S.L::Fr) w):Holds B (fx b S::Fr) w:=
 Holds.unhex (bl,o1,o2) (Holds.ungrp (l:=[c9 b bl S false o1 o2,cV bl S.L]) h)
theorem fj{B:World}{b bl o1 o2:Nat}{S:bC}{Fr:List HP}{w:World}(h:Holds B (c9 b bl S true (some o1) (some o2)::cV bl S.L::bx .i64 bX o1 S.seen::bx .i64 bX o2 S.dirty::Fr) w):Holds B (iN b S::Fr) w:=
 Holds.unhex (bl,o1,o2) (Holds.ungrp (l:=[c9 b bl S true (some o1) (some o2),cV bl S.L,bx .i64 bX o1 S.seen,bx .i64 bX o2 S.dirty]) h)
structure lv(S:bC):Prop where
 L:dF S.L
 dirty:∀ p∈S.dirty,0≤p.1∧p.1≤1000000
theorem vP(o:Option Unit):(Value.tuple #[pC bX (.agg #[]) o,.bool o.isSome])= .tuple #[.agg #[],.bool o.isSome]:=by cases o<;>rfl
def bC.store(S:bC)(s:Dev)(i v:Int):Out (Int×bC):=
 if i<S.L.c.active∨(s.n:Int)≤i then .ok (1,S) s
 else if (bK S.seen i).isSome=false∧(i<S.ff∨S.ft≤i) then
  (S.L.append s i).then fun x s=>if x.1≠0 then .ok (x.1,{S with L:=x.2}) s else
   (s.store i v).then fun _ s=> .ok (0,{S with L:=x.2,seen:=mset S.seen i (),dirty:=mset S.dirty (i / 8) ()}) s
 else (s.store i v).then fun _ s=> .ok (0,{S with dirty:=mset S.dirty (i / 8) ()}) s
def dA:List Int→Dev→Out Unit
 | [],s=> .ok () s
 | k::ks,s=>(s.flush (k*8)).then fun _ s=>dA ks s
def bC.commit(S:bC)(s:Dev):Out bC:=
 (dA (bY (S.dirty.map Prod.fst)) s).then fun _ s=>(if 0<S.dirty.length then s.fence else .ok () s).then fun _ s=>(S.L.truncate s).then fun L s=> .ok {S with L:=L} s
def bC.abort(S:bC)(s:Dev):Out bC:=(S.L.undo s).then fun L s=> .ok {S with L:=L} s
theorem jn{S:bC}{s:Dev}{i v:Int}(h:¬i<S.L.c.active∧¬(s.n:Int)≤i)(hno:¬((bK S.seen i).isSome=false∧(i<S.ff∨S.ft≤i))):S.store s i v=(s.store i v).then fun _ s=> .ok (0,{S with dirty:=mset S.dirty (i / 8) ()}) s:=by
 unfold bC.store
 rw[if_neg (by omega),if_neg hno]
theorem mB{L L':bM}{s s':Dev}{i a:Int}(h:L.append s i= .ok (a,L') s'):L'.d=L.d∧L'.c=L.c:=by
 unfold bM.append at h
 split at h
 ·cases h;exact⟨rfl,rfl⟩
 ·split at h
  ·cases h;exact⟨rfl,rfl⟩
  ·simp only[Out.then] at h
   repeat' split at h
   all_goals first | (cases h;exact⟨rfl,rfl⟩) | cases h
theorem qF{L L':bM}{s s':Dev}(h:L.truncate s= .ok L' s'):L'.d=L.d∧L'.c=L.c:=by
 unfold bM.truncate at h
 split at h
 ·cases h;exact⟨rfl,rfl⟩
 ·simp only[Out.then] at h
  repeat' split at h
  all_goals first | (cases h;exact⟨rfl,rfl⟩) | cases h
theorem me(B:World)(Fr:List HP)(b:Nat)(S:bC):
 ∀ w,Holds B (fx b S::Fr) w→Calls Tryz.prog 80 [ptr b].toArray w (aZ B (fx b S::Fr) (.bool false)):=by
 refine ao func80 aa ntmps80 aa (kL fun bl o1 o2=>(ac (ab (kPa aa aa (ad (ac (ab (kPf dK isAgg4 aa aa aa aa (kPa aa aa (ad (az ?_)))))))))))
 exact au results80 aa (fun w hh=>⟨rfl,dP hh⟩)
theorem wV(B:World)(Fr:List HP)(b:Nat)(S:bC):
 ∀ w,Holds B (iN b S::Fr) w→Calls Tryz.prog 80 [ptr b].toArray w (aZ B (iN b S::Fr) (.bool true)):=by
 refine ao func80 aa ntmps80 aa (lO fun bl o1 o2=>(ac (ab (kPa aa aa (ad (ac (ab (kPf dK isAgg4 aa aa aa aa (kPa aa aa (ad (az ?_)))))))))))
 exact au results80 aa (fun w hh=>⟨rfl,fj hh⟩)
theorem r6(B:World)(Fr:List HP)(b:Nat)(S:bC):
 ∀ w,Holds B (fx b S::Fr) w→Calls Tryz.prog 89 [ptr b].toArray w (aZ B (fx b S::Fr) (i64 2)):=by
 refine ao func89 aa ntmps89 aa (kL fun bl o1 o2=>(ac (ab (kPa aa aa (ad (ac (ac (ab (kPf dK isAgg4 aa aa aa aa (kPv (bz aa) aa (ad ?_)))))))))))
 refine tn aa (rfl) (ac (ab (kPa aa aa (ad (az ?_)))))
 exact au results89 aa (fun w hh=>⟨rfl,dP hh⟩)
theorem nM(B:World)(Fr:List HP)(b:Nat)(S:bC)(s:Dev)(hL:lv S)(i v:Int):
 ∀ w,Holds B (iN b S::aB S.L.d s::Fr) w→Calls Tryz.prog 86 [ptr b,i64 i,w64 v].toArray w (Ret B (fun rv H'=>∃ a S' s',S.store s i v= .ok (a,S') s'∧rv=i64 a∧H'=iN b S'::aB S.L.d s'::Fr) (fun c H'=>∃ s',S.store s i v= .off s'∧c=dR∧H'=aB S.L.d s'::Fr)):=by
 refine ao func86 aa ntmps86 aa ?_
 have hl:=hL.L
 have hc:=hl.c
 have hc1:=hc.r1
 have hc2:=hc.r2
 have hc3:=hc.l1
 have hc4:=hc.l2
 have hact:=hc.act
 refine kY S.L.d fun hn1 hn2 hn3=>(lO fun bl o1 o2=>(ac (ab (kPa aa aa (ad (ac (aH (ac (ab (kPf dK isAgg4 aa aa aa aa (kPv (bz aa) aa ?_)))))))))))
 refine kPa aa aa (ad (bI aa (rfl) (ac (ab (kPm aa aa (kPm aa aa (kPv (aK aa) aa (kPv (aD (m:=_) zG aa aa) aa (kPv (ag isAgg134 sizeOf134 aa aa) aa ?_)))))))))
 refine aw aa (ar call142 aa) (fH _ _ S.L.c hL.L.c) .free aa aa ?_
 refine kPv (an aa aa aa) aa (kPm aa aa ?_)
 apply gB (tp:=32) (t:=24) (σ1:=[(24,_),(6,_),(0,_),(1,_),(2,_)]) 8 rfl (aE rfl)
 ·intro hg1
  refine al aa (ak aa) (.on aa aa (ae hg1)) aa aa (al aa (ak aa) (.on aa aa (ae hg1)) aa aa (al aa (aK aa) (.on aa aa (ae hg1)) aa aa (al aa (aD (m:=_) kj aa aa) (.on aa aa (ae hg1)) aa aa (al aa (ai isAgg90 aa aa) (.on aa aa (ae hg1)) aa aa (aw aa (ar call143 aa) (bH (q:=aB) (fun Fr=>kH _ Fr _ _)) (.on aa aa (ae hg1)) aa aa ?_)))))
  refine al aa (an aa aa aa) (.on aa aa (ae hg1)) aa aa (kPv (aG aa hg1 aa) aa ?_)
  exact aY aa (aE aa) (fR hg1)
 ·intro hg1
  refine ap aa (.on aa aa (ah hg1)) aa (ap aa (.on aa aa (ah hg1)) aa (ap aa (.on aa aa (ah hg1)) aa (ap aa (.on aa aa (ah hg1)) aa (ap aa (.on aa aa (ah hg1)) aa (ap aa (.on aa aa (ah hg1)) aa (ap aa (.on aa aa (ah hg1)) aa (kPv (ay aa hg1 aa) aa ?_)))))))
  exact aY aa (aE aa) (fQ hg1)
 refine kPa aa aa (ad ?_)
 refine a8 aa (fun h16=> ?_) (fun h16=> ?_)
 ·try simp only[decide_eq_true_eq,decide_eq_false_iff_not,Bool.not_eq_true',Bool.not_eq_false',Bool.or_eq_true,Bool.and_eq_true,Bool.and_eq_false_iff,Bool.or_eq_false_iff,beq_iff_eq,bne_iff_ne,beq_eq_false_iff_ne,bne_eq_false_iff_eq,ge_iff_le,gt_iff_lt,ne_eq] at h16
  refine ac (ab (kPa aa aa (ad (az ?_))))
  exact au results86 aa (fun w hh=>⟨_,⟨1,S,s,by simp[bC.store, *],rfl,rfl⟩,fj hh⟩)
 ·try simp only[decide_eq_true_eq,decide_eq_false_iff_not,Bool.not_eq_true',Bool.not_eq_false',Bool.or_eq_true,Bool.and_eq_true,Bool.and_eq_false_iff,Bool.or_eq_false_iff,beq_iff_eq,bne_iff_ne,beq_eq_false_iff_ne,bne_eq_false_iff_eq,ge_iff_le,gt_iff_lt,ne_eq] at h16
  refine aq (ac (ac (ab (kPf lW isAgg169 aa aa aa aa (kPm aa aa (kPv ((fp runUnderlying169 runUnderlying3 zeroValue214 aa aa).eq (vP _)) aa (kPm aa aa (kPv (aA aa aa) aa (kPv (aA aa aa) aa (kPb (aC zeroValue214 aa) aa fun b7=>(kPs (ax (vs:=[]) sizeOf214 aa aa aa aa aa) aa ?_)))))))))))
  refine kPa aa aa (ad (am [8,6,0,1,2] rfl (ac (ab (kPm aa aa (kPv (bz aa) aa (kPm aa aa ?_)))))))
  apply dH (tp:=61) (t:=44) (σ1:=[(44,_),(6,_),(0,_),(1,_),(2,_)]) 17 rfl (aE rfl)
  ·intro hg2
   refine al aa (ak aa) (.on aa aa (ae hg2)) aa aa (al aa (ak aa) (.on aa aa (ae hg2)) aa aa (al aa (aK aa) (.on aa aa (ae hg2)) aa aa (al aa (aD (m:=_) lX aa aa) (.on aa aa (ae hg2)) aa aa (al aa (aD (m:=_) zI aa aa) (.on aa aa (ae hg2)) aa aa (al aa (ai isAgg3 aa aa) (.on aa aa (ae hg2)) aa aa (al aa (an aa aa aa) (.on aa aa (ae hg2)) aa aa (al aa (ak aa) (.on aa aa (ae hg2)) aa aa ?_)))))))
   apply gB (tp:=60) (t:=52) (σ1:=[(52,_),(44,_),(6,_),(0,_),(1,_),(2,_)]) 8 rfl (aE rfl)
   ·intro hg3
    refine al aa (ak aa) (.on aa aa (ae hg3)) aa aa (al aa (ak aa) (.on aa aa (ae hg3)) aa aa (al aa (aK aa) (.on aa aa (ae hg3)) aa aa (al aa (aD (m:=_) lX aa aa) (.on aa aa (ae hg3)) aa aa (al aa (aD (m:=_) zH aa aa) (.on aa aa (ae hg3)) aa aa (al aa (ai isAgg3 aa aa) (.on aa aa (ae hg3)) aa aa (al aa (an aa aa aa) (.on aa aa (ae hg3)) aa aa (al aa (aG aa hg3 aa) (.on aa aa (ae hg2)) aa aa ?_)))))))
    exact aY aa (aE aa) (fR hg3)
   ·intro hg3
    refine ap aa (.on aa aa (ah hg3)) aa (ap aa (.on aa aa (ah hg3)) aa (ap aa (.on aa aa (ah hg3)) aa (ap aa (.on aa aa (ah hg3)) aa (ap aa (.on aa aa (ah hg3)) aa (ap aa (.on aa aa (ah hg3)) aa (ap aa (.on aa aa (ah hg3)) aa (al aa (ay aa hg3 aa) (.on aa aa (ae hg2)) aa aa ?_)))))))
    exact aY aa (aE aa) (fQ hg3)
   refine kPv (ay aa hg2 aa) aa ?_
   exact aY aa (aE aa) (cS hg2)
  ·intro hg2
   refine ap aa (.on aa aa (ah hg2)) aa (ap aa (.on aa aa (ah hg2)) aa (ap aa (.on aa aa (ah hg2)) aa (ap aa (.on aa aa (ah hg2)) aa (ap aa (.on aa aa (ah hg2)) aa (ap aa (.on aa aa (ah hg2)) aa (ap aa (.on aa aa (ah hg2)) aa (ap aa (.on aa aa (ah hg2)) aa (ap aa (.und aa aa) aa (ap aa (.und aa aa) aa (ap aa (.und aa aa) aa (ap aa (.und aa aa) aa ?_)))))))))))
   refine ap aa (.und aa aa) aa (ap aa (.und aa aa) aa (ap aa (.und aa aa) aa (ap aa (.on aa aa (ah hg2)) aa (kPv (aG aa hg2 aa) aa ?_))))
   exact aY aa (aE aa) (cU hg2)
  refine ad ?_
  refine a8 aa (fun h61=> ?_) (fun h61=> ?_)
  ·try simp only[decide_eq_true_eq,decide_eq_false_iff_not,Bool.not_eq_true',Bool.not_eq_false',Bool.or_eq_true,Bool.and_eq_true,Bool.and_eq_false_iff,Bool.or_eq_false_iff,beq_iff_eq,bne_iff_ne,beq_eq_false_iff_ne,bne_eq_false_iff_eq,ge_iff_le,gt_iff_lt,ne_eq] at h61
   refine ac (ac (ab (aM (H':=cV bl S.L::aB S.L.d s::row b7 [] 214::c9 b bl S true (some o1) (some o2)::bx .i64 bX o1 S.seen::bx .i64 bX o2 S.dirty::Fr) (fun w hh=>((hh.front 5 aa).front 3 aa)) (kPf ik isAgg168 aa aa aa aa (kPm aa aa ?_)))))
   refine aU aa (ar call144 aa) (oD _ _ bl S.L _ hL.L i) .free aa aa ?_ ?_
   rotate_left
   ·rintro _ _ ⟨s9,hm9,rfl,rfl⟩
    exact ba fun w hh=>⟨_,⟨s9,by simp[bC.store, *],rfl,rfl⟩,(((((hh.front 5 aa).front 5 aa).front 5 aa).front 5 aa).front 4 aa).tail.tail.tail.tail.tail⟩
   rintro _ _ ⟨a1,L1,s1,hm1,rfl,rfl⟩
   refine kPa aa aa (ad (am [9,6,0,1,2] rfl (ac (ab (kPm aa aa (kPv (an aa aa aa) aa (ad ?_)))))))
   refine a8 aa (fun h69=> ?_) (fun h69=> ?_)
   ·try simp only[decide_eq_true_eq,decide_eq_false_iff_not,Bool.not_eq_true',Bool.not_eq_false',Bool.or_eq_true,Bool.and_eq_true,Bool.and_eq_false_iff,Bool.or_eq_false_iff,beq_iff_eq,bne_iff_ne,beq_eq_false_iff_ne,bne_eq_false_iff_eq,ge_iff_le,gt_iff_lt,ne_eq] at h69
    refine ac (ab (kPm aa aa (kPa aa aa (ad (az ?_)))))
    exact au results86 aa (fun w hh=>by
   have hd1:=mB hm1
   obtain⟨d1,c1,e1,n1⟩:=L1
   obtain⟨hd2,hd3⟩:=hd1
   simp only at hd2 hd3
   subst hd2;subst hd3
   exact⟨_,⟨a1,{S with L:=⟨_,_,e1,n1⟩},_,by simp[bC.store, *],rfl,rfl⟩,fj ((((((hh.front 2 aa).tail.front 1 aa).front 4 aa).front 4 aa).front 3 aa).front 4 aa)⟩)
   ·try simp only[decide_eq_true_eq,decide_eq_false_iff_not,Bool.not_eq_true',Bool.not_eq_false',Bool.or_eq_true,Bool.and_eq_true,Bool.and_eq_false_iff,Bool.or_eq_false_iff,beq_iff_eq,bne_iff_ne,beq_eq_false_iff_ne,bne_eq_false_iff_eq,ge_iff_le,gt_iff_lt,ne_eq] at h69
    refine aq (ab (kPf lW isAgg169 aa aa aa aa (kPm aa aa (kPv (aP aa (nw)) aa (kPs (gt (u:=()) runUnderlying169 runUnderlying3 aa aa aa aa) aa (ad (am [6,0,1,2] rfl (ac (ab (kPf kj isAgg90 aa aa aa aa (kPm aa aa ?_)))))))))))
    refine kPm aa aa ?_
    refine aU aa (ar call145 aa) (cD (q:=aB) (fun Fr=>cz _ Fr _ _ _ _)) .free aa aa ?_ ?_
    rotate_left
    ·first
      | (rintro _ _ ⟨s9,⟨hm9,rfl⟩,rfl⟩;exact ba fun w hh=>⟨_,⟨s9,by simp[bC.store, *],rfl,rfl⟩,(((((hh.front 5 aa).front 5 aa).front 5 aa).front 5 aa).front 4 aa).tail.tail.tail.tail.tail⟩)
      | (rintro _ _ ⟨s9,⟨hm9,rfl⟩,rfl⟩;exact ba fun w hh=>⟨_,⟨s9,by simp[jn h16 hno,hm9],rfl,rfl⟩,(((((hh.front 4 aa).front 4 aa).front 4 aa).front 4 aa).front 4 aa).tail.tail.tail.tail.tail⟩)
    rintro _ _ ⟨s2,⟨e2,hm2,rfl⟩,rfl⟩
    refine ad (am [6,0,1] rfl (ac (ab (kPf i7 isAgg169 aa aa aa aa (kPm aa aa (kPv (kq aa aa (by decide) (Cw (by omega) (by omega))) aa (kPv (aP aa (nw)) aa (kPs (gt (u:=()) runUnderlying169 runUnderlying3 aa aa aa aa) aa (ad (am [6] rfl (ac ?_)))))))))))
    refine ab (kPa aa aa (ad (az ?_)))
    exact au results86 aa (fun w hh=>by
   have hd1:=mB hm1
   obtain⟨d1,c1,e1,n1⟩:=L1
   obtain⟨hd2,hd3⟩:=hd1
   simp only at hd2 hd3
   subst hd2;subst hd3
   exact⟨_,⟨0,{S with L:=⟨_,_,e1,n1⟩,seen:=mset S.seen i (),dirty:=mset S.dirty (i / 8) ()},_,by simp[bC.store, *],rfl,rfl⟩,fj ((((((hh.front 2 aa).tail.front 1 aa).front 4 aa).front 4 aa).front 3 aa).front 4 aa)⟩)
  ·have hno:¬((bK S.seen i).isSome=false∧(i<S.ff∨S.ft≤i)):=by
    rintro⟨q1,q2⟩
    rw[q1] at h61
    simp at h61;omega
   refine aq (ac (ab (kPf kj isAgg90 aa aa aa aa (kPm aa aa (kPm aa aa ?_)))))
   refine aU aa (ar call145 aa) (cD (q:=aB) (fun Fr=>cz _ Fr _ _ _ _)) .free aa aa ?_ ?_
   rotate_left
   ·first
     | (rintro _ _ ⟨s9,⟨hm9,rfl⟩,rfl⟩;exact ba fun w hh=>⟨_,⟨s9,by simp[bC.store, *],rfl,rfl⟩,(((((hh.front 5 aa).front 5 aa).front 5 aa).front 5 aa).front 4 aa).tail.tail.tail.tail.tail⟩)
     | (rintro _ _ ⟨s9,⟨hm9,rfl⟩,rfl⟩;exact ba fun w hh=>⟨_,⟨s9,by simp[jn h16 hno,hm9],rfl,rfl⟩,(((((hh.front 4 aa).front 4 aa).front 4 aa).front 4 aa).front 4 aa).tail.tail.tail.tail.tail⟩)
   rintro _ _ ⟨s3,⟨e3,hm3,rfl⟩,rfl⟩
   refine ad (am [6,0,1] rfl (ac (ab (kPf i7 isAgg169 aa aa aa aa (kPm aa aa (kPv (kq aa aa (by decide) (Cw (by omega) (by omega))) aa (kPv (aP aa (nw)) aa (kPs (gt (u:=()) runUnderlying169 runUnderlying3 aa aa aa aa) aa (ad (am [6] rfl (ac ?_)))))))))))
   refine ab (kPa aa aa (ad (az ?_)))
   exact au results86 aa (fun w hh=>⟨_,⟨0,{S with dirty:=mset S.dirty (i / 8) ()},_,by simp[jn h16 hno,hm3],rfl,rfl⟩,fj (((((hh.tail.front 4 aa).front 4 aa).front 4 aa).front 4 aa).front 4 aa)⟩)
theorem zt{B:World}{n:Nat}{D:List Deferred}{σ:Env}{sv:Value}{xs:List Int}{Fr:List HP}{K:Act→World→Prop}(h:∀ q cap,sv= .slice q xs.length cap→GO B n D σ (ix 0 (sv,xs)::Fr) K):GO B n D σ (ix 0 (sv,xs)::Fr) K:=fun a w st=>by
 rcases jz st.holds with ⟨e1,e2,_⟩ | ⟨bd,rest,e,_⟩
 ·exact h none 0 (by rw[e2,e1];rfl) a w st
 ·exact h _ _ e a w st
theorem Bj{B:World}{n:Nat}{D:List Deferred}{σ:Env}{q:Option Addr}{m cap k:Nat}{xs:List Int}{Fr:List HP}{K:Act→World→Prop}(hk:k<xs.length)(h:∀ bd rest,q=some ⟨bd,0,none⟩→m=xs.length→cap=m+rest.length→GO B n D σ (row bd (xs.map i64++rest) 3::Fr) K):GO B n D σ (ix 0 (.slice q m cap,xs)::Fr) K:=fun a w st=>by
 rcases jz st.holds with ⟨e1,e2,_⟩ | ⟨bd,rest,e,hh⟩
 ·subst e1;simp at hk
 ·injection e with e1 e2 e3
  exact h bd rest e1 e2 (by omega) a w ⟨st.toStA,hh⟩
theorem mL(B:World)(Fr:List HP)(b:Nat)(S:bC)(s:Dev)(hL:lv S)(hdl:S.dirty.length≤1000000):
 ∀ w,Holds B (iN b S::aB S.L.d s::Fr) w→Calls Tryz.prog 89 [ptr b].toArray w (Ret B (fun rv H'=>∃ S' s',S.commit s= .ok S' s'∧rv=i64 0∧H'=fx b S'::aB S.L.d s'::Fr) (fun c H'=>∃ s',S.commit s= .off s'∧c=dR∧H'=aB S.L.d s'::Fr)):=by
 refine ao func89 aa ntmps89 aa ?_
 have hl:=hL.L
 have hc:=hl.c
 have hc1:=hc.r1
 have hc2:=hc.r2
 have hc3:=hc.l1
 have hc4:=hc.l2
 have hact:=hc.act
 refine kY S.L.d fun hn1 hn2 hn3=>(lO fun bl o1 o2=> ?_)
 have hks:∀ x∈bY (S.dirty.map Prod.fst),0≤x∧x≤1000000:=fun x hx=>by
  obtain⟨p,hp,rfl⟩:=List.mem_map.1 (List.mem_mergeSort.1 hx)
  exact hL.dirty p hp
 have hkl:(bY (S.dirty.map Prod.fst)).length≤1000000:=by rw[bY,List.length_mergeSort,List.length_map];exact hdl
 refine ac (ab (kPa aa aa (ad (ac (ac (ab (kPf dK isAgg4 aa aa aa aa (kPv (bz aa) aa (ad (bI aa (rfl) (aq ?_)))))))))))
 refine ac (ac (ab (kPf i7 isAgg169 aa aa aa aa (aJ aa (ar call150 aa) (y6 _ _ _) .free aa aa ?_))))
 rintro _ _ ⟨bb,rfl,rfl⟩
 refine aM (H':=row bb [.map (some o2)] 169::bx .i64 bX o2 S.dirty::c9 b bl S true (some o1) (some o2)::cV bl S.L::bx .i64 bX o1 S.seen::aB S.L.d s::Fr) (fun w hh=>((hh.front 4 aa).front 1 aa)) (aJ aa (ar call149 aa) (wT _ _ _ _ _ hdl) .free aa aa ?_)
 rintro sv _ rfl
 refine zt fun q cap hq=> ?_
 subst hq
 refine kPv (bG aa runUnderlying166 ⟨_,rfl⟩ rfl) aa (kPm aa aa (ad (am [17,16,15,2,0] rfl (aH (dq (ι:=Nat×Dev) (fun i=>i.1≤(bY (S.dirty.map Prod.fst)).length∧dA (bY (S.dirty.map Prod.fst)) s=dA ((bY (S.dirty.map Prod.fst)).drop i.1) i.2) (fun i=>[(0,ptr b),(2,i64 0),(15,.slice q (bY (S.dirty.map Prod.fst)).length cap),(16,i64 (bY (S.dirty.map Prod.fst)).length),(17,i64 i.1)]) (fun i=>ix 0 (.slice q (bY (S.dirty.map Prod.fst)).length cap,bY (S.dirty.map Prod.fst))::bx .i64 bX o2 S.dirty::c9 b bl S true (some o1) (some o2)::cV bl S.L::bx .i64 bX o1 S.seen::aB S.L.d i.2::Fr) (fun i=>(bY (S.dirty.map Prod.fst)).length - i.1) (0,s) ⟨Nat.zero_le _,by simp⟩ (fun a w st=>st.to ⟨rfl,rfl,rfl,rfl,rfl,trivial⟩ id) ?_)))))
 rintro⟨k,s1⟩ ⟨hk1,hk2⟩
 simp only at hk1 hk2 ⊢
 refine ac (ab (kPv (an aa aa aa) aa (ad (ac ?_))))
 refine a8 aa (fun h18=> ?_) (fun h18=> ?_)
 ·have hkn:k<(bY (S.dirty.map Prod.fst)).length:=by simpa using h18
  have hkb:=hks _ (List.getElem_mem hkn)
  refine aq (ac (aH (ac (ab (Bj (k:=k) hkn fun bd rest hq hm hcap=> ?_)))))
  subst hq
  refine kPv (cf runUnderlying166 sizeOf3 aa aa (by omega) (by omega)) aa ?_
  refine kPv (ai (v:=i64 (bY (S.dirty.map Prod.fst))[k]) isAgg3 aa (by rw[Nat.zero_add,Int.toNat_natCast,List.getElem?_append_left (by rw[List.length_map];exact hkn),List.getElem?_map,List.getElem?_eq_getElem hkn];rfl)) aa ?_
  refine kPa aa aa (ad (ab (kPf kj isAgg90 aa aa aa aa (kPm aa aa (kPv (nn aa aa) aa ?_)))))
  refine aU aa (ar call151 aa) (cD (q:=aB) (fun Fr=>dz _ Fr _ _ _)) .free aa aa ?_ ?_
  rotate_left
  ·rintro _ _ ⟨s9,⟨hm9,rfl⟩,rfl⟩
   exact ba fun w hh=>⟨_,⟨s9,by unfold bC.commit;rw[hk2,List.drop_eq_getElem_cons hkn];simp only[dA];rw[hm9];rfl,rfl,rfl⟩,(((((hh.front 4 aa).front 4 aa).front 4 aa).front 4 aa).front 4 aa).tail.tail.tail.tail.tail⟩
  rintro _ _ ⟨s1',⟨e1,hm1,rfl⟩,rfl⟩
  refine ad (am [17,16,15,2,0] rfl (ab (kPv (aN aa aa) aa (kPm aa aa (ad ?_)))))
  exact fun a w st=>⟨(k+1,s1'),⟨by simp only;omega,by simp only;rw[hk2,List.drop_eq_getElem_cons hkn];simp only[dA];rw[hm1];rfl⟩,by simp only;omega,st.to ⟨rfl,rfl,rfl,rfl,rfl,trivial⟩ (fun hh=>pn hm hcap hh)⟩
 ·have hkn:¬k<(bY (S.dirty.map Prod.fst)).length:=by simpa using h18
  have hfl:dA (bY (S.dirty.map Prod.fst)) s= .ok () s1:=by
   rw[hk2,List.drop_eq_nil_of_le (by omega)];rfl
  refine bE (ac (ac (ab (kPf i7 isAgg169 aa aa aa aa (kPv (wx aa runUnderlying169 aa) aa (kPv (an aa aa aa) aa (ad (am [34,2,0] rfl ?_))))))))
  refine a8 aa (fun h34=> ?_) (fun h34=> ?_)
  ·try simp only[decide_eq_true_eq,decide_eq_false_iff_not,Bool.not_eq_true',Bool.not_eq_false',Bool.or_eq_true,Bool.and_eq_true,Bool.and_eq_false_iff,Bool.or_eq_false_iff,beq_iff_eq,bne_iff_ne,beq_eq_false_iff_ne,bne_eq_false_iff_eq,ge_iff_le,gt_iff_lt,ne_eq] at h34
   refine ab (kPf kj isAgg90 aa aa aa aa ?_)
   refine aU aa (ar call152 aa) (cD (q:=aB) (fun Fr=>eK _ Fr _ _)) .free aa aa ?_ ?_
   rotate_left
   ·rintro _ _ ⟨s9,⟨hm9,rfl⟩,rfl⟩
    exact ba fun w hh=>⟨_,⟨s9,by unfold bC.commit;rw[hfl,aQ,if_pos (by omega),hm9];rfl,rfl,rfl⟩,(((((hh.front 4 aa).front 4 aa).front 4 aa).front 4 aa).front 4 aa).tail.tail.tail.tail.tail⟩
   rintro _ _ ⟨s4,⟨e4,hm4,rfl⟩,rfl⟩
   refine ad (ac (ab (aM (H':=cV bl S.L::aB S.L.d _::ix 0 (.slice q (bY (S.dirty.map Prod.fst)).length cap,bY (S.dirty.map Prod.fst))::bx .i64 bX o2 S.dirty::c9 b bl S true (some o1) (some o2)::bx .i64 bX o1 S.seen::Fr) (fun w hh=>((hh.front 5 aa).front 4 aa)) (kPf ik isAgg168 aa aa aa aa ?_))))
   refine aU aa (ar call153 aa) (kI _ _ bl S.L _ hL.L) .free aa aa ?_ ?_
   rotate_left
   ·rintro _ _ ⟨s9,hm9,rfl,rfl⟩
    exact ba fun w hh=>⟨_,⟨s9,by unfold bC.commit;rw[hfl];first | (rw[aQ,if_pos (by omega),hm4,aQ,hm9];rfl) | (rw[aQ,if_neg (by omega),aQ,hm9];rfl),rfl,rfl⟩,(((((hh.front 5 aa).front 5 aa).front 5 aa).front 5 aa).front 4 aa).tail.tail.tail.tail.tail⟩
   rintro _ _ ⟨L5,s5,hm5,rfl,rfl⟩
   refine ad (am [2,0] rfl (ac (ab (kPm aa aa (kPv (aK aa) aa (kPv (aD (m:=_) dK aa aa) aa (kPs (aO sizeOf4 aa aa aa aa) aa (ad (ac (ab (kPa aa aa ?_)))))))))))
   refine ad (az ?_)
   exact au results89 aa (fun w hh=>by
   have hd1:=qF hm5
   obtain⟨d1,c1,e1,n1⟩:=L5
   obtain⟨hd2,hd3⟩:=hd1
   simp only at hd2 hd3
   subst hd2;subst hd3
   exact⟨_,⟨{S with L:=⟨_,_,e1,n1⟩},_,by unfold bC.commit;rw[hfl,aQ,if_pos (by omega),hm4,aQ,hm5];rfl,rfl,rfl⟩,dP ((((((hh.front 5 aa).front 4 aa).front 4 aa).tail.tail.tail.front 1 aa).front 1 aa).front 2 aa)⟩)
  ·try simp only[decide_eq_true_eq,decide_eq_false_iff_not,Bool.not_eq_true',Bool.not_eq_false',Bool.or_eq_true,Bool.and_eq_true,Bool.and_eq_false_iff,Bool.or_eq_false_iff,beq_iff_eq,bne_iff_ne,beq_eq_false_iff_ne,bne_eq_false_iff_eq,ge_iff_le,gt_iff_lt,ne_eq] at h34
   refine aq (ac (ab (aM (H':=cV bl S.L::aB S.L.d _::ix 0 (.slice q (bY (S.dirty.map Prod.fst)).length cap,bY (S.dirty.map Prod.fst))::bx .i64 bX o2 S.dirty::c9 b bl S true (some o1) (some o2)::bx .i64 bX o1 S.seen::Fr) (fun w hh=>((hh.front 5 aa).front 4 aa)) (kPf ik isAgg168 aa aa aa aa ?_))))
   refine aU aa (ar call153 aa) (kI _ _ bl S.L _ hL.L) .free aa aa ?_ ?_
   rotate_left
   ·rintro _ _ ⟨s9,hm9,rfl,rfl⟩
    exact ba fun w hh=>⟨_,⟨s9,by unfold bC.commit;rw[hfl];first | (rw[aQ,if_pos (by omega),hm4,aQ,hm9];rfl) | (rw[aQ,if_neg (by omega),aQ,hm9];rfl),rfl,rfl⟩,(((((hh.front 5 aa).front 5 aa).front 5 aa).front 5 aa).front 4 aa).tail.tail.tail.tail.tail⟩
   rintro _ _ ⟨L5,s5,hm5,rfl,rfl⟩
   refine ad (ac (ab (kPm aa aa (kPv (aK aa) aa (kPv (aD (m:=_) dK aa aa) aa (kPs (aO sizeOf4 aa aa aa aa) aa (ad (am [2] rfl (ac (ab (kPa aa aa ?_)))))))))))
   refine ad (az ?_)
   exact au results89 aa (fun w hh=>by
   have hd1:=qF hm5
   obtain⟨d1,c1,e1,n1⟩:=L5
   obtain⟨hd2,hd3⟩:=hd1
   simp only at hd2 hd3
   subst hd2;subst hd3
   exact⟨_,⟨{S with L:=⟨_,_,e1,n1⟩},_,by unfold bC.commit;rw[hfl,aQ,if_neg (by omega),aQ,hm5];rfl,rfl,rfl⟩,dP ((((((hh.front 5 aa).front 4 aa).front 4 aa).tail.tail.tail.front 1 aa).front 1 aa).front 2 aa)⟩)
theorem jr(B:World)(Fr:List HP)(b:Nat)(S:bC)(f t:Int):
 ∀ w,Holds B (fx b S::Fr) w→Calls Tryz.prog 83 [ptr b,.agg #[i64 f,i64 t]].toArray w (Ret B (fun rv H'=>rv=i64 0∧H'=iN b {S with ff:=f,ft:=t,seen:=[],dirty:=[]}::Fr) (fun _ _=>False)):=by
 refine ao func83 aa ntmps83 aa (kL fun bl o1 o2=>(ac (ab (kPb (aX aa) aa fun b3=>(kPa aa aa (ad (ac (ac (ab (kPf dK isAgg4 aa aa aa aa (ad ?_)))))))))))
 refine bI aa (rfl) (aq (ac (aM (H':=row b3 [i64 f,i64 t] 155::c9 b bl S false o1 o2::cV bl S.L::pr True::pr True::Fr) (fun w hh=>(((hh.unpr trivial).unpr trivial).front 4 aa |>.front 4 aa |>.front 4 aa)) (cx (σ':=[(0,ptr b),(3,ptr b3)]) ⟨rfl,rfl,trivial⟩ ?_))))
 refine zv (G:=Nat×Nat) [0,3] (fun g i=>match i with | 0=>ptr b | 1=>ptr b | 2=>ptr b | 3=>ptr b | 4=> .agg #[i64 f,i64 t] | 5=> .map (some g.1) | 6=> .map (some g.2) | 7=> .pointer (some ⟨b,0,none⟩) | 8=> .pointer (some ⟨b,5,none⟩) | 10=> .pointer (some ⟨b,0,none⟩) | 11=> .pointer (some ⟨b,6,none⟩) | 13=> .pointer (some ⟨b,0,none⟩) | 14=> .pointer (some ⟨b,8,none⟩) | 16=> .pointer (some ⟨b,0,none⟩) | 17=> .pointer (some ⟨b,9,none⟩) | _=>undef) (fun L g=>row b3 [i64 f,i64 t] 155::row b [ptr bl,ptr S.L.d,i64 S.L.c.log,i64 S.L.c.roots,i64 S.L.c.space,.bool (L.getD 9 false),i64 (if (L.getD 12 false)=true then f else S.ff),i64 (if (L.getD 12 false)=true then t else S.ft),.map (if (L.getD 15 false)=true then some g.1 else o1),.map (if (L.getD 18 false)=true then some g.2 else o2)] 171::cV bl S.L::(if (L.getD 5 false)=true then bx .i64 bX g.1 [] else pr True)::(if (L.getD 6 false)=true then bx .i64 bX g.2 [] else pr True)::Fr) (0,0) (fun g=>[(0,ptr b)]) (fun g=>row b3 [i64 f,i64 t] 155::c9 b bl {S with ff:=f,ft:=t} true (some g.1) (some g.2)::cV bl S.L::bx .i64 bX g.1 []::bx .i64 bX g.2 []::Fr) Tryz.mixed (by kernel_rfl) (fun t v h=>oB h) aa ?_ ?_ ?_
 ·intro i o ho L g hsz hun hcl hdep a hk hd w hw
  have hi:i<19:=(Array.getElem?_eq_some_iff.1 ho).1
  have hL:L.size=19:=hsz
  obtain rfl | rfl | rfl | rfl | rfl | rfl | rfl | rfl | rfl | rfl | rfl | rfl | rfl | rfl | rfl | rfl | rfl | rfl | rfl:i=0∨i=1∨i=2∨i=3∨i=4∨i=5∨i=6∨i=7∨i=8∨i=9∨i=10∨i=11∨i=12∨i=13∨i=14∨i=15∨i=16∨i=17∨i=18:=by omega
  ·obtain rfl:=Option.some.inj (show some _=some o from ho)
   exact de (v:=ptr b) (by first | exact ak rfl | exact Evs.eq (ak rfl) rfl) hk hw ⟨g,fun _=>rfl,fun _ _ _=>rfl,by simpa (disch:=decide) only[getD_set_ne] using hw⟩
  ·obtain rfl:=Option.some.inj (show some _=some o from ho)
   exact de (v:=ptr b) (by first | exact ak rfl | exact Evs.eq (ak rfl) rfl) hk hw ⟨g,fun _=>rfl,fun _ _ _=>rfl,by simpa (disch:=decide) only[getD_set_ne] using hw⟩
  ·obtain rfl:=Option.some.inj (show some _=some o from ho)
   exact de (v:=ptr b) (by first | exact ak rfl | exact Evs.eq (ak rfl) rfl) hk hw ⟨g,fun _=>rfl,fun _ _ _=>rfl,by simpa (disch:=decide) only[getD_set_ne] using hw⟩
  ·obtain rfl:=Option.some.inj (show some _=some o from ho)
   exact de (v:=ptr b) (by first | exact ak rfl | exact Evs.eq (ak rfl) rfl) hk hw ⟨g,fun _=>rfl,fun _ _ _=>rfl,by simpa (disch:=decide) only[getD_set_ne] using hw⟩
  ·obtain rfl:=Option.some.inj (show some _=some o from ho)
   exact de (v:= .agg #[i64 f,i64 t]) (by first | exact ag isAgg155 sizeOf155 rfl rfl | exact Evs.eq (ag isAgg155 sizeOf155 rfl rfl) rfl) hk hw ⟨g,fun _=>rfl,fun _ _ _=>rfl,by simpa (disch:=decide) only[getD_set_ne] using hw⟩
  ·obtain rfl:=Option.some.inj (show some _=some o from ho)
   have hk':=hk
   have hun':L.getD 5 false=false:=getD_both hun
   have n15:L.getD 15 false=false:=by
    cases h:L.getD 15 false with
    | false=>rfl
    | true=>have h2:=hcl 15 _ rfl h ⟨5,.data⟩ (by simp) rfl;rw[hun'] at h2;cases h2
   refine jF (dT .i64 bX) hk' hw ?_
   rintro v H' ⟨bn,rfl,rfl⟩ w' hw'
   refine⟨(bn,g.2),fun _=>rfl,fun j hj hl=> ?_,?_⟩
   ·match j with
    | 5=>exact absurd aa hj
    | 0 | 1 | 2 | 3 | 4 | 6 | 7 | 8 | 10 | 11 | 13 | 14 | 16 | 17=>rfl
    | 9 | 12 | 15 | 18 | _+19=>rfl
   ·simp only[getD_set_ne false (show(5:Nat)≠6 by decide),getD_set_ne false (show(5:Nat)≠9 by decide),getD_set_ne false (show(5:Nat)≠12 by decide),getD_set_ne false (show(5:Nat)≠15 by decide),getD_set_ne false (show(5:Nat)≠18 by decide),dM (show 5<L.size by omega)]
    simp only[hun',n15] at hw' ⊢
    exact(((hw'.front 4 aa).tail).front 3 aa |>.front 3 aa |>.front 3 aa)
  ·obtain rfl:=Option.some.inj (show some _=some o from ho)
   have hk':=hk
   have hun':L.getD 6 false=false:=getD_both hun
   have n18:L.getD 18 false=false:=by
    cases h:L.getD 18 false with
    | false=>rfl
    | true=>have h2:=hcl 18 _ rfl h ⟨6,.data⟩ (by simp) rfl;rw[hun'] at h2;cases h2
   refine jF (dT .i64 bX) hk' hw ?_
   rintro v H' ⟨bn,rfl,rfl⟩ w' hw'
   refine⟨(g.1,bn),fun _=>rfl,fun j hj hl=> ?_,?_⟩
   ·match j with
    | 6=>exact absurd aa hj
    | 0 | 1 | 2 | 3 | 4 | 5 | 7 | 8 | 10 | 11 | 13 | 14 | 16 | 17=>rfl
    | 9 | 12 | 15 | 18 | _+19=>rfl
   ·simp only[getD_set_ne false (show(6:Nat)≠5 by decide),getD_set_ne false (show(6:Nat)≠9 by decide),getD_set_ne false (show(6:Nat)≠12 by decide),getD_set_ne false (show(6:Nat)≠15 by decide),getD_set_ne false (show(6:Nat)≠18 by decide),dM (show 6<L.size by omega)]
    simp only[hun',n18] at hw' ⊢
    exact(((hw'.front 5 aa).tail).front 4 aa |>.front 4 aa |>.front 4 aa |>.front 4 aa)
  ·obtain rfl:=Option.some.inj (show some _=some o from ho)
   have d0_data:L.getD 0 false=true:=hdep ⟨0,.data⟩ (by simp) rfl
   have d0:=d0_data
   have d0_phase:L.getD 0 false=true:=hdep ⟨0,.phase⟩ (by simp) rfl
   have d0:=d0_phase
   have v0:a.tmps[9]? =some (ptr b):=hd 0 _ 9 rfl rfl d0
   exact de (v:= .pointer (some ⟨b,0,none⟩)) (by first | exact aK rfl | exact Evs.eq (aK rfl) rfl) (bJ v0 hk) hw ⟨g,fun _=>rfl,fun _ _ _=>rfl,by simpa (disch:=decide) only[getD_set_ne] using hw⟩
  ·obtain rfl:=Option.some.inj (show some _=some o from ho)
   have d7_data:L.getD 7 false=true:=hdep ⟨7,.data⟩ (by simp) rfl
   have d7:=d7_data
   have v7:a.tmps[16]? =some (.pointer (some ⟨b,0,none⟩)):=hd 7 _ 16 rfl rfl d7
   exact de (v:= .pointer (some ⟨b,5,none⟩)) (by first | exact aD (m:=_) dK aa aa | exact Evs.eq (aD (m:=_) dK aa aa) aa) (bJ v7 hk) hw ⟨g,fun _=>rfl,fun _ _ _=>rfl,by simpa (disch:=decide) only[getD_set_ne] using hw⟩
  ·obtain rfl:=Option.some.inj (show some _=some o from ho)
   have d8_data:L.getD 8 false=true:=hdep ⟨8,.data⟩ (by simp) rfl
   have d8:=d8_data
   have v8:a.tmps[17]? =some (.pointer (some ⟨b,5,none⟩)):=hd 8 _ 17 rfl rfl d8
   have hk':=(bJ v8 hk)
   have hun':L.getD 9 false=false:=getD_both hun
   refine jF (aO sizeOf4 aa aa aa aa) hk' hw ?_
   rintro v H' rfl w' hw'
   refine⟨g,fun h=>absurd aa h,fun _ _ _=>rfl,?_⟩
   simp only[getD_set_ne false (show(9:Nat)≠5 by decide),getD_set_ne false (show(9:Nat)≠6 by decide),getD_set_ne false (show(9:Nat)≠12 by decide),getD_set_ne false (show(9:Nat)≠15 by decide),getD_set_ne false (show(9:Nat)≠18 by decide),dM (show 9<L.size by omega)]
   simp only[hun',if_true] at hw' ⊢
   exact hw'
  ·obtain rfl:=Option.some.inj (show some _=some o from ho)
   have d1_data:L.getD 1 false=true:=hdep ⟨1,.data⟩ (by simp) rfl
   have d1:=d1_data
   have d1_phase:L.getD 1 false=true:=hdep ⟨1,.phase⟩ (by simp) rfl
   have d1:=d1_phase
   have d9_phase:L.getD 9 false=true:=hdep ⟨9,.phase⟩ (by simp) rfl
   have d9:=d9_phase
   have v1:a.tmps[10]? =some (ptr b):=hd 1 _ 10 rfl rfl d1
   exact de (v:= .pointer (some ⟨b,0,none⟩)) (by first | exact aK rfl | exact Evs.eq (aK rfl) rfl) (bJ v1 hk) hw ⟨g,fun _=>rfl,fun _ _ _=>rfl,by simpa (disch:=decide) only[getD_set_ne] using hw⟩
  ·obtain rfl:=Option.some.inj (show some _=some o from ho)
   have d10_data:L.getD 10 false=true:=hdep ⟨10,.data⟩ (by simp) rfl
   have d10:=d10_data
   have d9_phase:L.getD 9 false=true:=hdep ⟨9,.phase⟩ (by simp) rfl
   have d9:=d9_phase
   have v10:a.tmps[18]? =some (.pointer (some ⟨b,0,none⟩)):=hd 10 _ 18 rfl rfl d10
   exact de (v:= .pointer (some ⟨b,6,none⟩)) (by first | exact aD (m:=_) lX aa aa | exact Evs.eq (aD (m:=_) lX aa aa) aa) (bJ v10 hk) hw ⟨g,fun _=>rfl,fun _ _ _=>rfl,by simpa (disch:=decide) only[getD_set_ne] using hw⟩
  ·obtain rfl:=Option.some.inj (show some _=some o from ho)
   have d11_data:L.getD 11 false=true:=hdep ⟨11,.data⟩ (by simp) rfl
   have d11:=d11_data
   have d4_data:L.getD 4 false=true:=hdep ⟨4,.data⟩ (by simp) rfl
   have d4:=d4_data
   have d9_chain:L.getD 9 false=true:=hdep ⟨9,.chain⟩ (by simp) rfl
   have d9:=d9_chain
   have d4_phase:L.getD 4 false=true:=hdep ⟨4,.phase⟩ (by simp) rfl
   have d4:=d4_phase
   have d9_phase:L.getD 9 false=true:=hdep ⟨9,.phase⟩ (by simp) rfl
   have d9:=d9_phase
   have v4:a.tmps[13]? =some (.agg #[i64 f,i64 t]):=hd 4 _ 13 rfl rfl d4
   have v11:a.tmps[19]? =some (.pointer (some ⟨b,6,none⟩)):=hd 11 _ 19 rfl rfl d11
   have hk':=(bJ v11 (bJ v4 hk))
   have hun':L.getD 12 false=false:=getD_both hun
   refine jF (ax (vs:=[i64 f,i64 t]) sizeOf155 aa aa aa aa aa) hk' hw ?_
   rintro v H' rfl w' hw'
   refine⟨g,fun h=>absurd aa h,fun _ _ _=>rfl,?_⟩
   simp only[getD_set_ne false (show(12:Nat)≠5 by decide),getD_set_ne false (show(12:Nat)≠6 by decide),getD_set_ne false (show(12:Nat)≠9 by decide),getD_set_ne false (show(12:Nat)≠15 by decide),getD_set_ne false (show(12:Nat)≠18 by decide),dM (show 12<L.size by omega)]
   simp only[hun',if_true] at hw' ⊢
   exact hw'
  ·obtain rfl:=Option.some.inj (show some _=some o from ho)
   have d2_data:L.getD 2 false=true:=hdep ⟨2,.data⟩ (by simp) rfl
   have d2:=d2_data
   have d2_phase:L.getD 2 false=true:=hdep ⟨2,.phase⟩ (by simp) rfl
   have d2:=d2_phase
   have d5_phase:L.getD 5 false=true:=hdep ⟨5,.phase⟩ (by simp) rfl
   have d5:=d5_phase
   have d9_phase:L.getD 9 false=true:=hdep ⟨9,.phase⟩ (by simp) rfl
   have d9:=d9_phase
   have d12_phase:L.getD 12 false=true:=hdep ⟨12,.phase⟩ (by simp) rfl
   have d12:=d12_phase
   have v2:a.tmps[11]? =some (ptr b):=hd 2 _ 11 rfl rfl d2
   exact de (v:= .pointer (some ⟨b,0,none⟩)) (by first | exact aK rfl | exact Evs.eq (aK rfl) rfl) (bJ v2 hk) hw ⟨g,fun _=>rfl,fun _ _ _=>rfl,by simpa (disch:=decide) only[getD_set_ne] using hw⟩
  ·obtain rfl:=Option.some.inj (show some _=some o from ho)
   have d13_data:L.getD 13 false=true:=hdep ⟨13,.data⟩ (by simp) rfl
   have d13:=d13_data
   have d5_phase:L.getD 5 false=true:=hdep ⟨5,.phase⟩ (by simp) rfl
   have d5:=d5_phase
   have d9_phase:L.getD 9 false=true:=hdep ⟨9,.phase⟩ (by simp) rfl
   have d9:=d9_phase
   have d12_phase:L.getD 12 false=true:=hdep ⟨12,.phase⟩ (by simp) rfl
   have d12:=d12_phase
   have v13:a.tmps[20]? =some (.pointer (some ⟨b,0,none⟩)):=hd 13 _ 20 rfl rfl d13
   exact de (v:= .pointer (some ⟨b,8,none⟩)) (by first | exact aD (m:=_) lW aa aa | exact Evs.eq (aD (m:=_) lW aa aa) aa) (bJ v13 hk) hw ⟨g,fun _=>rfl,fun _ _ _=>rfl,by simpa (disch:=decide) only[getD_set_ne] using hw⟩
  ·obtain rfl:=Option.some.inj (show some _=some o from ho)
   have d14_data:L.getD 14 false=true:=hdep ⟨14,.data⟩ (by simp) rfl
   have d14:=d14_data
   have d5_data:L.getD 5 false=true:=hdep ⟨5,.data⟩ (by simp) rfl
   have d5:=d5_data
   have d12_chain:L.getD 12 false=true:=hdep ⟨12,.chain⟩ (by simp) rfl
   have d12:=d12_chain
   have d5_phase:L.getD 5 false=true:=hdep ⟨5,.phase⟩ (by simp) rfl
   have d5:=d5_phase
   have d9_phase:L.getD 9 false=true:=hdep ⟨9,.phase⟩ (by simp) rfl
   have d9:=d9_phase
   have d12_phase:L.getD 12 false=true:=hdep ⟨12,.phase⟩ (by simp) rfl
   have d12:=d12_phase
   have v5:a.tmps[14]? =some (.map (some g.1)):=hd 5 _ 14 rfl rfl d5
   have v14:a.tmps[21]? =some (.pointer (some ⟨b,8,none⟩)):=hd 14 _ 21 rfl rfl d14
   have hk':=(bJ v14 (bJ v5 hk))
   have hun':L.getD 15 false=false:=getD_both hun
   refine jF (aO sizeOf169 aa aa aa aa) hk' hw ?_
   rintro v H' rfl w' hw'
   refine⟨g,fun h=>absurd aa h,fun _ _ _=>rfl,?_⟩
   simp only[getD_set_ne false (show(15:Nat)≠5 by decide),getD_set_ne false (show(15:Nat)≠6 by decide),getD_set_ne false (show(15:Nat)≠9 by decide),getD_set_ne false (show(15:Nat)≠12 by decide),getD_set_ne false (show(15:Nat)≠18 by decide),dM (show 15<L.size by omega)]
   simp only[hun',if_true] at hw' ⊢
   exact hw'
  ·obtain rfl:=Option.some.inj (show some _=some o from ho)
   have d3_data:L.getD 3 false=true:=hdep ⟨3,.data⟩ (by simp) rfl
   have d3:=d3_data
   have d3_phase:L.getD 3 false=true:=hdep ⟨3,.phase⟩ (by simp) rfl
   have d3:=d3_phase
   have d5_phase:L.getD 5 false=true:=hdep ⟨5,.phase⟩ (by simp) rfl
   have d5:=d5_phase
   have d6_phase:L.getD 6 false=true:=hdep ⟨6,.phase⟩ (by simp) rfl
   have d6:=d6_phase
   have d9_phase:L.getD 9 false=true:=hdep ⟨9,.phase⟩ (by simp) rfl
   have d9:=d9_phase
   have d12_phase:L.getD 12 false=true:=hdep ⟨12,.phase⟩ (by simp) rfl
   have d12:=d12_phase
   have d15_phase:L.getD 15 false=true:=hdep ⟨15,.phase⟩ (by simp) rfl
   have d15:=d15_phase
   have v3:a.tmps[12]? =some (ptr b):=hd 3 _ 12 rfl rfl d3
   exact de (v:= .pointer (some ⟨b,0,none⟩)) (by first | exact aK rfl | exact Evs.eq (aK rfl) rfl) (bJ v3 hk) hw ⟨g,fun _=>rfl,fun _ _ _=>rfl,by simpa (disch:=decide) only[getD_set_ne] using hw⟩
  ·obtain rfl:=Option.some.inj (show some _=some o from ho)
   have d16_data:L.getD 16 false=true:=hdep ⟨16,.data⟩ (by simp) rfl
   have d16:=d16_data
   have d5_phase:L.getD 5 false=true:=hdep ⟨5,.phase⟩ (by simp) rfl
   have d5:=d5_phase
   have d6_phase:L.getD 6 false=true:=hdep ⟨6,.phase⟩ (by simp) rfl
   have d6:=d6_phase
   have d9_phase:L.getD 9 false=true:=hdep ⟨9,.phase⟩ (by simp) rfl
   have d9:=d9_phase
   have d12_phase:L.getD 12 false=true:=hdep ⟨12,.phase⟩ (by simp) rfl
   have d12:=d12_phase
   have d15_phase:L.getD 15 false=true:=hdep ⟨15,.phase⟩ (by simp) rfl
   have d15:=d15_phase
   have v16:a.tmps[22]? =some (.pointer (some ⟨b,0,none⟩)):=hd 16 _ 22 rfl rfl d16
   exact de (v:= .pointer (some ⟨b,9,none⟩)) (by first | exact aD (m:=_) i7 aa aa | exact Evs.eq (aD (m:=_) i7 aa aa) aa) (bJ v16 hk) hw ⟨g,fun _=>rfl,fun _ _ _=>rfl,by simpa (disch:=decide) only[getD_set_ne] using hw⟩
  ·obtain rfl:=Option.some.inj (show some _=some o from ho)
   have d17_data:L.getD 17 false=true:=hdep ⟨17,.data⟩ (by simp) rfl
   have d17:=d17_data
   have d6_data:L.getD 6 false=true:=hdep ⟨6,.data⟩ (by simp) rfl
   have d6:=d6_data
   have d15_chain:L.getD 15 false=true:=hdep ⟨15,.chain⟩ (by simp) rfl
   have d15:=d15_chain
   have d5_phase:L.getD 5 false=true:=hdep ⟨5,.phase⟩ (by simp) rfl
   have d5:=d5_phase
   have d6_phase:L.getD 6 false=true:=hdep ⟨6,.phase⟩ (by simp) rfl
   have d6:=d6_phase
   have d9_phase:L.getD 9 false=true:=hdep ⟨9,.phase⟩ (by simp) rfl
   have d9:=d9_phase
   have d12_phase:L.getD 12 false=true:=hdep ⟨12,.phase⟩ (by simp) rfl
   have d12:=d12_phase
   have d15_phase:L.getD 15 false=true:=hdep ⟨15,.phase⟩ (by simp) rfl
   have d15:=d15_phase
   have v6:a.tmps[15]? =some (.map (some g.2)):=hd 6 _ 15 rfl rfl d6
   have v17:a.tmps[23]? =some (.pointer (some ⟨b,9,none⟩)):=hd 17 _ 23 rfl rfl d17
   have hk':=(bJ v17 (bJ v6 hk))
   have hun':L.getD 18 false=false:=getD_both hun
   refine jF (aO sizeOf169 aa aa aa aa) hk' hw ?_
   rintro v H' rfl w' hw'
   refine⟨g,fun h=>absurd aa h,fun _ _ _=>rfl,?_⟩
   simp only[getD_set_ne false (show(18:Nat)≠5 by decide),getD_set_ne false (show(18:Nat)≠6 by decide),getD_set_ne false (show(18:Nat)≠9 by decide),getD_set_ne false (show(18:Nat)≠12 by decide),getD_set_ne false (show(18:Nat)≠15 by decide),dM (show 18<L.size by omega)]
   simp only[hun',if_true] at hw' ⊢
   exact hw'
 ·intro L g hall a w hk hd hw
  have h5:=hall 5 (by decide)
  have h6:=hall 6 (by decide)
  have h9:=hall 9 (by decide)
  have h12:=hall 12 (by decide)
  have h15:=hall 15 (by decide)
  have h18:=hall 18 (by decide)
  simp only[h5,h6,h9,h12,h15,h18,if_true] at hw
  exact⟨fun u x e=>hk u x (by simp only[look] at e ⊢;cases hb:Nat.beq 0 u<;>simp_all),hw⟩
 intro g
 refine ac (ab (kPa aa aa (ad (am [4] rfl (az ?_)))))
 exact au results83 aa (fun w hh=>⟨_,⟨rfl,rfl⟩,fj (S:={S with ff:=f,ft:=t,seen:=[],dirty:=[]}) hh.tail⟩)
theorem AH{L L':bM}{s s':Dev}(h:L.undo s= .ok L' s'):L'.d=L.d∧L'.c=L.c:=by
 unfold bM.undo at h
 cases h1:kT jL L.c L.n.toNat s with
 | off s1=>rw[h1] at h;cases h
 | ok u s1=>
   rw[h1,aQ] at h
   cases h2:(if 0<L.n then s1.fence else Out.ok () s1) with
   | off s2=>rw[h2] at h;cases h
   | ok u s2=>rw[h2,aQ] at h;exact qF h
theorem nT(B:World)(Fr:List HP)(b:Nat)(S:bC)(s:Dev)(hL:lv S):
 ∀ w,Holds B (iN b S::aB S.L.d s::Fr) w→Calls Tryz.prog 206 [ptr b].toArray w (Ret B (fun rv H'=>∃ S' s',S.abort s= .ok S' s'∧rv=i64 0∧H'=fx b S'::aB S.L.d s'::Fr) (fun c H'=>∃ s',S.abort s= .off s'∧c=dR∧H'=aB S.L.d s'::Fr)):=by
 refine ao func206 aa ntmps206 aa ?_
 have hl:=hL.L
 have hc:=hl.c
 have hc1:=hc.r1
 have hc2:=hc.r2
 have hc3:=hc.l1
 have hc4:=hc.l2
 have hact:=hc.act
 refine kY S.L.d fun hn1 hn2 hn3=>(lO fun bl o1 o2=>(ac (ab (kPa aa aa (ad (ac (ac (ab (kPf dK isAgg4 aa aa aa aa (kPv (bz aa) aa (ad ?_)))))))))))
 refine bI aa (rfl) (aq (ac (ab (aM (H':=cV bl S.L::aB S.L.d s::c9 b bl S true (some o1) (some o2)::bx .i64 bX o1 S.seen::bx .i64 bX o2 S.dirty::Fr) (fun w hh=>((hh.front 4 aa).front 2 aa)) (kPf ik isAgg168 aa aa aa aa ?_)))))
 refine aU aa (ar call129 aa) (oA _ _ bl S.L _ hL.L) .free aa aa ?_ ?_
 rotate_left
 ·rintro _ _ ⟨s9,hm9,rfl,rfl⟩
  exact ba fun w hh=>⟨_,⟨s9,by simp[bC.abort,hm9],rfl,rfl⟩,((((hh.front 4 aa).front 4 aa).front 4 aa).front 3 aa).tail.tail.tail.tail⟩
 rintro _ _ ⟨L5,s5,hm5,rfl,rfl⟩
 refine ad (am [2,0] rfl (ac (ab (kPm aa aa (kPv (aK aa) aa (kPv (aD (m:=_) dK aa aa) aa (kPs (aO sizeOf4 aa aa aa aa) aa (ad (ac (ab (kPa aa aa ?_)))))))))))
 refine ad (az ?_)
 exact au results206 aa (fun w hh=>by
  have hd1:=AH hm5
  obtain⟨d1,c1,e1,n1⟩:=L5
  obtain⟨hd2,hd3⟩:=hd1
  simp only at hd2 hd3
  subst hd2;subst hd3
  exact⟨_,⟨{S with L:=⟨_,_,e1,n1⟩},_,by simp[bC.abort,hm5],rfl,rfl⟩,dP (((((hh.front 4 aa).front 4 aa).tail.tail.front 1 aa).front 1 aa).front 2 aa)⟩)
theorem qM(B:World)(Fr:List HP)(bd:Nat)(s:Dev)(c:Cfg)(hc:bA c):
 ∀ w,Holds B (aB bd s::Fr) w→Calls Tryz.prog 115 [ptr bd,dU c].toArray w (Ret B (fun rv H'=>∃ b,rv=ptr b∧H'=fx b ⟨bT bd c s,0,0,[],[]⟩::aB bd s::Fr) (fun _ _=>False)):=by
 refine ao func115 aa ntmps115 aa (ac (ab (kPb (aX aa) aa fun b3=>(kPa aa aa (ad (ac (aM (H':=pr True::aB bd s::row b3 [i64 c.log,i64 c.roots,i64 c.space] 134::pr True::Fr) (fun w hh=>((((hh.unpr trivial).front 1 aa).front 2 aa).unpr trivial)) (cx (σ':=[(0,ptr bd),(3,ptr b3)]) ⟨rfl,rfl,trivial⟩ ?_))))))))
 refine zv (G:=Nat×Nat) [0,3] (fun g i=>match i with | 0=>ptr bd | 1=>dU c | 2=>ptr g.1 | 3=>ptr bd | 4=>dU c | 5=> .agg #[ptr g.1,ptr bd,i64 c.log,i64 c.roots,i64 c.space,.bool false,i64 0,i64 0,.map none,.map none] | 6=>ptr g.2 | 7=>ptr g.2 | _=>undef) (fun L g=>(if (L.getD 2 false)=true then cV g.1 (bT bd c s) else pr True)::aB bd s::row b3 [i64 c.log,i64 c.roots,i64 c.space] 134::(if (L.getD 6 false)=true then c9 g.2 g.1 ⟨bT bd c s,0,0,[],[]⟩ false none none else pr True)::Fr) (0,0) (fun g=>[(4,ptr g.2)]) (fun g=>cV g.1 (bT bd c s)::aB bd s::row b3 [i64 c.log,i64 c.roots,i64 c.space] 134::c9 g.2 g.1 ⟨bT bd c s,0,0,[],[]⟩ false none none::Fr) Tryz.mixed (by kernel_rfl) (fun t v h=>oB h) aa ?_ ?_ ?_
 ·intro i o ho L g hsz hun hcl hdep a hk hd w hw
  have hi:i<8:=(Array.getElem?_eq_some_iff.1 ho).1
  have hL:L.size=8:=hsz
  obtain rfl | rfl | rfl | rfl | rfl | rfl | rfl | rfl:i=0∨i=1∨i=2∨i=3∨i=4∨i=5∨i=6∨i=7:=by omega
  ·obtain rfl:=Option.some.inj (show some _=some o from ho)
   exact de (v:=ptr bd) (by first | exact ak rfl | exact Evs.eq (ak rfl) rfl) hk hw ⟨g,fun _=>rfl,fun _ _ _=>rfl,by simpa (disch:=decide) only[getD_set_ne] using hw⟩
  ·obtain rfl:=Option.some.inj (show some _=some o from ho)
   exact de (v:=dU c) (by first | exact ag isAgg134 sizeOf134 rfl rfl | exact Evs.eq (ag isAgg134 sizeOf134 rfl rfl) rfl) hk hw ⟨g,fun _=>rfl,fun _ _ _=>rfl,by simpa (disch:=decide) only[getD_set_ne] using hw⟩
  ·obtain rfl:=Option.some.inj (show some _=some o from ho)
   have d0_data:L.getD 0 false=true:=hdep ⟨0,.data⟩ (by simp) rfl
   have d0:=d0_data
   have d1_data:L.getD 1 false=true:=hdep ⟨1,.data⟩ (by simp) rfl
   have d1:=d1_data
   have v0:a.tmps[5]? =some (ptr bd):=hd 0 _ 5 rfl rfl d0
   have v1:a.tmps[6]? =some (dU c):=hd 1 _ 6 rfl rfl d1
   have hk':=(bJ v1 (bJ v0 hk))
   have hun':L.getD 2 false=false:=getD_both hun
   have n6:L.getD 6 false=false:=by
    cases h:L.getD 6 false with
    | false=>rfl
    | true=>have h2:=hcl 6 _ rfl h ⟨5,.data⟩ (by simp) rfl;have h3:=hcl 5 _ rfl h2 ⟨2,.data⟩ (by simp) rfl;rw[hun'] at h3;cases h3
   simp only[hun',n6] at hw
   refine zZ (ar call124 aa) (j3 B _ bd s c hc) hk' (hw.tail) ?_
   rintro v H' ⟨bl,rfl,rfl⟩ w' hw'
   refine⟨(bl,g.2),fun _=>rfl,fun j hj hl=> ?_,?_⟩
   ·match j with
    | 2=>exact absurd aa hj
    | 5=>have h3:=hcl 5 _ rfl hl ⟨2,.data⟩ (by simp) rfl;rw[hun'] at h3;cases h3
    | 0 | 1 | 3 | 4 | 6 | 7=>rfl
    | _+8=>rfl
   ·simp only[getD_set_ne false (show(2:Nat)≠6 by decide),dM (show 2<L.size by omega)]
    simp only[n6,if_true] at hw' ⊢
    exact hw'
  ·obtain rfl:=Option.some.inj (show some _=some o from ho)
   exact de (v:=ptr bd) (by first | exact ak rfl | exact Evs.eq (ak rfl) rfl) hk hw ⟨g,fun _=>rfl,fun _ _ _=>rfl,by simpa (disch:=decide) only[getD_set_ne] using hw⟩
  ·obtain rfl:=Option.some.inj (show some _=some o from ho)
   exact de (v:=dU c) (by first | exact ag isAgg134 sizeOf134 rfl rfl | exact Evs.eq (ag isAgg134 sizeOf134 rfl rfl) rfl) hk hw ⟨g,fun _=>rfl,fun _ _ _=>rfl,by simpa (disch:=decide) only[getD_set_ne] using hw⟩
  ·obtain rfl:=Option.some.inj (show some _=some o from ho)
   have d2_data:L.getD 2 false=true:=hdep ⟨2,.data⟩ (by simp) rfl
   have d2:=d2_data
   have d3_data:L.getD 3 false=true:=hdep ⟨3,.data⟩ (by simp) rfl
   have d3:=d3_data
   have d4_data:L.getD 4 false=true:=hdep ⟨4,.data⟩ (by simp) rfl
   have d4:=d4_data
   have v2:a.tmps[7]? =some (ptr g.1):=hd 2 _ 7 rfl rfl d2
   have v3:a.tmps[8]? =some (ptr bd):=hd 3 _ 8 rfl rfl d3
   have v4:a.tmps[9]? =some (dU c):=hd 4 _ 9 rfl rfl d4
   exact de (v:= .agg #[ptr g.1,ptr bd,i64 c.log,i64 c.roots,i64 c.space,.bool false,i64 0,i64 0,.map none,.map none]) (by first | exact aP rfl (kZ _ _ _ _ _ (by first | rfl | assumption) (by first | rfl | assumption)) | exact Evs.eq (aP rfl (kZ _ _ _ _ _ (by first | rfl | assumption) (by first | rfl | assumption))) rfl) (bJ v4 (bJ v3 (bJ v2 hk))) hw ⟨g,fun _=>rfl,fun _ _ _=>rfl,by simpa (disch:=decide) only[getD_set_ne] using hw⟩
  ·obtain rfl:=Option.some.inj (show some _=some o from ho)
   have d5_data:L.getD 5 false=true:=hdep ⟨5,.data⟩ (by simp) rfl
   have d5:=d5_data
   have v5:a.tmps[10]? =some (.agg #[ptr g.1,ptr bd,i64 c.log,i64 c.roots,i64 c.space,.bool false,i64 0,i64 0,.map none,.map none]):=hd 5 _ 10 rfl rfl d5
   have hk':=(bJ v5 hk)
   have hun':L.getD 6 false=false:=getD_both hun
   have d2:L.getD 2 false=true:=hcl 5 _ rfl d5 ⟨2,.data⟩ (by simp) rfl
   refine jF (aX aa) hk' hw ?_
   rintro v H' ⟨b,rfl,rfl⟩ w' hw'
   refine⟨(g.1,b),fun _=>rfl,fun j hj hl=> ?_,?_⟩
   ·match j with
    | 6=>exact absurd aa hj
    | 7=>have h3:=hcl 7 _ rfl hl ⟨6,.data⟩ (by simp) rfl;rw[hun'] at h3;cases h3
    | 0 | 1 | 2 | 3 | 4 | 5=>rfl
    | _+8=>rfl
   ·simp only[getD_set_ne false (show(6:Nat)≠2 by decide),dM (show 6<L.size by omega)]
    simp only[hun',if_true] at hw' ⊢
    exact(((hw'.front 4 aa).tail).front 3 aa |>.front 3 aa |>.front 3 aa)
  ·obtain rfl:=Option.some.inj (show some _=some o from ho)
   have d6_data:L.getD 6 false=true:=hdep ⟨6,.data⟩ (by simp) rfl
   have d6:=d6_data
   have d2_chain:L.getD 2 false=true:=hdep ⟨2,.chain⟩ (by simp) rfl
   have d2:=d2_chain
   have d2_phase:L.getD 2 false=true:=hdep ⟨2,.phase⟩ (by simp) rfl
   have d2:=d2_phase
   have d6_phase:L.getD 6 false=true:=hdep ⟨6,.phase⟩ (by simp) rfl
   have d6:=d6_phase
   have v6:a.tmps[11]? =some (ptr g.2):=hd 6 _ 11 rfl rfl d6
   exact de (v:=ptr g.2) (by first | exact bu rfl | exact Evs.eq (bu rfl) rfl) (bJ v6 hk) hw ⟨g,fun _=>rfl,fun _ _ _=>rfl,by simpa (disch:=decide) only[getD_set_ne] using hw⟩
 ·intro L g hall a w hk hd hw
  have h2:=hall 2 (by decide)
  have h6:=hall 6 (by decide)
  have h7:=hall 7 (by decide)
  simp only[h2,h6,if_true] at hw
  exact⟨KnA.knows ⟨hd 7 _ 4 aa aa h7,trivial⟩,hw⟩
 intro g
 refine az ?_
 exact au results115 aa (fun w hh=>⟨_,⟨_,rfl,rfl⟩,dP (S:=⟨bT bd c s,0,0,[],[]⟩) ((((hh.front 2 aa).tail).front 2 aa).front 1 aa |>.front 1 aa)⟩)
theorem tS(c:Cfg):bA c↔1≤c.roots∧c.roots≤16∧c.roots+2≤c.log∧c.log≤200∧8≤c.space∧c.space≤4096:=⟨fun h=>⟨h.r1,h.r2,h.l1,h.l2,h.s1,h.s2⟩,fun ⟨a,b,c,d,e,f⟩=>⟨a,b,c,d,e,f⟩⟩
def chk(c:Cfg):Int:=if bA c then 0 else 1
theorem Cc{c:Cfg}(h:(chk c !=0)=false):bA c:=by
 unfold chk at h;split at h
 ·assumption
 ·simp at h
def et(f:Int→Int):Nat→Int→Dev→Out Unit
 | 0,_,s=> .ok () s
 | k+1,i,s=>(s.store (f i) 0).then fun _ s=>(s.flush (f i)).then fun _ s=>et f k (i+1) s
def go:Int:=6076848300954571569
def st3(l:List Int):Nat→Nat→Dev→Out Unit
 | 0,_,s=> .ok () s
 | k+1,i,s=>(s.store (1+(i:Int)) (l.getD i 0)).then fun _ s=>st3 l k (i+1) s
theorem CO{a b c:Int}{k:Nat}(h:k<3):([i64 a,i64 b,i64 c]:List Value)[k]? =some (i64 ([a,b,c].getD k 0)):=by
 rcases (by omega:k=0∨k=1∨k=2) with rfl | rfl | rfl<;>rfl
theorem DY{a b c:Int}{k:Nat}(h:k<3)(ha:0≤a∧a≤100000)(hb:0≤b∧b≤100000)(hc:0≤c∧c≤100000):0≤[a,b,c].getD k 0∧[a,b,c].getD k 0≤100000:=by
 rcases (by omega:k=0∨k=1∨k=2) with rfl | rfl | rfl<;>simpa
def Dev.format(s:Dev)(c:Cfg):Out Int:=
 if ¬ bA c∨(s.n:Int)≠c.words then .ok 1 s else
  (s.store 0 0).then fun _ s=>(s.flush 0).then fun _ s=>s.fence.then fun _ s=>
  (st3 [c.log,c.roots,c.space] 3 0 s).then fun _ s=>
  (s.store 8 1).then fun _ s=>(s.flush 8).then fun _ s=>(et c.record c.log.toNat 0 s).then fun _ s=>
  (et id (c.root c.roots - c.active).toNat c.active s).then fun _ s=>(s.flush 0).then fun _ s=>s.fence.then fun _ s=>
  (s.store 0 go).then fun _ s=>(s.flush 0).then fun _ s=>s.fence.then fun _ s=> .ok 0 s
theorem pg(B:World)(H:List HP)(c:Cfg):
 ∀ w,Holds B H w→Calls Tryz.prog 175 [dU c].toArray w (aZ B H (i64 (chk c))):=by
 refine ao func175 aa ntmps175 aa (ac (ab (kPb (aX aa) aa fun b1=>(kPa aa aa (ad (ac (ac (ab (kPl fU isAgg3 aa aa aa aa (kPv (an aa aa aa) aa (kPm aa aa ?_)))))))))))
 apply gB (tp:=10) (t:=6) (σ1:=[(6,_),(2,_),(1,_)]) 4 rfl (aE rfl)
 ·intro hg1
  refine al aa (aD (m:=_) fU aa aa) (.on aa aa (ae hg1)) aa aa (al aa (ai isAgg3 aa aa) (.on aa aa (ae hg1)) aa aa (al aa (an aa aa aa) (.on aa aa (ae hg1)) aa aa (kPv (aG aa hg1 aa) aa ?_)))
  exact aY aa (aE aa) (fR hg1)
 ·intro hg1
  refine ap aa (.on aa aa (ah hg1)) aa (ap aa (.on aa aa (ah hg1)) aa (ap aa (.on aa aa (ah hg1)) aa (kPv (ay aa hg1 aa) aa ?_)))
  exact aY aa (aE aa) (fQ hg1)
 refine kPm aa aa ?_
 apply gB (tp:=18) (t:=11) (σ1:=[(11,_),(2,_),(1,_)]) 7 rfl (aE rfl)
 ·intro hg2
  refine al aa (aD (m:=_) io aa aa) (.on aa aa (ae hg2)) aa aa (al aa (ai isAgg3 aa aa) (.on aa aa (ae hg2)) aa aa (al aa (aD (m:=_) fU aa aa) (.on aa aa (ae hg2)) aa aa (al aa (ai isAgg3 aa aa) (.on aa aa (ae hg2)) aa aa (al aa (jE (c:=c.roots+2) aa aa (by simp only[Bool.or_eq_false_iff,decide_eq_false_iff_not] at*;rw[gQ (by omega)])) (.on aa aa (ae hg2)) aa aa (al aa (an aa aa aa) (.on aa aa (ae hg2)) aa aa (kPv (aG aa hg2 aa) aa ?_))))))
  exact aY aa (aE aa) (fR hg2)
 ·intro hg2
  refine ap aa (.on aa aa (ah hg2)) aa (ap aa (.on aa aa (ah hg2)) aa (ap aa (.on aa aa (ah hg2)) aa (ap aa (.on aa aa (ah hg2)) aa (ap aa (.on aa aa (ah hg2)) aa (ap aa (.on aa aa (ah hg2)) aa (kPv (ay aa hg2 aa) aa ?_))))))
  exact aY aa (aE aa) (fQ hg2)
 refine kPm aa aa ?_
 apply gB (tp:=23) (t:=19) (σ1:=[(19,_),(2,_),(1,_)]) 4 rfl (aE rfl)
 ·intro hg3
  refine al aa (aD (m:=_) io aa aa) (.on aa aa (ae hg3)) aa aa (al aa (ai isAgg3 aa aa) (.on aa aa (ae hg3)) aa aa (al aa (an aa aa aa) (.on aa aa (ae hg3)) aa aa (kPv (aG aa hg3 aa) aa ?_)))
  exact aY aa (aE aa) (fR hg3)
 ·intro hg3
  refine ap aa (.on aa aa (ah hg3)) aa (ap aa (.on aa aa (ah hg3)) aa (ap aa (.on aa aa (ah hg3)) aa (kPv (ay aa hg3 aa) aa ?_)))
  exact aY aa (aE aa) (fQ hg3)
 refine kPm aa aa ?_
 apply gB (tp:=28) (t:=24) (σ1:=[(24,_),(2,_),(1,_)]) 4 rfl (aE rfl)
 ·intro hg4
  refine al aa (aD (m:=_) eX aa aa) (.on aa aa (ae hg4)) aa aa (al aa (ai isAgg3 aa aa) (.on aa aa (ae hg4)) aa aa (al aa (an aa aa aa) (.on aa aa (ae hg4)) aa aa (kPv (aG aa hg4 aa) aa ?_)))
  exact aY aa (aE aa) (fR hg4)
 ·intro hg4
  refine ap aa (.on aa aa (ah hg4)) aa (ap aa (.on aa aa (ah hg4)) aa (ap aa (.on aa aa (ah hg4)) aa (kPv (ay aa hg4 aa) aa ?_)))
  exact aY aa (aE aa) (fQ hg4)
 refine kPm aa aa ?_
 apply gB (tp:=33) (t:=29) (σ1:=[(29,_),(2,_)]) 4 rfl ⟨rfl,rfl,trivial⟩
 ·intro hg5
  refine al aa (aD (m:=_) eX aa aa) (.on aa aa (ae hg5)) aa aa (al aa (ai isAgg3 aa aa) (.on aa aa (ae hg5)) aa aa (al aa (an aa aa aa) (.on aa aa (ae hg5)) aa aa (kPv (aG aa hg5 aa) aa ?_)))
  exact aY aa ⟨rfl,rfl,trivial⟩ (fR hg5)
 ·intro hg5
  refine ap aa (.on aa aa (ah hg5)) aa (ap aa (.on aa aa (ah hg5)) aa (ap aa (.on aa aa (ah hg5)) aa (kPv (ay aa hg5 aa) aa ?_)))
  exact aY aa ⟨rfl,rfl,trivial⟩ (fQ hg5)
 refine ad ?_
 refine a8 aa (fun h33=> ?_) (fun h33=> ?_)
 ·try simp only[decide_eq_true_eq,decide_eq_false_iff_not,Bool.not_eq_true',Bool.not_eq_false',Bool.or_eq_true,Bool.and_eq_true,Bool.and_eq_false_iff,Bool.or_eq_false_iff,beq_iff_eq,bne_iff_ne,beq_eq_false_iff_ne,bne_eq_false_iff_eq,ge_iff_le,gt_iff_lt,ne_eq] at h33
  refine ac (ab (kPa aa aa (ad (az ?_))))
  exact au results175 aa (fun w hw=>⟨by unfold chk;rw[if_neg (by rw[tS];omega)],hw.tail⟩)
 ·try simp only[decide_eq_true_eq,decide_eq_false_iff_not,Bool.not_eq_true',Bool.not_eq_false',Bool.or_eq_true,Bool.and_eq_true,Bool.and_eq_false_iff,Bool.or_eq_false_iff,beq_iff_eq,bne_iff_ne,beq_eq_false_iff_ne,bne_eq_false_iff_eq,ge_iff_le,gt_iff_lt,ne_eq] at h33
  refine aq (ac (ab (kPa aa aa (ad (az ?_)))))
  exact au results175 aa (fun w hw=>⟨by unfold chk;rw[if_pos (by rw[tS];omega)],hw.tail⟩)
theorem cA{s:Dev}{c:Cfg}(h:bA c)(hn:(s.n:Int)=c.words):¬ (¬ bA c∨(s.n:Int)≠c.words):=by simp[h,hn]
theorem wM(f:Int→Int):∀ (k:Nat) (i:Int) (s:Dev),et f (k+1) i s=(s.store (f i) 0).then fun _ s=>(s.flush (f i)).then fun _ s=>et f k (i+1) s:=fun _ _ _=>rfl
theorem oK(B:World)(Fr:List HP)(b:Nat)(s:Dev)(c:Cfg):
 ∀ w,Holds B (aB b s::Fr) w→Calls Tryz.prog 122 [ptr b,dU c].toArray w (Ret B (fun rv H'=>∃ a s',s.format c= .ok a s'∧rv=i64 a∧H'=aB b s'::Fr) (fun k H'=>∃ s',s.format c= .off s'∧k=dR∧H'=aB b s'::Fr)):=by
 refine ao func122 aa ntmps122 aa (ac (ab (kPb (aX aa) aa fun b3=>(kPa aa aa (ad (ac (ac (cO Tryz.mixed (by kernel_rfl) (by kernel_rfl) ?_))))))))
 refine kQv (ag isAgg134 sizeOf134 aa aa) aa ?_
 refine bF aa (ar call175 aa) (pg _ _ c) .free aa ?_
 refine kQv (an aa aa aa) aa (kQm aa aa ?_)
 apply Cz (tp:=18) (t:=12) (σ1:=[(12,_),(4,_),(3,_),(0,_)]) 6 rfl (aE rfl)
 ·intro hg1
  refine bj aa (ak aa) (.on aa aa (ae hg1)) aa (bF aa (ar call143 aa) (bH (q:=aB) (fun Fr=>kH _ Fr _ _)) (.on aa aa (ae hg1)) aa ?_)
  refine bj aa (ag isAgg134 sizeOf134 aa aa) (.on aa aa (ae hg1)) aa ?_
  refine bF aa (ar call120 aa) (jb _ _ c (Cc hg1)) (.on aa aa (ae hg1)) aa ?_
  refine bj aa (an aa aa aa) (.on aa aa (ae hg1)) aa (kQv (aG aa hg1 aa) aa ?_)
  exact eO aa (aE aa) (fR hg1)
 ·intro hg1
  refine aV aa (.on aa aa (ah hg1)) aa (aV aa (.on aa aa (ah hg1)) aa (aV aa (.on aa aa (ah hg1)) aa (aV aa (.on aa aa (ah hg1)) aa (aV aa (.on aa aa (ah hg1)) aa (kQv (ay aa hg1 aa) aa ?_)))))
  exact eO aa (aE aa) (fQ hg1)
 refine bZ ?_
 refine a8 aa (fun h18=> ?_) (fun h18=> ?_)
 ·have hbad:¬ bA c∨(s.n:Int)≠c.words:=by
   by_cases q:bA c
   ·right;simpa [chk,q] using h18
   ·exact .inl q
  refine ac (ab (kPa aa aa (ad (az ?_))))
  exact au results122 aa (fun w hh=>⟨_,⟨1,s,by unfold Dev.format;rw[if_pos hbad],rfl,rfl⟩,hh.tail⟩)
 ·have hgd:bA c∧(s.n:Int)=c.words:=by
   by_cases q:bA c
   ·exact⟨q,by simpa [chk,q] using h18⟩
   ·simp[chk,q] at h18
  obtain⟨hc,hn⟩:=hgd
  have hc1:=hc.r1
  have hc2:=hc.r2
  have hc3:=hc.l1
  have hc4:=hc.l2
  have hc5:=hc.s1
  have hc6:=hc.s2
  have hact:=hc.act
  refine aq (ac (ab (kPm aa aa ?_)))
  refine aU aa (ar call145 aa) (cD (q:=aB) (fun Fr=>cz _ Fr _ _ _ _)) .free aa aa ?_ ?_
  rotate_left
  ·rintro _ _ ⟨sx,⟨hx,rfl⟩,rfl⟩
   have hfo:s.format c= .off sx:=by
    simp[Dev.format,cA hc hn,hx]
   exact ba fun w hh=>⟨_,⟨sx,hfo,rfl,rfl⟩,hh.tail⟩
  rintro _ _ ⟨s1,⟨e1,hm1,rfl⟩,rfl⟩
  refine ad (ac (ab (kPm aa aa ?_)))
  refine aU aa (ar call151 aa) (cD (q:=aB) (fun Fr=>dz _ Fr _ _ _)) .free aa aa ?_ ?_
  rotate_left
  ·rintro _ _ ⟨sx,⟨hx,rfl⟩,rfl⟩
   have hfo:s.format c= .off sx:=by
    simp[Dev.format,cA hc hn,hm1,hx]
   exact ba fun w hh=>⟨_,⟨sx,hfo,rfl,rfl⟩,hh.tail⟩
  rintro _ _ ⟨s2,⟨e2,hm2,rfl⟩,rfl⟩
  refine ad (ac (ab (kPm aa aa ?_)))
  refine aU aa (ar call152 aa) (cD (q:=aB) (fun Fr=>eK _ Fr _ _)) .free aa aa ?_ ?_
  rotate_left
  ·rintro _ _ ⟨sx,⟨hx,rfl⟩,rfl⟩
   have hfo:s.format c= .off sx:=by
    simp[Dev.format,cA hc hn,hm1,hm2,hx]
   exact ba fun w hh=>⟨_,⟨sx,hfo,rfl,rfl⟩,hh.tail⟩
  rintro _ _ ⟨s3,⟨e3,hm3,rfl⟩,rfl⟩
  refine ad (am [4,3,0] rfl (ac (ac (ab (kPl io isAgg3 aa aa aa aa (kPl fU isAgg3 aa aa aa aa (kPl eX isAgg3 aa aa aa aa (kPb (rz runUnderlying166 sizeOf3 zeroValue3 aa aa aa aa aa aa aa) aa fun b31=>(kPv (bG aa runUnderlying166 ⟨_,rfl⟩ rfl) aa (kPm aa aa (ad ?_)))))))))))
  refine aH (dq (ι:=Nat×Dev) (fun i=>i.1≤3∧st3 [c.log,c.roots,c.space] 3 0 s3=st3 [c.log,c.roots,c.space] (3 - i.1) i.1 i.2) (fun i=>[(0,ptr b),(3,ptr b3),(4,i64 0),(31,.slice (some ⟨b31,0,none⟩) 3 3),(32,i64 3),(33,i64 i.1)]) (fun i=>row b31 [i64 c.log,i64 c.roots,i64 c.space] 3::row b3 [i64 c.log,i64 c.roots,i64 c.space] 134::aB b i.2::Fr) (fun i=>3 - i.1) (0,s3) ⟨Nat.zero_le _,rfl⟩ (fun a w st=>st.to ⟨rfl,rfl,rfl,rfl,rfl,rfl,trivial⟩ id) ?_)
  rintro⟨k,sa⟩ ⟨hk1,hk2⟩
  simp only at hk1 hk2 ⊢
  refine ac (ab (kPv (an aa aa aa) aa (ad (ac ?_))))
  refine a8 aa (fun h34=> ?_) (fun h34=> ?_)
  ·have hk3:k<3:=by simp at h34;omega
   refine aq (ac (aH (ac (ab ?_))))
   have hlb:=DY (k:=k) hk3 (a:=c.log) (b:=c.roots) (c:=c.space) (by omega) (by omega) (by omega)
   refine kPm aa aa (kPv (cf runUnderlying166 sizeOf3 aa aa (by omega) (by omega)) aa (kPv (ai (v:=i64 ([c.log,c.roots,c.space].getD k 0)) isAgg3 aa (by rw[Nat.zero_add,Int.toNat_natCast];exact CO hk3)) aa (kPa aa aa (kPa aa aa (ad (am [6,5,33,32,31,4,3,0] rfl (ab (kPm aa aa (kPm aa aa (kPv (aN aa aa) aa (kPm aa aa ?_)))))))))))
   refine kPv (bP runUnderlying3 runUnderlying25 aa) aa ?_
   refine aU aa (ar call145 aa) (cD (q:=aB) (fun Fr=>cz _ Fr _ _ _ _)) .free aa aa ?_ ?_
   rotate_left
   ·rintro _ _ ⟨sx,⟨hx,rfl⟩,rfl⟩
    have hfo:s.format c= .off sx:=by
     have hz:st3 [c.log,c.roots,c.space] 3 0 s3= .off sx:=by rw[hk2,show 3 - k=(3 - (k+1))+1 by omega];simp only[st3];rw[hx];rfl
     simp[Dev.format,cA hc hn,hm1,hm2,hm3,hz]
    exact ba fun w hh=>⟨_,⟨sx,hfo,rfl,rfl⟩,hh.tail.tail⟩
   rintro _ _ ⟨s4,⟨e4,hm4,rfl⟩,rfl⟩
   refine ad (am [33,32,31,4,3,0] rfl (ab (kPv (aN aa aa) aa (kPm aa aa (ad ?_)))))
   exact fun a w st=>⟨(k+1,s4),⟨by simp only;omega,by simp only;rw[hk2,show 3 - k=(3 - (k+1))+1 by omega];simp only[st3];rw[hm4];rfl⟩,by simp only;omega,st.to ⟨rfl,rfl,rfl,rfl,rfl,rfl,trivial⟩ id⟩
  ·have hk3:¬ k<3:=by simp at h34;omega
   have hA:st3 [c.log,c.roots,c.space] 3 0 s3= .ok () sa:=by
    rw[hk2,show 3 - k=0 by omega];rfl
   refine bE (ac (ab (kPm aa aa ?_)))
   refine aU aa (ar call145 aa) (cD (q:=aB) (fun Fr=>cz _ Fr _ _ _ _)) .free aa aa ?_ ?_
   rotate_left
   ·rintro _ _ ⟨sx,⟨hx,rfl⟩,rfl⟩
    have hfo:s.format c= .off sx:=by
     simp[Dev.format,cA hc hn,hm1,hm2,hm3,hA,hx]
    exact ba fun w hh=>⟨_,⟨sx,hfo,rfl,rfl⟩,hh.tail.tail⟩
   rintro _ _ ⟨s5,⟨e5,hm5,rfl⟩,rfl⟩
   refine ad (am [4,3,0] rfl (ac (ab (kPm aa aa ?_))))
   refine aU aa (ar call151 aa) (cD (q:=aB) (fun Fr=>dz _ Fr _ _ _)) .free aa aa ?_ ?_
   rotate_left
   ·rintro _ _ ⟨sx,⟨hx,rfl⟩,rfl⟩
    have hfo:s.format c= .off sx:=by
     simp[Dev.format,cA hc hn,hm1,hm2,hm3,hA,hm5,hx]
    exact ba fun w hh=>⟨_,⟨sx,hfo,rfl,rfl⟩,hh.tail.tail⟩
   rintro _ _ ⟨s6,⟨e6,hm6,rfl⟩,rfl⟩
   refine ad (ac (ac (ab (kPa aa aa (ad (aH (dq (ι:=Int×Dev) (fun i=>(0≤i.1∧i.1≤c.log)∧et c.record c.log.toNat 0 s6=et c.record (c.log - i.1).toNat i.1 i.2) (fun i=>[(0,ptr b),(3,ptr b3),(4,i64 0),(7,i64 i.1)]) (fun i=>row b31 [i64 c.log,i64 c.roots,i64 c.space] 3::row b3 [i64 c.log,i64 c.roots,i64 c.space] 134::aB b i.2::Fr) (fun i=>(c.log - i.1).toNat) (0,s6) ⟨⟨by simp only;omega,by simp only;omega⟩,by simp only;rw[Int.sub_zero]⟩ (fun a w st=>st.to ⟨rfl,rfl,rfl,rfl,trivial⟩ id) ?_)))))))
   rintro⟨i,sb⟩ ⟨⟨hi1,hi2⟩,hi3⟩
   simp only at hi1 hi2 hi3 ⊢
   have hri:16≤c.record i∧c.record i≤10000:=by simp only[Cfg.record];omega
   refine ac (ac (ab (kPm aa aa (kPl io isAgg3 aa aa aa aa (kPv (an aa aa aa) aa (ad ?_))))))
   refine a8 aa (fun h52=> ?_) (fun h52=> ?_)
   ·have hlt:i<c.log:=by simpa using h52
    refine aq (ac (aH (ac (ab (kPm aa aa (kPv (ag isAgg134 sizeOf134 aa aa) aa ?_))))))
    refine kPm aa aa (aw aa (ar call176 aa) (gk _ _ c _ (by omega) (by omega)) .free aa aa ?_)
    refine aU aa (ar call145 aa) (cD (q:=aB) (fun Fr=>cz _ Fr _ _ _ _)) .free aa aa ?_ ?_
    rotate_left
    ·rintro _ _ ⟨sx,⟨hx,rfl⟩,rfl⟩
     have hfo:s.format c= .off sx:=by
      have hz:et c.record c.log.toNat 0 s6= .off sx:=by rw[hi3,show(c.log - i).toNat=(c.log - (i+1)).toNat+1 by omega];simp only[et];rw[hx];rfl
      simp[Dev.format,cA hc hn,hm1,hm2,hm3,hA,hm5,hm6,hz]
     exact ba fun w hh=>⟨_,⟨sx,hfo,rfl,rfl⟩,hh.tail.tail⟩
    rintro _ _ ⟨s7,⟨e7,hm7,rfl⟩,rfl⟩
    refine ad (am [7,4,3,0] rfl (ab (kPm aa aa (kPv (ag isAgg134 sizeOf134 aa aa) aa ?_))))
    refine kPm aa aa (aw aa (ar call176 aa) (gk _ _ c _ (by omega) (by omega)) .free aa aa ?_)
    refine aU aa (ar call151 aa) (cD (q:=aB) (fun Fr=>dz _ Fr _ _ _)) .free aa aa ?_ ?_
    rotate_left
    ·rintro _ _ ⟨sx,⟨hx,rfl⟩,rfl⟩
     have hfo:s.format c= .off sx:=by
      have hz:et c.record c.log.toNat 0 s6= .off sx:=by rw[hi3,show(c.log - i).toNat=(c.log - (i+1)).toNat+1 by omega];simp only[et];rw[hm7,aQ,hx];rfl
      simp[Dev.format,cA hc hn,hm1,hm2,hm3,hA,hm5,hm6,hz]
     exact ba fun w hh=>⟨_,⟨sx,hfo,rfl,rfl⟩,hh.tail.tail⟩
    rintro _ _ ⟨s8,⟨e8,hm8,rfl⟩,rfl⟩
    refine ad (ab (kPm aa aa (kPv (aN aa aa) aa (kPa aa aa (ad (am [7,4,3,0] rfl ?_))))))
    exact fun a w st=>⟨(i+1,s8),⟨⟨by simp only;omega,by simp only;omega⟩,by simp only;rw[hi3,show(c.log - i).toNat=(c.log - (i+1)).toNat+1 by omega];simp only[et];rw[hm7,aQ,hm8];rfl⟩,by simp only;omega,st.to ⟨rfl,rfl,rfl,rfl,trivial⟩ id⟩
   ·have hlt:¬ i<c.log:=by simpa using h52
    have hB:et c.record c.log.toNat 0 s6= .ok () sb:=by
     rw[hi3,show(c.log - i).toNat=0 by omega];rfl
    refine bE (ac (ac (ab (kPv (ag isAgg134 sizeOf134 aa aa) aa ?_))))
    refine aw aa (ar call142 aa) (fH _ _ c hc) .free aa aa ?_
    refine kPa aa aa (ad (am [8,4,3,0] rfl (aH ?_)))
    have hroot:c.active≤c.root c.roots∧c.root c.roots≤2000:=by simp only[Cfg.root];omega
    refine dq (ι:=Int×Dev) (fun i=>(c.active≤i.1∧i.1≤c.root c.roots)∧et id (c.root c.roots - c.active).toNat c.active sb=et id (c.root c.roots - i.1).toNat i.1 i.2) (fun i=>[(0,ptr b),(3,ptr b3),(4,i64 0),(8,i64 i.1)]) (fun i=>row b31 [i64 c.log,i64 c.roots,i64 c.space] 3::row b3 [i64 c.log,i64 c.roots,i64 c.space] 134::aB b i.2::Fr) (fun i=>(c.root c.roots - i.1).toNat) (c.active,sb) ⟨⟨by simp only;omega,by simp only;omega⟩,rfl⟩ (fun a w st=>st.to ⟨rfl,rfl,rfl,rfl,trivial⟩ id) ?_
    rintro⟨j,sc⟩ ⟨⟨hj1,hj2⟩,hj3⟩
    simp only at hj1 hj2 hj3 ⊢
    refine ac (ac (ab (kPm aa aa (kPv (ag isAgg134 sizeOf134 aa aa) aa ?_))))
    refine kPl fU isAgg3 aa aa aa aa (aw aa (ar call171 aa) (lI _ _ c hc _ (by omega) (by omega)) .free aa aa ?_)
    refine kPv (an aa aa aa) aa (ad ?_)
    refine a8 aa (fun h72=> ?_) (fun h72=> ?_)
    ·have hlt2:j<c.root c.roots:=by simpa using h72
     refine aq (ac (aH (ac (ab (kPm aa aa (kPm aa aa ?_))))))
     refine aU aa (ar call145 aa) (cD (q:=aB) (fun Fr=>cz _ Fr _ _ _ _)) .free aa aa ?_ ?_
     rotate_left
     ·rintro _ _ ⟨sx,⟨hx,rfl⟩,rfl⟩
      have hfo:s.format c= .off sx:=by
       have hz:et id (c.root c.roots - c.active).toNat c.active sb= .off sx:=by rw[hj3,show(c.root c.roots - j).toNat=(c.root c.roots - (j+1)).toNat+1 by omega];simp only[et,id];rw[hx];rfl
       simp[Dev.format,cA hc hn,hm1,hm2,hm3,hA,hm5,hm6,hB,hz]
      exact ba fun w hh=>⟨_,⟨sx,hfo,rfl,rfl⟩,hh.tail.tail⟩
     rintro _ _ ⟨s9,⟨e9,hm9,rfl⟩,rfl⟩
     refine ad (am [8,4,3,0] rfl (ab (kPm aa aa (kPm aa aa ?_))))
     refine aU aa (ar call151 aa) (cD (q:=aB) (fun Fr=>dz _ Fr _ _ _)) .free aa aa ?_ ?_
     rotate_left
     ·rintro _ _ ⟨sx,⟨hx,rfl⟩,rfl⟩
      have hfo:s.format c= .off sx:=by
       have hz:et id (c.root c.roots - c.active).toNat c.active sb= .off sx:=by rw[hj3,show(c.root c.roots - j).toNat=(c.root c.roots - (j+1)).toNat+1 by omega];simp only[et,id];rw[hm9,aQ,hx];rfl
       simp[Dev.format,cA hc hn,hm1,hm2,hm3,hA,hm5,hm6,hB,hz]
      exact ba fun w hh=>⟨_,⟨sx,hfo,rfl,rfl⟩,hh.tail.tail⟩
     rintro _ _ ⟨s10,⟨e10,hm10,rfl⟩,rfl⟩
     refine ad (ab (kPm aa aa (kPv (aN aa aa) aa (kPa aa aa (ad ?_)))))
     exact fun a w st=>⟨(j+1,s10),⟨⟨by simp only;omega,by simp only;omega⟩,by simp only;rw[hj3,show(c.root c.roots - j).toNat=(c.root c.roots - (j+1)).toNat+1 by omega];simp only[et,id];rw[hm9,aQ,hm10];rfl⟩,by simp only;omega,st.to ⟨rfl,rfl,rfl,rfl,trivial⟩ id⟩
    ·have hlt2:¬ j<c.root c.roots:=by simpa using h72
     have hC:et id (c.root c.roots - c.active).toNat c.active sb= .ok () sc:=by
      rw[hj3,show(c.root c.roots - j).toNat=0 by omega];rfl
     refine bE (ac (ab (kPm aa aa ?_)))
     refine aU aa (ar call151 aa) (cD (q:=aB) (fun Fr=>dz _ Fr _ _ _)) .free aa aa ?_ ?_
     rotate_left
     ·rintro _ _ ⟨sx,⟨hx,rfl⟩,rfl⟩
      have hfo:s.format c= .off sx:=by
       simp[Dev.format,cA hc hn,hm1,hm2,hm3,hA,hm5,hm6,hB,hC,hx]
      exact ba fun w hh=>⟨_,⟨sx,hfo,rfl,rfl⟩,hh.tail.tail⟩
     rintro _ _ ⟨s11,⟨e11,hm11,rfl⟩,rfl⟩
     refine ad (am [4,0] rfl (ac (ab (kPm aa aa ?_))))
     refine aU aa (ar call152 aa) (cD (q:=aB) (fun Fr=>eK _ Fr _ _)) .free aa aa ?_ ?_
     rotate_left
     ·rintro _ _ ⟨sx,⟨hx,rfl⟩,rfl⟩
      have hfo:s.format c= .off sx:=by
       simp[Dev.format,cA hc hn,hm1,hm2,hm3,hA,hm5,hm6,hB,hC,hm11,hx]
      exact ba fun w hh=>⟨_,⟨sx,hfo,rfl,rfl⟩,hh.tail.tail⟩
     rintro _ _ ⟨s12,⟨e12,hm12,rfl⟩,rfl⟩
     refine ad (ac (ab (kPm aa aa ?_)))
     refine aU aa (ar call145 aa) (cD (q:=aB) (fun Fr=>cz _ Fr _ _ _ _)) .free aa aa ?_ ?_
     rotate_left
     ·rintro _ _ ⟨sx,⟨hx,rfl⟩,rfl⟩
      have hfo:s.format c= .off sx:=by
       simp[Dev.format,cA hc hn,hm1,hm2,hm3,hA,hm5,hm6,hB,hC,hm11,hm12,go,hx]
      exact ba fun w hh=>⟨_,⟨sx,hfo,rfl,rfl⟩,hh.tail.tail⟩
     rintro _ _ ⟨s13,⟨e13,hm13,rfl⟩,rfl⟩
     refine ad (ac (ab (kPm aa aa ?_)))
     refine aU aa (ar call151 aa) (cD (q:=aB) (fun Fr=>dz _ Fr _ _ _)) .free aa aa ?_ ?_
     rotate_left
     ·rintro _ _ ⟨sx,⟨hx,rfl⟩,rfl⟩
      have hfo:s.format c= .off sx:=by
       simp[Dev.format,cA hc hn,hm1,hm2,hm3,hA,hm5,hm6,hB,hC,hm11,hm12,go,hm13,hx]
      exact ba fun w hh=>⟨_,⟨sx,hfo,rfl,rfl⟩,hh.tail.tail⟩
     rintro _ _ ⟨s14,⟨e14,hm14,rfl⟩,rfl⟩
     refine ad (ac (ab (kPm aa aa ?_)))
     refine aU aa (ar call152 aa) (cD (q:=aB) (fun Fr=>eK _ Fr _ _)) .free aa aa ?_ ?_
     rotate_left
     ·rintro _ _ ⟨sx,⟨hx,rfl⟩,rfl⟩
      have hfo:s.format c= .off sx:=by
       simp[Dev.format,cA hc hn,hm1,hm2,hm3,hA,hm5,hm6,hB,hC,hm11,hm12,go,hm13,hm14,hx]
      exact ba fun w hh=>⟨_,⟨sx,hfo,rfl,rfl⟩,hh.tail.tail⟩
     rintro _ _ ⟨s15,⟨e15,hm15,rfl⟩,rfl⟩
     refine ad (am [4] rfl (ac (ab (kPa aa aa (ad (az ?_))))))
     exact au results122 aa (fun w hh=>⟨_,⟨0,s15,by simp[Dev.format,cA hc hn,hm1,hm2,hm3,hA,hm5,hm6,hB,hC,hm11,hm12,go,hm13,hm14,hm15],rfl,rfl⟩,hh.tail.tail⟩)
theorem og{p:Pow}(h:p.lim<0):p.out=false:=by simp[Pow.out];omega
theorem lE{s:Dev}{i v:Int}(h:s.pow.lim<0)(hi:0≤i∧i<s.n):s.store i v= .ok 0 (s.up.st i.toNat v):=by
 have:s.has i=true:=by simp[Dev.has,hi]
 simp[Dev.store,this,og h]
theorem oS{s:Dev}{i:Int}(h:s.pow.lim<0)(hi:0≤i∧i<s.n):s.flush i= .ok 0 (s.up.fl i.toNat):=by
 have:s.has i=true:=by simp[Dev.has,hi]
 simp[Dev.flush,this,og h]
theorem lP{s:Dev}(h:s.pow.lim<0):s.fence= .ok () s.up.fe:=by simp[Dev.fence,og h]
theorem se{x:Bool}(h:x=true):Ending.returned (.bool x)=Ending.returned (.bool true):=by rw[h]
theorem CF{α:Type}{a b:α}{s t:Dev}(h:Out.ok a s=Out.ok b t):a=b∧s=t:=by cases h;exact⟨rfl,rfl⟩
theorem CE{α:Type}{a:α}{s t:Dev}(h:Out.ok a s=Out.off t):False:=by cases h
theorem Dg(B:World)(Fr:List HP)(bp pb:Nat):
 ∀ w,Holds B (row bp [ptr pb] 206::jI pb ⟨1,0⟩::Fr) w→Calls Tryz.prog 251 [ptr bp].toArray w (Ret B (fun _ _=>False) (fun c H'=>c=dR∧H'=row bp [ptr pb] 206::jI pb ⟨1,1⟩::Fr)):=by
 refine ao func251 aa ntmps251 aa (ac (ab (kPv (ai isAgg206 aa aa) aa ?_)))
 refine aU aa (ar call189 aa) (cD (fun Fr=>lB _ Fr _ _)) .free aa aa ?_ ?_
 rotate_left
 ·rintro _ _ ⟨_,⟨ho,rfl,rfl⟩,rfl⟩
  first | (exfalso;revert ho;decide) | exact ba fun w hw=>⟨_,⟨rfl,rfl⟩,hw⟩
 rintro _ _ ⟨_,⟨ho,rfl,rfl⟩,rfl⟩
 refine ad (ab (kPv (ai isAgg206 aa aa) aa ?_))
 refine aU aa (ar call189 aa) (cD (fun Fr=>lB _ Fr _ _)) .free aa aa ?_ ?_
 rotate_left
 ·rintro _ _ ⟨_,⟨ho,rfl,rfl⟩,rfl⟩
  first | (exfalso;revert ho;decide) | exact ba fun w hw=>⟨_,⟨rfl,rfl⟩,hw⟩
 rintro _ _ ⟨_,⟨ho,rfl,rfl⟩,rfl⟩
 exfalso;revert ho;decide
theorem Df(B:World)(H:List HP):
 ∀ w,Holds B H w→Calls Tryz.prog 253 [].toArray w (aZ B H (.tuple #[])):=by
 refine ao func253 aa ntmps253 aa (aq ?_)
 exact cL results253 (fun w hw=>⟨rfl,hw⟩)
theorem xS(B:World)(H:List HP):
 ∀ w,Holds B H w→Calls Tryz.prog 247 [].toArray w (aZ B H (.bool true)):=by
 refine ao func247 aa ntmps247 aa (ac (ab (kPa aa aa (ad (ac (ab (aJ aa (ar call127 aa) (qU _ _ _) .free aa aa ?_)))))))
 rintro _ _ ⟨pb,rfl,rfl⟩
 refine kPb (ce zeroValue206 aa) aa fun b1=> ?_
 refine kPs (aO sizeOf206 aa aa (by first | rfl | assumption) rfl) rfl ?_;refine ad ?_;refine ac ?_;refine ac ?_;refine ab ?_;refine kPv (ai isAgg206 aa aa) aa ?_;refine kPv (dx runUnderlying206 aa aa aa) aa ?_;refine ad ?_;refine bI aa (rfl) ?_;refine aq ?_;refine ac ?_;refine ab ?_;refine kPv (dw aa aa) aa ?_
 refine dQ aa (ar call250 aa) (vA false (row b1 [ptr pb] 206::jI pb ⟨1,1⟩::H) call251 (fun A w hw=>(Dg B (A::H) b1 pb w ((hw.front 2 aa).front 2 aa)).mono (Ret.mono (fun _ _ h=>h.elim) (fun c H' h=>⟨rfl,h.1,fun w hw=>h.2▸hw |>.front 2 aa⟩)))) .free aa aa ?_
 refine kPa aa aa (ad (ac (ab (kPm aa aa (kPv (bz aa) aa (kPm aa aa ?_))))))
 apply dH (tp:=14) (t:=10) (σ1:=[(10,_),(0,_)]) 4 rfl ⟨rfl,rfl,trivial⟩
 ·intro hg1
  refine al aa (ai isAgg206 aa aa) (.on aa aa (ae hg1)) aa aa (aw aa (ar call252 aa) (bH (fun Fr=>AF _ Fr _ _)) (.on aa aa (ae hg1)) aa aa ?_)
  refine al aa (an aa aa aa) (.on aa aa (ae hg1)) aa aa (kPv (ay aa hg1 aa) aa ?_)
  exact aY aa ⟨rfl,rfl,trivial⟩ (cS hg1)
 ·intro hg1
  refine ap aa (.on aa aa (ah hg1)) aa (ap aa (.on aa aa (ah hg1)) aa (ap aa (.on aa aa (ah hg1)) aa (kPv (aG aa hg1 aa) aa ?_)))
  exact aY aa ⟨rfl,rfl,trivial⟩ (cU hg1)
 refine kPm aa aa ?_
 apply dH (tp:=17) (t:=15) (σ1:=[(15,_),(0,_)]) 2 rfl ⟨rfl,rfl,trivial⟩
 ·intro hg2
  refine dQ aa (ar call250 aa) (vA true (row b1 [ptr pb] 206::jI pb ⟨1,1⟩::H) call253 (fun A w hw=>(Df B _ w hw).mono fun _ _ h=>h.ret ⟨rfl,fun _ h=>h⟩)) (.on aa aa (ae hg2)) aa aa ?_
  refine kPv (ay aa hg2 aa) aa ?_
  exact aY aa ⟨rfl,rfl,trivial⟩ (cS hg2)
 ·intro hg2
  refine ap aa (.on aa aa (ah hg2)) aa (kPv (aG aa hg2 aa) aa ?_)
  exact aY aa ⟨rfl,rfl,trivial⟩ (cU hg2)
 refine kPa aa aa (ad (az ?_))
 exact au results247 aa (fun w hw=>⟨rfl,hw.tail.tail⟩)
theorem qY(B:World)(Fr:List HP)(sv:Value)(xs:List Int)(hx0:0<xs.length)(hx1:xs.length≤100000)(hr:SlR B Fr sv (xs.map w64)):
 ∀ w,Holds B Fr w→Calls Tryz.prog 121 [sv].toArray w (Ret B (fun rv H'=>∃ b pa,rv=ptr b∧H'=aB b ⟨pa,⟨-1,0⟩,(xs.length+7) / 8*8,fun i=>xs.getD i 0,fun i=>xs.getD i 0,fun _=>none⟩::Fr) (fun _ _=>False)):=by
 refine ao func121 aa ntmps121 aa (ac (ab (kPa aa aa (ad (ac (ab (aJ aa (ar call127 aa) (qU _ _ _) .free aa aa ?_)))))))
 rintro _ _ ⟨pb,rfl,rfl⟩
 refine kPm aa aa (aJ aa (ar call126 aa) (vJ _ _ _ _ _ xs hx0 hx1 hr) .free aa aa ?_)
 rintro _ _ ⟨b,rfl,rfl⟩
 refine kPa aa aa (ad (az ?_))
 exact au results121 aa (fun w hw=>⟨_,⟨b,pb,rfl,rfl⟩,hw⟩)
theorem BR(B:World)(H:List HP)(i:Int):
 ∀ w,Holds B H w→Calls Tryz.prog 249 [i64 i].toArray w (aZ B H (.int .u8 0)):=by
 refine ao func249 aa ntmps249 aa (ac (ab (kPa aa aa (ad (ac (ab (kPa aa aa (ad (az ?_)))))))))
 exact au results249 aa (fun w hw=>⟨rfl,hw⟩)
theorem xR(B:World)(H:List HP):
 ∀ w,Holds B H w→Calls Tryz.prog 246 [].toArray w (aZ B H (.bool true)):=by
 refine ao func246 aa ntmps246 aa (ac (ab (kPa aa aa (ad (ac (ac (ab (aw aa (ar call247 aa) (xS _ _) .free aa aa ?_))))))))
 refine kPv (bz aa) aa (ad (bI aa (rfl) (aq (ac (ab (kPb (fW runUnderlying30 sizeOf25 zeroValue25 aa aa aa) aa fun b6=>(aJ aa (ar call121 aa) (qY _ _ _ [1] (by decide) (by decide) (SlR.row aa aa)) .free aa aa ?_)))))))
 rintro _ _ ⟨bd,pa,rfl,rfl⟩
 refine kPa aa aa (ad (ac (ac (ab (kPm aa aa (kPv (dx runUnderlying90 aa aa aa) aa (ad (bI aa (rfl) (aq (ac (ab ?_)))))))))))
 refine kPm aa aa ?_
 refine aU aa (ar call145 aa) (cD (q:=aB) (fun Fr=>cz _ Fr _ _ _ _)) .free aa aa ?_ ?_
 rotate_left
 ·rintro _ _ ⟨s9,⟨hm9,rfl⟩,rfl⟩
  exact(CE ((lE (s:=(⟨pa,⟨-1,0⟩,8,fun i=>([1]:List Int).getD i 0,fun i=>([1]:List Int).getD i 0,fun _=>none⟩:Dev)) (i:=0) (v:=5) (show(-1:Int)<0 by decide) ⟨by decide,show(0:Int)<8 by decide⟩).symm.trans hm9)).elim
 rintro _ _ ⟨s1,⟨e1,hm1,rfl⟩,rfl⟩
 obtain⟨rfl,rfl⟩:=CF ((lE (s:=(⟨pa,⟨-1,0⟩,8,fun i=>([1]:List Int).getD i 0,fun i=>([1]:List Int).getD i 0,fun _=>none⟩:Dev)) (i:=0) (v:=5) (show(-1:Int)<0 by decide) ⟨by decide,show(0:Int)<8 by decide⟩).symm.trans hm1)
 refine kPa aa aa (ad (am [2,1,0] rfl (ac (ab (kPm aa aa (aw aa (ar call173 aa) (bH (q:=aB) (fun Fr=>cm _ Fr _ _ _)) .free aa aa ?_))))))
 refine kPa aa aa (ad (ac (ab (kPm aa aa (aJ aa (ar call248 aa) (xd _ _ _ ((⟨pa,⟨-1,0⟩,8,fun i=>([1]:List Int).getD i 0,fun i=>([1]:List Int).getD i 0,fun _=>none⟩:Dev).up.st 0 5) 249 [] (fun _=>0) ⟨call249,fun _=>by decide,fun H _ i _=>BR B H i⟩) .free aa aa ?_)))))
 rintro _ _ rfl
 refine ad (ac (ab (kPm aa aa (kPv (an aa aa aa) aa (kPm aa aa ?_)))))
 apply dH (tp:=21) (t:=18) (σ1:=[(18,_),(1,_),(0,_)]) 3 rfl (aE rfl)
 ·intro hg1
  refine al aa (ak aa) (.on aa aa (ae hg1)) aa aa (al aa (an aa aa aa) (.on aa aa (ae hg1)) aa aa (kPv (ay aa hg1 aa) aa ?_))
  exact aY aa (aE aa) (cS hg1)
 ·intro hg1
  refine ap aa (.on aa aa (ah hg1)) aa (ap aa (.on aa aa (ah hg1)) aa (kPv (aG aa hg1 aa) aa ?_))
  exact aY aa (aE aa) (cU hg1)
 refine kPm aa aa ?_
 apply dH (tp:=26) (t:=22) (σ1:=[(22,_),(1,_),(0,_)]) 4 rfl (aE rfl)
 ·intro hg2
  refine al aa (ak aa) (.on aa aa (ae hg2)) aa aa (aw aa (ar call173 aa) (bH (q:=aB) (fun Fr=>cm _ Fr _ _ _)) (.on aa aa (ae hg2)) aa aa ?_)
  refine al aa (an aa aa aa) (.on aa aa (ae hg2)) aa aa (kPv (ay aa hg2 aa) aa ?_)
  exact aY aa (aE aa) (cS hg2)
 ·intro hg2
  refine ap aa (.on aa aa (ah hg2)) aa (ap aa (.on aa aa (ah hg2)) aa (ap aa (.on aa aa (ah hg2)) aa (kPv (aG aa hg2 aa) aa ?_)))
  exact aY aa (aE aa) (cU hg2)
 refine kPm aa aa ?_
 apply dH (tp:=31) (t:=27) (σ1:=[(27,_),(0,_)]) 4 rfl ⟨rfl,rfl,trivial⟩
 ·intro hg3
  refine al aa (ak aa) (.on aa aa (ae hg3)) aa aa (aw aa (ar call143 aa) (bH (q:=aB) (fun Fr=>kH _ Fr _ _)) (.on aa aa (ae hg3)) aa aa ?_)
  refine al aa (an aa aa aa) (.on aa aa (ae hg3)) aa aa (kPv (ay aa hg3 aa) aa ?_)
  exact aY aa ⟨rfl,rfl,trivial⟩ (cS hg3)
 ·intro hg3
  refine ap aa (.on aa aa (ah hg3)) aa (ap aa (.on aa aa (ah hg3)) aa (ap aa (.on aa aa (ah hg3)) aa (kPv (aG aa hg3 aa) aa ?_)))
  exact aY aa ⟨rfl,rfl,trivial⟩ (cU hg3)
 refine kPa aa aa (ad (az ?_))
 exact au results246 aa (fun w hw=>⟨rfl,hw.tail.tail⟩)
theorem fX:bA ⟨3,1,8⟩:=⟨by decide,by decide,by decide,by decide,by decide,by decide⟩
def eu(w r:Int):Int:=pK .or .u64 (pK .or .u64 12754194144713244672 (IntKind.u64.wrap (IntKind.u64.wrap r*2 ^ min (32:Int).toNat IntKind.u64.bits))) (IntKind.u64.wrap w)
def l5(w r:Int):Int:=if 0≤w∧w≤64∧0≤r∧r≤w then 0 else 5
def qD(w:Int):Int:=IntKind.i64.wrap (IntKind.u32.wrap w)
def qE(w:Int):Int:=IntKind.i64.wrap (pK .and .u64 (w.fdiv (2 ^ min (32:Int).toNat IntKind.u64.bits)) 16777215)
def unp(w:Int):Int×Int×Bool:=if l5 (qD w) (qE w)=0∧eu (qD w) (qE w)=w then (qD w,qE w,true) else (0,0,false)
theorem xQ(B:World)(H:List HP):
 ∀ w,Holds B H w→Calls Tryz.prog 245 [].toArray w (aZ B H (.bool true)):=by
 refine ao func245 aa ntmps245 aa (ac (ab (kPa aa aa (ad (ac (ac (ab (aw aa (ar call246 aa) (xR _ _) .free aa aa ?_))))))))
 refine kPv (bz aa) aa (ad (bI aa (rfl) (aq (ac (ab (kPv (aP aa (df _ _ _ aa aa aa)) aa (kPb (aC zeroValue134 aa) aa fun b1=>(kPs (ax (vs:=_) sizeOf134 aa aa aa aa aa) aa (ad (ac (ab ?_)))))))))))
 refine kPv (ag isAgg134 sizeOf134 aa aa) aa ?_
 refine aw aa (ar call175 aa) (pg _ _ ⟨3,1,8⟩) .free aa aa ?_
 refine kPv (an aa aa aa) aa (kPm aa aa ?_)
 apply dH (tp:=12) (t:=8) (σ1:=[(8,_),(1,_),(0,_)]) 4 rfl (aE rfl)
 ·intro hg1
  refine al aa (ag isAgg134 sizeOf134 aa aa) (.on aa aa (ae hg1)) aa aa ?_
  refine aw aa (ar call142 aa) (fH _ _ ⟨3,1,8⟩ fX) (.on aa aa (ae hg1)) aa aa ?_
  refine al aa (an aa aa aa) (.on aa aa (ae hg1)) aa aa (kPv (ay aa hg1 aa) aa ?_)
  exact aY aa (aE aa) (cS hg1)
 ·intro hg1
  refine ap aa (.on aa aa (ah hg1)) aa (ap aa (.on aa aa (ah hg1)) aa (ap aa (.on aa aa (ah hg1)) aa (kPv (aG aa hg1 aa) aa ?_)))
  exact aY aa (aE aa) (cU hg1)
 refine kPm aa aa ?_
 apply dH (tp:=17) (t:=13) (σ1:=[(13,_),(1,_),(0,_)]) 4 rfl (aE rfl)
 ·intro hg2
  refine al aa (ag isAgg134 sizeOf134 aa aa) (.on aa aa (ae hg2)) aa aa ?_
  refine aw aa (ar call119 aa) (jB _ _ ⟨3,1,8⟩ fX _ (by omega) (by omega)) (.on aa aa (ae hg2)) aa aa ?_
  refine al aa (an aa aa aa) (.on aa aa (ae hg2)) aa aa (kPv (ay aa hg2 aa) aa ?_)
  exact aY aa (aE aa) (cS hg2)
 ·intro hg2
  refine ap aa (.on aa aa (ah hg2)) aa (ap aa (.on aa aa (ah hg2)) aa (ap aa (.on aa aa (ah hg2)) aa (kPv (aG aa hg2 aa) aa ?_)))
  exact aY aa (aE aa) (cU hg2)
 refine kPm aa aa ?_
 apply dH (tp:=22) (t:=18) (σ1:=[(18,_),(0,_)]) 4 rfl ⟨rfl,rfl,trivial⟩
 ·intro hg3
  refine al aa (ag isAgg134 sizeOf134 aa aa) (.on aa aa (ae hg3)) aa aa ?_
  refine aw aa (ar call120 aa) (jb _ _ ⟨3,1,8⟩ fX) (.on aa aa (ae hg3)) aa aa ?_
  refine al aa (an aa aa aa) (.on aa aa (ae hg3)) aa aa (kPv (ay aa hg3 aa) aa ?_)
  exact aY aa ⟨rfl,rfl,trivial⟩ (cS hg3)
 ·intro hg3
  refine ap aa (.on aa aa (ah hg3)) aa (ap aa (.on aa aa (ah hg3)) aa (ap aa (.on aa aa (ah hg3)) aa (kPv (aG aa hg3 aa) aa ?_)))
  exact aY aa ⟨rfl,rfl,trivial⟩ (cU hg3)
 refine kPa aa aa (ad (az ?_))
 exact au results245 aa (fun w hw=>⟨se (by decide+kernel),hw.tail⟩)
theorem qd(B:World)(H:List HP)(x r:Int):
 ∀ w,Holds B H w→Calls Tryz.prog 138 [.agg #[i64 x,i64 r]].toArray w (aZ B H (i64 (l5 x r))):=by
 refine ao func138 aa ntmps138 aa (ac (ab (kPb (aX aa) aa fun b1=>(kPa aa aa (ad (ac (ac (ab (kPl ip isAgg3 aa aa aa aa (kPv (an aa aa aa) aa (kPm aa aa ?_)))))))))))
 apply gB (tp:=10) (t:=6) (σ1:=[(6,_),(2,_),(1,_)]) 4 rfl (aE rfl)
 ·intro hg1
  refine al aa (aD (m:=_) ip aa aa) (.on aa aa (ae hg1)) aa aa (al aa (ai isAgg3 aa aa) (.on aa aa (ae hg1)) aa aa (al aa (an aa aa aa) (.on aa aa (ae hg1)) aa aa (kPv (aG aa hg1 aa) aa ?_)))
  exact aY aa (aE aa) (fR hg1)
 ·intro hg1
  refine ap aa (.on aa aa (ah hg1)) aa (ap aa (.on aa aa (ah hg1)) aa (ap aa (.on aa aa (ah hg1)) aa (kPv (ay aa hg1 aa) aa ?_)))
  exact aY aa (aE aa) (fQ hg1)
 refine kPm aa aa ?_
 apply gB (tp:=15) (t:=11) (σ1:=[(11,_),(2,_),(1,_)]) 4 rfl (aE rfl)
 ·intro hg2
  refine al aa (aD (m:=_) fV aa aa) (.on aa aa (ae hg2)) aa aa (al aa (ai isAgg3 aa aa) (.on aa aa (ae hg2)) aa aa (al aa (an aa aa aa) (.on aa aa (ae hg2)) aa aa (kPv (aG aa hg2 aa) aa ?_)))
  exact aY aa (aE aa) (fR hg2)
 ·intro hg2
  refine ap aa (.on aa aa (ah hg2)) aa (ap aa (.on aa aa (ah hg2)) aa (ap aa (.on aa aa (ah hg2)) aa (kPv (ay aa hg2 aa) aa ?_)))
  exact aY aa (aE aa) (fQ hg2)
 refine kPm aa aa ?_
 apply gB (tp:=22) (t:=16) (σ1:=[(16,_),(2,_)]) 6 rfl ⟨rfl,rfl,trivial⟩
 ·intro hg3
  refine al aa (aD (m:=_) fV aa aa) (.on aa aa (ae hg3)) aa aa (al aa (ai isAgg3 aa aa) (.on aa aa (ae hg3)) aa aa (al aa (aD (m:=_) ip aa aa) (.on aa aa (ae hg3)) aa aa (al aa (ai isAgg3 aa aa) (.on aa aa (ae hg3)) aa aa (al aa (an aa aa aa) (.on aa aa (ae hg3)) aa aa (kPv (aG aa hg3 aa) aa ?_)))))
  exact aY aa ⟨rfl,rfl,trivial⟩ (fR hg3)
 ·intro hg3
  refine ap aa (.on aa aa (ah hg3)) aa (ap aa (.on aa aa (ah hg3)) aa (ap aa (.on aa aa (ah hg3)) aa (ap aa (.on aa aa (ah hg3)) aa (ap aa (.on aa aa (ah hg3)) aa (kPv (ay aa hg3 aa) aa ?_)))))
  exact aY aa ⟨rfl,rfl,trivial⟩ (fQ hg3)
 refine ad ?_
 refine a8 aa (fun h22=> ?_) (fun h22=> ?_)
 ·try simp only[decide_eq_true_eq,decide_eq_false_iff_not,Bool.not_eq_true',Bool.not_eq_false',Bool.or_eq_true,Bool.and_eq_true,Bool.and_eq_false_iff,Bool.or_eq_false_iff,beq_iff_eq,bne_iff_ne,beq_eq_false_iff_ne,bne_eq_false_iff_eq,ge_iff_le,gt_iff_lt,ne_eq] at h22
  refine ac (ab (kPa aa aa (ad (az ?_))))
  exact au results138 aa (fun w hw=>⟨by unfold l5;rw[if_neg (by omega)],hw.tail⟩)
 ·try simp only[decide_eq_true_eq,decide_eq_false_iff_not,Bool.not_eq_true',Bool.not_eq_false',Bool.or_eq_true,Bool.and_eq_true,Bool.and_eq_false_iff,Bool.or_eq_false_iff,beq_iff_eq,bne_iff_ne,beq_eq_false_iff_ne,bne_eq_false_iff_eq,ge_iff_le,gt_iff_lt,ne_eq] at h22
  refine aq (ac (ab (kPa aa aa (ad (az ?_)))))
  exact au results138 aa (fun w hw=>⟨by unfold l5;rw[if_pos (by omega)],hw.tail⟩)
theorem oF(B:World)(H:List HP)(x r:Int):
 ∀ w,Holds B H w→Calls Tryz.prog 141 [.agg #[i64 x,i64 r]].toArray w (aZ B H (w64 (eu x r))):=by
 refine ao func141 aa ntmps141 aa (ac (ab (kPb (aX aa) aa fun b1=>(kPa aa aa (ad (ac (ab (kPl fV isAgg3 aa aa aa aa (kPv (bP runUnderlying3 runUnderlying25 aa) aa ?_)))))))))
 first | refine al rfl (uV rfl rfl (by decide) rfl) .free rfl rfl ?_ | refine al rfl (uV rfl rfl (by omega) rfl) .free rfl rfl ?_
 refine kPv (zU aa aa aa) aa (kPl ip isAgg3 aa aa aa aa (kPv (bP runUnderlying3 runUnderlying25 aa) aa (kPv (zU aa aa aa) aa (kPa aa aa (ad (am [2] rfl (az ?_)))))))
 exact au results141 aa (fun w hw=>⟨rfl,hw.tail⟩)
theorem eE(B:World)(H:List HP)(x r:Int)(h:0≤x∧x≤1000000):
 ∀ w,Holds B H w→Calls Tryz.prog 139 [.agg #[i64 x,i64 r]].toArray w (aZ B H (i64 (x+1))):=by
 refine ao func139 aa ntmps139 aa (ac (ab (kPb (aX aa) aa fun b1=>(kPa aa aa (ad (ac (ab (kPl ip isAgg3 aa aa aa aa (kPv (aN aa aa) aa (kPa aa aa (ad ?_)))))))))))
 refine az ?_
 exact au results139 aa (fun w hw=>⟨rfl,hw.tail⟩)
theorem iO(B:World)(H:List HP)(v:Int):
 ∀ w,Holds B H w→Calls Tryz.prog 190 [w64 v].toArray w (aZ B H (.tuple #[.agg #[i64 (unp v).1,i64 (unp v).2.1],.bool (unp v).2.2])):=by
 refine ao func190 aa ntmps190 aa (ac (ab (kPb (aC zeroValue102 aa) aa fun b2=>(kPa aa aa (ad (ac (ab (kPm aa aa (kPv (da runUnderlying25 runUnderlying116 aa aa) aa (kPv (bP runUnderlying116 runUnderlying3 aa) aa (kPm aa aa ?_)))))))))))
 first | refine al rfl (zT rfl rfl (by decide) rfl) .free rfl rfl ?_ | refine al rfl (zT rfl rfl (by omega) rfl) .free rfl rfl ?_
 refine kPv (rk aa aa aa) aa (kPv (bP runUnderlying25 runUnderlying3 aa) aa (kPv (aP aa (kz _ _ aa aa)) aa (kPb (aC zeroValue102 aa) aa fun b4=>(kPs (ax (vs:=_) sizeOf102 aa aa aa aa aa) aa (ad (am [4,3,2,0] rfl (ac (ac (ab (kPv (ag isAgg102 sizeOf102 aa aa) aa ?_))))))))))
 refine aw aa (ar call138 aa) (qd _ _ (qD v) (qE v)) .free aa aa ?_
 refine kPv (an aa aa aa) aa (kPm aa aa ?_)
 apply gB (tp:=21) (t:=16) (σ1:=[(16,_),(4,_),(3,_),(2,_)]) 5 rfl (aE rfl)
 ·intro hg1
  refine al aa (ag isAgg102 sizeOf102 aa aa) (.on aa aa (ae hg1)) aa aa ?_
  refine aw aa (ar call141 aa) (oF _ _ (qD v) (qE v)) (.on aa aa (ae hg1)) aa aa ?_
  refine al aa (ak aa) (.on aa aa (ae hg1)) aa aa (al aa (an aa aa aa) (.on aa aa (ae hg1)) aa aa (kPv (aG aa hg1 aa) aa ?_))
  exact aY aa (aE aa) (fR hg1)
 ·intro hg1
  refine ap aa (.on aa aa (ah hg1)) aa (ap aa (.on aa aa (ah hg1)) aa (ap aa (.on aa aa (ah hg1)) aa (ap aa (.on aa aa (ah hg1)) aa (kPv (ay aa hg1 aa) aa ?_))))
  exact aY aa (aE aa) (fQ hg1)
 refine ad ?_
 refine a8 aa (fun h21=> ?_) (fun h21=> ?_)
 ·have hbad:¬ (l5 (qD v) (qE v)=0∧eu (qD v) (qE v)=v):=by
   rintro⟨q1,q2⟩
   rw[q1,q2] at h21;simp at h21
  refine ac (ab (kPv (aP aa (BN)) aa (kPs (ax (vs:=_) sizeOf102 aa aa aa aa aa) aa (kPa aa aa (ad (az ?_))))))
  exact ga results190 (.cellA aa isAgg102 sizeOf102 aa aa) (.tmp aa) (fun w hw=>⟨by unfold unp;rw[if_neg hbad];rfl,hw.tail.tail⟩)
 ·have hgd:l5 (qD v) (qE v)=0∧eu (qD v) (qE v)=v:=by simpa using h21
  refine aq (ac (ab (kPv (ag isAgg102 sizeOf102 aa aa) aa ?_)))
  refine kPs (ax (vs:=_) sizeOf102 aa aa aa aa aa) aa (kPa aa aa (ad (az ?_)))
  exact ga results190 (.cellA aa isAgg102 sizeOf102 aa aa) (.tmp aa) (fun w hw=>⟨by unfold unp;rw[if_pos hgd];rfl,hw.tail.tail⟩)
theorem xP(B:World)(H:List HP):
 ∀ w,Holds B H w→Calls Tryz.prog 244 [].toArray w (aZ B H (.bool true)):=by
 refine ao func244 aa ntmps244 aa (ac (ab (kPa aa aa (ad (ac (ac (ab (aw aa (ar call245 aa) (xQ _ _) .free aa aa ?_))))))))
 refine kPv (bz aa) aa (ad (bI aa (rfl) (aq (ac (ab (aw aa (ar call190 aa) (iO _ _ _) .free aa aa ?_))))))
 refine kPm aa aa (kPv (aA aa aa) aa (kPv (aA aa aa) aa (kPb (aC zeroValue102 aa) aa fun b1=>(kPs (ax (vs:=_) sizeOf102 aa aa aa aa aa) aa (kPa aa aa (ad (ac (ab (kPm aa aa (kPm aa aa ?_))))))))))
 apply dH (tp:=14) (t:=10) (σ1:=[(10,_),(1,_),(0,_)]) 4 rfl (aE rfl)
 ·intro hg1
  refine al aa (aD (m:=_) ip aa aa) (.on aa aa (ae hg1)) aa aa (al aa (ai isAgg3 aa aa) (.on aa aa (ae hg1)) aa aa (al aa (an aa aa aa) (.on aa aa (ae hg1)) aa aa (kPv (ay aa hg1 aa) aa ?_)))
  exact aY aa (aE aa) (cS hg1)
 ·intro hg1
  refine ap aa (.on aa aa (ah hg1)) aa (ap aa (.on aa aa (ah hg1)) aa (ap aa (.on aa aa (ah hg1)) aa (kPv (aG aa hg1 aa) aa ?_)))
  exact aY aa (aE aa) (cU hg1)
 refine kPm aa aa ?_
 apply dH (tp:=19) (t:=15) (σ1:=[(15,_),(1,_),(0,_)]) 4 rfl (aE rfl)
 ·intro hg2
  refine al aa (aD (m:=_) fV aa aa) (.on aa aa (ae hg2)) aa aa (al aa (ai isAgg3 aa aa) (.on aa aa (ae hg2)) aa aa (al aa (an aa aa aa) (.on aa aa (ae hg2)) aa aa (kPv (ay aa hg2 aa) aa ?_)))
  exact aY aa (aE aa) (cS hg2)
 ·intro hg2
  refine ap aa (.on aa aa (ah hg2)) aa (ap aa (.on aa aa (ah hg2)) aa (ap aa (.on aa aa (ah hg2)) aa (kPv (aG aa hg2 aa) aa ?_)))
  exact aY aa (aE aa) (cU hg2)
 refine kPm aa aa ?_
 apply dH (tp:=24) (t:=20) (σ1:=[(20,_),(1,_),(0,_)]) 4 rfl (aE rfl)
 ·intro hg3
  refine al aa (ag isAgg102 sizeOf102 aa aa) (.on aa aa (ae hg3)) aa aa ?_
  refine aw aa (ar call139 aa) (eE _ _ _ _ ⟨by decide,by decide⟩) (.on aa aa (ae hg3)) aa aa ?_
  refine al aa (an aa aa aa) (.on aa aa (ae hg3)) aa aa (kPv (ay aa hg3 aa) aa ?_)
  exact aY aa (aE aa) (cS hg3)
 ·intro hg3
  refine ap aa (.on aa aa (ah hg3)) aa (ap aa (.on aa aa (ah hg3)) aa (ap aa (.on aa aa (ah hg3)) aa (kPv (aG aa hg3 aa) aa ?_)))
  exact aY aa (aE aa) (cU hg3)
 refine kPm aa aa ?_
 apply dH (tp:=29) (t:=25) (σ1:=[(25,_),(0,_)]) 4 rfl ⟨rfl,rfl,trivial⟩
 ·intro hg4
  refine al aa (ag isAgg102 sizeOf102 aa aa) (.on aa aa (ae hg4)) aa aa ?_
  refine aw aa (ar call141 aa) (oF _ _ _ _) (.on aa aa (ae hg4)) aa aa ?_
  refine al aa (an aa aa aa) (.on aa aa (ae hg4)) aa aa (kPv (ay aa hg4 aa) aa ?_)
  exact aY aa ⟨rfl,rfl,trivial⟩ (cS hg4)
 ·intro hg4
  refine ap aa (.on aa aa (ah hg4)) aa (ap aa (.on aa aa (ah hg4)) aa (ap aa (.on aa aa (ah hg4)) aa (kPv (aG aa hg4 aa) aa ?_)))
  exact aY aa ⟨rfl,rfl,trivial⟩ (cU hg4)
 refine kPa aa aa (ad (az ?_))
 exact au results244 aa (fun w hw=>⟨se (by decide+kernel),hw.tail⟩)
end Go.Proofs.YtoakdoeajpjgkaaGreatDoor
