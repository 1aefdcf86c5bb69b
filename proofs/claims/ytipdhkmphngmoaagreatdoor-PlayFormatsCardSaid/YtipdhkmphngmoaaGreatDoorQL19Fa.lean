/- Part of a law's texts. Conditions: none. -/
import Derived.WalkKit
import Derived.RangeFuncLeaves
import Derived.RecoverIn
import Derived.TacticsIn
import Derived.OrdersIn
import Derived.Deep.Quiet
import Derived.StillTail
set_option linter.all false
namespace Go.Proofs.YtipdhkmphngmoaaGreatDoor
open Go
universe u
theorem aa {α:Sort u} {a:α}:a=a:=rfl
abbrev fh:=Nat→Option Obj
def HP:=fh→Prop
def B0(h k:fh):Prop:=∀ b,h b=none∨k b=none
def eC(h k:fh):Prop:=∀ b o,h b=some o→k b=some o
def sat:List HP→fh→Prop
 | [],_=>True
 | A::l,h=>∃ h1 h2,B0 h1 h2∧eC h1 h∧eC h2 h∧A h1∧sat l h2
def blk(b:Nat)(o:Obj):HP:=fun h=>h b=some o
def row(b:Nat)(cs:List Value)(T:TypeId):HP:=blk b (.cells cs.toArray T (0,0))
def grp(l:List HP):HP:=sat l
def hex{α:Type}(A:α→HP):HP:=fun h=>∃ x,A x h
def pr(p:Prop):HP:=fun _=>p
theorem eC.refl(h:fh):eC h h:=fun _ _ e=>e
theorem eC.trans{h k l:fh}(a:eC h k)(b:eC k l):eC h l:=fun x o e=>b x o (a x o e)
theorem B0.sub{h k h' k':fh}(d:B0 h k)(a:eC h' h)(b:eC k' k):B0 h' k':=fun x=>by
 cases e:h' x with
 | none=>exact .inl aa
 | some o=>
   cases e':k' x with
   | none=>exact .inr aa
   | some o'=>have:=a x o e;have:=b x o' e';rcases d x with h | h<;>simp_all
theorem oz{l:List HP}{h k:fh}(s:eC h k)(a:sat l h):sat l k:=by
 cases l with
 | nil=>trivial
 | cons A l=>obtain⟨h1,h2,d,s1,s2,ha,hl⟩:=a;exact⟨h1,h2,d,s1.trans s,s2.trans s,ha,hl⟩
theorem lO{A B:HP}{l:List HP}{h:fh}(a:sat (A::B::l) h):sat (B::A::l) h:=by
 obtain⟨h1,h2,d,s1,s2,ha,h3,h4,d',s3,s4,hb,hl⟩:=a
 refine⟨h3,fun b=>(h1 b).orElse (fun _=>h4 b),?_,s3.trans s2,?_,hb,h1,h4,?_,?_,?_,ha,hl⟩
 ·intro b
  have a1:=d' b
  cases e:h3 b with
  | none=>exact .inl aa
  | some o=>
    have:=s3 b o e
    have h1n:h1 b=none:=by rcases d b with h | h<;>simp_all
    right;simp[h1n];rcases a1 with h | h<;>simp_all
 ·intro b o e
  cases e1:h1 b with
  | none=>simp[e1] at e;exact s2 b o (s4 b o e)
  | some o1=>simp[e1] at e;subst e;exact s1 b o1 e1
 ·intro b
  cases e1:h1 b with
  | none=>exact .inl aa
  | some o1=>
    right
    cases e4:h4 b with
    | none=>rfl
    | some o4=>have:=s4 b o4 e4;rcases d b with h | h<;>simp_all
 ·intro b o e;simp[e]
 ·intro b o e
  have e1:h1 b=none:=by
   have:=s4 b o e;rcases d b with h | h<;>simp_all
  simp[e1,e]
theorem gH{A:HP}{l:List HP}{h:fh}(a:sat (A::l) h):sat l h:=by
 obtain⟨h1,h2,d,s1,s2,ha,hl⟩:=a;exact oz s2 hl
theorem fz{A:HP}{l l':List HP}{h:fh}(f:∀ k,sat l k→sat l' k)(a:sat (A::l) h):sat (A::l') h:=by
 obtain⟨h1,h2,d,s1,s2,ha,hl⟩:=a;exact⟨h1,h2,d,s1,s2,ha,f _ hl⟩
theorem lP{A A':HP}{l:List HP}{h:fh}(f:∀ k,A k→A' k)(a:sat (A::l) h):sat (A'::l) h:=by
 obtain⟨h1,h2,d,s1,s2,ha,hl⟩:=a;exact⟨h1,h2,d,s1,s2,f _ ha,hl⟩
theorem dI{A:HP}:∀ (i:Nat) {l:List HP} {h:fh},l[i]? =some A→sat l h→sat (A::l.eraseIdx i) h
 | 0,B::l,h,e,a=>by simp at e;subst e;simpa using a
 | i+1,B::l,h,e,a=>by
   simp at e
   simp only[List.eraseIdx_cons_succ]
   exact lO (fz (fun k hk=>dI i e hk) a)
 | 0,[],_,e,_=>by simp at e
 | i+1,[],_,e,_=>by simp at e
theorem oA{A:HP}:∀ (i:Nat) {l:List HP} {h:fh},i≤l.length→sat (A::l) h→sat (l.insertIdx i A) h
 | 0,l,h,_,a=>by simpa using a
 | i+1,B::l,h,hi,a=>by
   simp only[List.insertIdx_succ_cons]
   exact fz (fun k hk=>oA i (by simpa using hi) hk) (lO a)
 | i+1,[],h,hi,a=>by simp at hi
theorem vG{l r:List HP}{h:fh}(a:sat (grp l::r) h):sat (l++r) h:=by
 induction l generalizing h with
 | nil=>exact gH a
 | cons A l ih=>
   obtain⟨h1,h2,d,s1,s2,⟨g1,g2,dg,t1,t2,ha,hg⟩,hr⟩:=a
   refine⟨g1,fun b=>(g2 b).orElse (fun _=>h2 b),?_,t1.trans s1,?_,ha,ih ⟨g2,h2,d.sub t2 (eC.refl _),?_,?_,hg,hr⟩⟩
   ·intro b
    cases e:g1 b with
    | none=>exact .inl aa
    | some o=>
      have e1:=t1 b o e
      have hn:h2 b=none:=by rcases d b with h | h<;>simp_all
      right;simp[hn];rcases dg b with h | h<;>simp_all
   ·intro b o e
    cases e1:g2 b with
    | none=>simp[e1] at e;exact s2 b o e
    | some o1=>simp[e1] at e;subst e;exact s1 b o1 (t2 b o1 e1)
   ·intro b o e;simp[e]
   ·intro b o e
    have:g2 b=none:=by
     cases e1:g2 b with
     | none=>rfl
     | some o1=>have:=t2 b o1 e1;rcases d b with h | h<;>simp_all
    simp[this,e]
theorem wm{l r:List HP}{h:fh}(a:sat (l++r) h):sat (grp l::r) h:=by
 induction l generalizing h with
 | nil=>exact⟨fun _=>none,h,fun _=> .inl aa,fun _ _ e=>by simp at e,eC.refl _,trivial,a⟩
 | cons A l ih=>
   obtain⟨h1,h2,d,s1,s2,ha,hr⟩:=a
   obtain⟨g1,g2,dg,t1,t2,hl,hr'⟩:=ih hr
   refine⟨fun b=>(h1 b).orElse (fun _=>g1 b),g2,?_,?_,t2.trans s2,⟨h1,g1,d.sub (eC.refl _) t1,?_,?_,ha,hl⟩,hr'⟩
   ·intro b
    cases e:g2 b with
    | none=>exact .inr aa
    | some o=>
      have e2:=t2 b o e
      have hn:h1 b=none:=by rcases d b with h | h<;>simp_all
      left;simp[hn];rcases dg b with h | h<;>simp_all
   ·intro b o e
    cases e1:h1 b with
    | none=>simp[e1] at e;exact s2 b o (t1 b o e)
    | some o1=>simp[e1] at e;subst e;exact s1 b o1 e1
   ·intro b o e;simp[e]
   ·intro b o e
    have e1:h1 b=none:=by
     cases e1:h1 b with
     | none=>rfl
     | some o1=>have:=t1 b o e;rcases d b with h | h<;>simp_all
    simp[e1,e]
theorem AU{α:Type}{A:α→HP}{r:List HP}{h:fh}(a:sat (hex A::r) h):∃ x,sat (A x::r) h:=by
 obtain⟨h1,h2,d,s1,s2,⟨x,ha⟩,hr⟩:=a;exact⟨x,h1,h2,d,s1,s2,ha,hr⟩
theorem wk{α:Type}{A:α→HP}{r:List HP}{h:fh}(x:α)(a:sat (A x::r) h):sat (hex A::r) h:=
 lP (fun _ hx=>⟨x,hx⟩) a
theorem Cv{p:Prop}{r:List HP}{h:fh}(a:sat (pr p::r) h):p∧sat r h:=by
 refine⟨?_,gH a⟩
 obtain⟨h1,h2,d,s1,s2,ha,hr⟩:=a;exact ha
theorem CC{p:Prop}{r:List HP}{h:fh}(hp:p)(a:sat r h):sat (pr p::r) h:=
 ⟨fun _=>none,h,fun _=> .inl rfl,fun _ _ e=>by simp at e,eC.refl _,hp,a⟩
theorem sy{b:Nat}{o:Obj}:∀ (i:Nat) {l:List HP} {h:fh},l[i]? =some (blk b o)→sat l h→h b=some o:=by
 intro i l h e a
 obtain⟨h1,h2,d,s1,s2,ha,hr⟩:=dI i e a
 exact s1 b o ha
theorem qe{b:Nat}{o o':Obj}:∀ (i:Nat) {l:List HP} {h h':fh},l[i]? =some (blk b o)→sat l h→h' b=some o'→(∀ c,c≠b→h' c=h c)→sat (l.set i (blk b o')) h'
 | 0,A::l,h,h',e,a,hb,hc=>by
   simp at e;subst e
   obtain⟨h1,h2,d,s1,s2,ha,hr⟩:=a
   refine⟨fun c=>if c=b then some o' else none,h2,?_,?_,?_,?_,hr⟩
   ·intro c;by_cases hcb:c=b
    ·subst hcb;right;rcases d c with h | h
     ·rw[show h1 c=some o from ha] at h;cases h
     ·exact h
    ·left;simp[hcb]
   ·intro c oo ec;by_cases hcb:c=b
    ·subst hcb;simp at ec;rw[hb,ec]
    ·simp[hcb] at ec
   ·intro c oo ec
    have hcb:c≠b:=by
     intro e;subst e;rcases d c with h | h
     ·rw[show h1 c=some o from ha] at h;cases h
     ·rw[ec] at h;cases h
    rw[hc c hcb];exact s2 c oo ec
   ·simp[blk]
 | i+1,A::l,h,h',e,a,hb,hc=>by
   simp at e
   obtain⟨h1,h2,d,s1,s2,ha,hr⟩:=a
   have hb2:h2 b=some o:=sy i e hr
   have h1b:h1 b=none:=by rcases d b with h | h
                          ·exact h
                          ·rw[hb2] at h;cases h
   refine⟨h1,fun c=>if c=b then some o' else h2 c,?_,?_,?_,ha,qe i (h:=h2) e hr (by simp) (fun c hcb=>by simp[hcb])⟩
   ·intro c;by_cases hcb:c=b
    ·subst hcb;exact .inl h1b
    ·simp[hcb];exact d c
   ·intro c oo ec
    have hcb:c≠b:=by intro e;subst e;rw[h1b] at ec;cases ec
    rw[hc c hcb];exact s1 c oo ec
   ·intro c oo ec;by_cases hcb:c=b
    ·subst hcb;simp at ec;rw[hb,ec]
    ·simp[hcb] at ec;rw[hc c hcb];exact s2 c oo ec
 | 0,[],_,_,e,_,_,_=>by simp at e
 | i+1,[],_,_,e,_,_,_=>by simp at e
theorem AT{b:Nat}{o:Obj}{l:List HP}{h h':fh}(a:sat l h)(hn:h b=none)(hb:h' b=some o)(hc:∀ c,c≠b→h' c=h c):sat (blk b o::l) h':=by
 refine⟨fun c=>if c=b then some o else none,h,?_,?_,?_,by simp[blk],a⟩
 ·intro c;by_cases hcb:c=b
  ·subst hcb;exact .inr hn
  ·left;simp[hcb]
 ·intro c oo ec;by_cases hcb:c=b
  ·subst hcb;simp at ec;rw[hb,ec]
  ·simp[hcb] at ec
 ·intro c oo ec
  have hcb:c≠b:=by intro e;subst e;rw[hn] at ec;cases ec
  rw[hc c hcb];exact ec
structure Holds(B:World)(l:List HP)(w:World):Prop where
 os:w.os=B.os
 tape:w.tape=B.tape
 output:w.output=B.output
 size:B.heap.size≤w.heap.size
 sat:sat l fun b=>w.heap[b]?
theorem Holds.map{B:World}{l l':List HP}{w:World}(h:Holds B l w)(f:∀ k,Go.Proofs.YtipdhkmphngmoaaGreatDoor.sat l k→Go.Proofs.YtipdhkmphngmoaaGreatDoor.sat l' k):Holds B l' w:=
 ⟨h.os,h.tape,h.output,h.size,f _ h.sat⟩
theorem Holds.front{B:World}{l:List HP}{w:World}{A:HP}(h:Holds B l w)(i:Nat)(e:l[i]? =some A):Holds B (A::l.eraseIdx i) w:=h.map fun _=>dI i e
theorem Holds.back{B:World}{l:List HP}{w:World}{A:HP}(h:Holds B (A::l) w)(i:Nat)(hi:i≤l.length):Holds B (l.insertIdx i A) w:=h.map fun _=>oA i hi
theorem Holds.tail{B:World}{l:List HP}{w:World}{A:HP}(h:Holds B (A::l) w):Holds B l w:=h.map fun _=>gH
theorem Holds.grp{B:World}{l r:List HP}{w:World}(h:Holds B (Go.Proofs.YtipdhkmphngmoaaGreatDoor.grp l::r) w):Holds B (l++r) w:=h.map fun _=>vG
theorem Holds.ungrp{B:World}{l r:List HP}{w:World}(h:Holds B (l++r) w):Holds B (Go.Proofs.YtipdhkmphngmoaaGreatDoor.grp l::r) w:=h.map fun _=>wm
theorem Holds.hex{B:World}{α:Type}{A:α→HP}{r:List HP}{w:World}(h:Holds B (Go.Proofs.YtipdhkmphngmoaaGreatDoor.hex A::r) w):∃ x,Holds B (A x::r) w:=by
 obtain⟨x,hx⟩:=AU h.sat;exact⟨x,h.os,h.tape,h.output,h.size,hx⟩
theorem Holds.unhex{B:World}{α:Type}{A:α→HP}{r:List HP}{w:World}(x:α)(h:Holds B (A x::r) w):Holds B (Go.Proofs.YtipdhkmphngmoaaGreatDoor.hex A::r) w:=h.map fun _=>wk x
theorem Holds.pr{B:World}{p:Prop}{r:List HP}{w:World}(h:Holds B (Go.Proofs.YtipdhkmphngmoaaGreatDoor.pr p::r) w):p∧Holds B r w:=⟨(Cv h.sat).1,h.tail⟩
theorem Holds.unpr{B:World}{p:Prop}{r:List HP}{w:World}(hp:p)(h:Holds B r w):Holds B (Go.Proofs.YtipdhkmphngmoaaGreatDoor.pr p::r) w:=h.map fun _=>CC hp
theorem Holds.read{B:World}{l:List HP}{w:World}{b:Nat}{o:Obj}(h:Holds B l w)(i:Nat)(e:l[i]? =some (blk b o)):w.heap[b]? =some o:=sy i e h.sat
theorem Holds.drew{B:World}{l:List HP}{w:World}(h:Holds B l w)(n:Nat):Holds B l {w with drawn:=n}:=⟨h.os,h.tape,h.output,h.size,h.sat⟩
theorem Holds.new{B:World}{l:List HP}{w:World}(h:Holds B l w)(o:Obj):Holds B (blk w.heap.size o::l) {w with heap:=w.heap.push o}:=by
 refine⟨h.os,h.tape,h.output,by simp;have:=h.size;omega,AT h.sat (by simp) (by simp) fun c hc=> ?_⟩
 show(w.heap.push o)[c]? =_
 rw[Array.getElem?_push,if_neg hc]
theorem Holds.put{B:World}{l:List HP}{w:World}{b:Nat}{o:Obj}(h:Holds B l w)(i:Nat)(e:l[i]? =some (blk b o))(o':Obj):Holds B (l.set i (blk b o')) {w with heap:=w.heap.setIfInBounds b o'}:=by
 have hr:=h.read i e
 have hlt:b<w.heap.size:=(Array.getElem?_eq_some_iff.1 hr).1
 refine⟨h.os,h.tape,h.output,by simpa using h.size,qe i e h.sat (by simp[hlt]) fun c hc=> ?_⟩
 simp[Ne.symm hc]
theorem World.setCell_eq{w:World}{b k:Nat}{cs:List Value}{T:TypeId}(h:w.heap[b]? =some (.cells cs.toArray T (0,0)))(v:Value):
 w.setCell ⟨b,k,none⟩ v={w with heap:=w.heap.setIfInBounds b (.cells (cs.set k v).toArray T (0,0))}:=by
 obtain⟨hlt,hg⟩:=Array.getElem?_eq_some_iff.1 h
 simp only[World.setCell]
 congr 1
 apply Array.ext_getElem?
 intro i
 rw[Array.getElem?_modify]
 by_cases hi:b=i
 ·subst hi;rw[h];simp[hlt]
 ·simp[hi]
theorem Holds.cell{B:World}{l:List HP}{w:World}{b:Nat}{cs:List Value}{T:TypeId}(h:Holds B l w)(i:Nat)(e:l[i]? =some (row b cs T))(k:Nat):w.cell? ⟨b,k,none⟩=cs[k]? :=by
 have:=h.read i e
 simp[World.cell?,this]
theorem Holds.free{B:World}{l:List HP}{w:World}{b:Nat}{cs:List Value}{T:TypeId}(h:Holds B l w)(i:Nat)(e:l[i]? =some (row b cs T))(k:Nat):w.frozen? ⟨b,k,none⟩=false:=by
 have:=h.read i e
 simp[World.frozen?,this]
theorem Holds.setCell{B:World}{l:List HP}{w:World}{b:Nat}{cs:List Value}{T:TypeId}(h:Holds B l w)(i:Nat)(e:l[i]? =some (row b cs T))(k:Nat)(v:Value):
 Holds B (l.set i (row b (cs.set k v) T)) (w.setCell ⟨b,k,none⟩ v):=by
 rw[World.setCell_eq (h.read i e)];exact h.put i e _
abbrev Env:=List (Nat×Value)
def look:Env→Nat→Option Value
 | [],_=>none
 | (k,v)::l,t=>bif Nat.beq k t then some v else look l t
def evO(σ:Env):Operand→Option Value
 | .tmp t=>look σ t
 | .const v=>some v
 | .func f=>some (.func (.func f) #[] #[])
 | .global g=>some (.pointer (some ⟨g,0,none⟩))
def evL(σ:Env):List Operand→Option (List Value)
 | []=>some []
 | x::xs=>match evO σ x with
   | none=>none
   | some v=>match evL σ xs with
     | none=>none
     | some vs=>some (v::vs)
def dX(σ:Env)(a:Act):Prop:=∀ t v,look σ t=some v→a.tmps[t]? =some v
structure StA(n:Nat)(D:List Deferred)(σ:Env)(a:Act):Prop where
 size:a.tmps.size=n
 defers:a.defers=D
 env:dX σ a
structure St(B:World)(n:Nat)(D:List Deferred)(σ:Env)(H:List HP)(a:Act)(w:World):Prop extends StA n D σ a where
 holds:Holds B H w
def GO(B:World)(n:Nat)(D:List Deferred)(σ:Env)(H:List HP)(K:Act→World→Prop):Prop:=∀ a w,St B n D σ H a w→K a w
theorem dX.eval{σ:Env}{a:Act}{x:Operand}{v:Value}(k:dX σ a)(h:evO σ x=some v):a.eval x=v:=by
 cases x with
 | tmp t=>
   have e:=k t v h
   show a.tmps.getD t undef=v
   rw[Array.getD_eq_getD_getElem?,e];rfl
 | const u=>exact Option.some.inj h
 | func f=>exact Option.some.inj h
 | global g=>exact Option.some.inj h
theorem dX.evals{σ:Env}{a:Act}(k:dX σ a):∀ {xs:List Operand} {vs:List Value},evL σ xs=some vs→xs.map a.eval=vs
 | [],vs,h=>by simp[evL] at h;simp[h]
 | x::xs,vs,h=>by
   simp only[evL] at h
   cases hx:evO σ x with
   | none=>simp[hx] at h
   | some v=>
     cases hxs:evL σ xs with
     | none=>simp[hx,hxs] at h
     | some us=>simp[hx,hxs] at h;subst h;simp[k.eval hx,k.evals hxs]
theorem dX.evalsA{σ:Env}{a:Act}(k:dX σ a){xs:Array Operand}{vs:List Value}(h:evL σ xs.toList=some vs):xs.map a.eval=vs.toArray:=by
 have e:=k.evals h
 apply Array.ext'
 rw[Array.toList_map];exact e
theorem jT{a b:Nat}(h:¬ a=b):Nat.beq a b=false:=by
 cases e:Nat.beq a b with
 | false=>rfl
 | true=>exact absurd (Nat.eq_of_beq_eq_true e) h
theorem StA.put{n:Nat}{D:List Deferred}{σ:Env}{a:Act}(s:StA n D σ a){d:Nat}(hd:Nat.blt d n=true)(v:Value):StA n D ((d,v)::σ) (a.put (some d) v):=by
 have hd':d<n:=by simpa [Nat.blt_eq] using hd
 refine⟨by simp[Act.put,s.size],by simp[Act.put,s.defers],fun t u h=> ?_⟩
 simp only[look] at h
 have h1:=s.size
 by_cases e:d=t
 ·subst e;simp at h;subst h;simp[Act.put,h1,hd']
 ·have e':Nat.beq d t=false:=jT e
  rw[e'] at h
  have:=s.env t u h
  simp[Act.put,e,this]
theorem StA.sub{n:Nat}{D:List Deferred}{σ σ':Env}{a:Act}(s:StA n D σ a)(h:∀ t v,look σ' t=some v→look σ t=some v):StA n D σ' a:=⟨s.size,s.defers,fun t v e=>s.env t v (h t v e)⟩
def keep(σ:Env):List Nat→Env
 | []=>[]
 | t::ts=>match look σ t with
   | some v=>(t,v)::keep σ ts
   | none=>keep σ ts
theorem mG{σ:Env}:∀ {ts:List Nat} {t:Nat} {v:Value},look (keep σ ts) t=some v→look σ t=some v
 | [],_,_,h=>by simp[keep,look] at h
 | t'::ts,t,v,h=>by
   simp only[keep] at h
   cases e:look σ t' with
   | none=>rw[e] at h;exact mG h
   | some u=>
     rw[e] at h
     simp only[look] at h
     by_cases q:t'=t
     ·subst q;simp at h;rw[e,h]
     ·have q':Nat.beq t' t=false:=jT q
      rw[q'] at h;exact mG h
theorem aK{B:World}{n:Nat}{D:List Deferred}{σ:Env}{H H':List HP}{K:Act→World→Prop}(f:∀ w,Holds B H w→Holds B H' w)(h:GO B n D σ H' K):GO B n D σ H K:=
 fun a w s=>h a w ⟨s.toStA,f w s.holds⟩
theorem dE{B:World}{n:Nat}{D:List Deferred}{σ:Env}{H:List HP}{A:HP}{K:Act→World→Prop}(i:Nat)(e:H[i]? =some A)(h:GO B n D σ (A::H.eraseIdx i) K):GO B n D σ H K:=
 fun a w s=>h a w ⟨s.toStA,s.holds.front i e⟩
structure Cx where
 ro:Option Nat
 fn:Option FuncId
abbrev Wd(ro:Cx):Fence:={fn:=fun _=>True,depth:=none,alive:=false,round:=ro.ro}
theorem rmW(ro:Cx)(n:Nat):(Wd ro).room n:=fun _ h=>by cases h
structure Ext where
 ret:Act→World→Prop
 pan:List PanicEntry→Act→World→Prop
 ex:Nat→Act→World→Prop
def toQ(K:Act→World→Prop)(X:Ext):Exit→Act→World→Prop
 | .normal=>K
 | .ret=>X.ret
 | .panic c=>X.pan c
 | .exit i=>X.ex i
 | .goto _=>fun _ _=>False
 | .outgrown=>fun _ _=>False
def cw(ro:Cx)(P:Program)(c:Code)(K:Act→World→Prop)(X:Ext):Act→World→Prop:=fun a w=>
 ∀ (b:Frame) (k:List Item) (cs:List Frame),b.roundOf=ro.ro→(∀ f,ro.fn=some f→b.fn=f)→
  ∃ e a' w',toQ K X e a' w'∧ArrivesIn (Machine.fenced P (Wd ro)) P (lone (b.atR a (.code c::k)) cs w) b k cs e a' w'
theorem kE{ro:Cx}{P:Program}{c:Code}{K:Act→World→Prop}{X:Ext}{a:Act}{w:World}(h:c.wpIn (Wd ro) 0 P (toQ K X) a w):cw ro P c K X a w:=fun b k cs hro _=>h b k cs hro trivial (rmW _ _)
theorem Cc{ro:Cx}(hf:ro.fn=none){P:Program}{c:Code}{K:Act→World→Prop}{X:Ext}{a:Act}{w:World}(h:cw ro P c K X a w):c.wpIn (Wd ro) 0 P (toQ K X) a w:=fun b k cs hro _ _=>h b k cs hro (fun f e=>by rw[hf] at e;cases e)
theorem rM{ro:Cx}{P:Program}{c:Code}{K K':Act→World→Prop}{X X':Ext}{a:Act}{w:World}(h:cw ro P c K X a w)(f:∀ e a w,toQ K X e a w→toQ K' X' e a w):cw ro P c K' X' a w:=fun b k cs hro hf=>
 let ⟨e,a',w',q,r⟩:=h b k cs hro hf;⟨e,a',w',f _ _ _ q,r⟩
def lw(ro:Cx)(P:Program)(ops:Array Oper)(K:Act→World→Prop)(X:Ext)(l:List Oper):Act→World→Prop:=wpListIn (Wd ro) 0 P ops (toQ K X) l
theorem kI{ro:Cx}{n:Nat}{P:Program}{f:FuncId}{args:Array Value}{w:World}{R:Ending→World→Prop}:CallsIn (Wd ro) n P f args w R↔Calls P f args w R:=
 (Iff.rfl:CallsIn (Wd ro) n P f args w R↔CallsIn Fence.wide n P f args w R).trans callsIn_wide
section
variable {B:World} {n:Nat} {D:List Deferred} {σ:Env} {H:List HP} {P:Program} {ro:Cx} {K:Act→World→Prop} {X:Ext} {ops:Array Oper} {rest:List Oper}
def Evs(P:Program)(B:World)(σ:Env)(H:List HP)(o:Oper)(v:Value):Prop:=
 ∀ a w,dX σ a→Holds B H w→(execOp a.eval o).run P w= .ok (.value v) w
def Ent(P:Program)(B:World)(σ:Env)(H:List HP)(o:Oper)(f:FuncId)(vs:Array Value):Prop:=
 ∀ a w,dX σ a→Holds B H w→(execOp a.eval o).run P w= .ok (.enter f vs) w
def Chg(P:Program)(B:World)(σ:Env)(H:List HP)(o:Oper)(Y:Value→List HP→Prop):Prop:=
 ∀ a w,dX σ a→Holds B H w→∃ r w',(execOp a.eval o).run P w= .ok r w'∧∃ v,(r= .value v∨(r= .skip∧v=undef))∧∃ H',Y v H'∧Holds B H' w'
def ke:Op→Bool
 | .defer _=>false
 | _=>true
theorem fx{r:Option Nat}{o:Oper}(h:ke o.op=true)(ρ:Operand→Value):o.semAt r ρ=execOp ρ o:=
 Oper.semAt_eq r ρ o fun c e=>by rw[e] at h;cases h
inductive fD (ops:Array Oper) (σ:Env):Option (Nat×Bool)→Bool→Prop
 | free:fD ops σ none true
 | on {j:Nat} {t:Nat} {b c r:Bool} (h:(ops[j]?).bind (·.dst)=some t) (hv:look σ t=some (.bool c)) (hr:(c==b)=r):fD ops σ (some (j,b)) r
 | und {j:Nat} {t:Nat} {b:Bool} (h:(ops[j]?).bind (·.dst)=some t) (hv:look σ t=some undef):fD ops σ (some (j,b)) false
theorem fD.wanted{o:Oper}{b:Bool}(h:fD ops σ o.guard b){a:Act}(k:dX σ a):Region.wanted o (yielded ops a.tmps)=b:=by
 unfold Region.wanted
 generalize o.guard=g at h
 cases h with
 | free=>rfl
 | on h hv hr=>
   have:=k _ _ hv
   subst hr
   simp only[yielded,h,Option.bind_some,this]
   rename_i c b
   cases c<;>cases b<;>rfl
 | und h hv=>
   have:=k _ _ hv
   simp only[yielded,h,Option.bind_some,this]
   rfl
theorem ao{o:Oper}{d:Nat}{v:Value}(hd:o.dst=some d)(he:Evs P B σ H o v)(hw:fD ops σ o.guard true)(hn:ke o.op=true)(hb:Nat.blt d n=true)
 (k:GO B n D ((d,v)::σ) H (lw ro P ops K X rest)):GO B n D σ H (lw ro P ops K X (o::rest)):=by
 intro a w s
 show(if Region.wanted o (yielded ops a.tmps) then _ else _)
 rw[hw.wanted s.env,if_pos rfl]
 refine⟨fun _ _=>trivial,?_⟩
 rw[fx hn,he a w s.env s.holds,Oper.uponIn_value,hd]
 exact k _ _ ⟨s.toStA.put hb v,s.holds⟩
theorem ay{o:Oper}{d:Nat}(hd:o.dst=some d)(hw:fD ops σ o.guard false)(hb:Nat.blt d n=true)(k:GO B n D ((d,undef)::σ) H (lw ro P ops K X rest)):GO B n D σ H (lw ro P ops K X (o::rest)):=by
 intro a w s
 show(if Region.wanted o (yielded ops a.tmps) then _ else _)
 rw[hw.wanted s.env,if_neg (by simp)]
 refine⟨fun _ _=>trivial,?_⟩
 rw[hd]
 exact k _ _ ⟨s.toStA.put hb undef,s.holds⟩
theorem cX{o:Oper}{d:Nat}{Y:Value→List HP→Prop}(hd:o.dst=some d)(he:Chg P B σ H o Y)(hw:fD ops σ o.guard true)(hn:ke o.op=true)(hb:Nat.blt d n=true)
 (k:∀ v H',Y v H'→GO B n D ((d,v)::σ) H' (lw ro P ops K X rest)):GO B n D σ H (lw ro P ops K X (o::rest)):=by
 intro a w s
 show(if Region.wanted o (yielded ops a.tmps) then _ else _)
 rw[hw.wanted s.env,if_pos rfl]
 refine⟨fun _ _=>trivial,?_⟩
 obtain⟨r,w',hr,v,hv,H',hX,hH⟩:=he a w s.env s.holds
 rw[fx hn,hr]
 rcases hv with rfl | ⟨rfl,rfl⟩
 ·rw[Oper.uponIn_value,hd];exact k v H' hX _ _ ⟨s.toStA.put hb v,hH⟩
 ·rw[Oper.uponIn_skip,hd];exact k _ H' hX _ _ ⟨s.toStA.put hb undef,hH⟩
theorem CG{o:Oper}{Y:Value→List HP→Prop}(hd:o.dst=none)(he:Chg P B σ H o Y)(hw:fD ops σ o.guard true)(hn:ke o.op=true)
 (k:∀ v H',Y v H'→GO B n D σ H' (lw ro P ops K X rest)):GO B n D σ H (lw ro P ops K X (o::rest)):=by
 intro a w s
 show(if Region.wanted o (yielded ops a.tmps) then _ else _)
 rw[hw.wanted s.env,if_pos rfl]
 refine⟨fun _ _=>trivial,?_⟩
 obtain⟨r,w',hr,v,hv,H',hX,hH⟩:=he a w s.env s.holds
 rw[fx hn,hr]
 rcases hv with rfl | ⟨rfl,rfl⟩
 ·rw[Oper.uponIn_value,hd];exact k v H' hX _ _ ⟨s.toStA,hH⟩
 ·rw[Oper.uponIn_skip,hd];exact k _ H' hX _ _ ⟨s.toStA,hH⟩
theorem ad(k:GO B n D σ H K):GO B n D σ H (lw ro P ops K X []):=k
def Ret(B:World)(Φ:Value→List HP→Prop)(Ψ:List PanicEntry→List HP→Prop):Ending→World→Prop
 | .returned v,w=>∃ H,Φ v H∧Holds B H w
 | .panicked c,w=>∃ H,Ψ c H∧Holds B H w
 | .outgrown,_=>False
theorem Ret.mono{B:World}{Φ Φ':Value→List HP→Prop}{Ψ Ψ':List PanicEntry→List HP→Prop}(f:∀ v H,Φ v H→Φ' v H)(g:∀ c H,Ψ c H→Ψ' c H)(e:Ending)(w:World)(h:Ret B Φ Ψ e w):Ret B Φ' Ψ' e w:=by
 cases e with
 | returned v=>obtain⟨H,a,b⟩:=h;exact⟨H,f _ _ a,b⟩
 | panicked v=>obtain⟨H,a,b⟩:=h;exact⟨H,g _ _ a,b⟩
 | outgrown=>exact h
theorem aQ{o:Oper}{d:Nat}{f:FuncId}{vs:Array Value}{Φ:Value→List HP→Prop}{Ψ:List PanicEntry→List HP→Prop}(hd:o.dst=some d)(he:Ent P B σ H o f vs)
 (hs:∀ w,Holds B H w→Calls P f vs w (Ret B Φ Ψ)) (hw:fD ops σ o.guard true) (hn:ke o.op=true) (hb:Nat.blt d n=true)
 (k:∀ v H',Φ v H'→GO B n D ((d,v)::σ) H' (lw ro P ops K X rest)) (kp:∀ c H',Ψ c H'→GO B n D σ H' (X.pan c)):GO B n D σ H (lw ro P ops K X (o::rest)):=by
 intro a w s
 show(if Region.wanted o (yielded ops a.tmps) then _ else _)
 rw[hw.wanted s.env,if_pos rfl]
 refine⟨fun _ _=>trivial,?_⟩
 rw[fx hn,he a w s.env s.holds,Oper.uponIn_enter,hd]
 refine⟨fun h=>by simp at h,kI.2 ((hs w s.holds).mono fun e w' h=> ?_)⟩
 cases e with
 | returned v=>obtain⟨H',hΦ,hH⟩:=h;exact k v H' hΦ _ _ ⟨s.toStA.put hb v,hH⟩
 | panicked c=>obtain⟨H',hΨ,hH⟩:=h;exact kp c H' hΨ _ _ ⟨s.toStA,hH⟩
 | outgrown=>exact h.elim
theorem aE{o:Oper}{d:Nat}{f:FuncId}{vs:Array Value}{Φ:Value→List HP→Prop}(hd:o.dst=some d)(he:Ent P B σ H o f vs)
 (hs:∀ w,Holds B H w→Calls P f vs w (Ret B Φ fun _ _=>False)) (hw:fD ops σ o.guard true) (hn:ke o.op=true) (hb:Nat.blt d n=true)
 (k:∀ v H',Φ v H'→GO B n D ((d,v)::σ) H' (lw ro P ops K X rest)):GO B n D σ H (lw ro P ops K X (o::rest)):=aQ hd he hs hw hn hb k fun _ _ h=>h.elim
theorem de{o:Oper}{d:Nat}{f:FuncId}{vs:Array Value}{v:Value}{H':List HP}(hd:o.dst=some d)(he:Ent P B σ H o f vs)
 (hs:∀ w,Holds B H w→Calls P f vs w (Ret B (fun v' H''=>v'=v∧H''=H') fun _ _=>False)) (hw:fD ops σ o.guard true) (hn:ke o.op=true) (hb:Nat.blt d n=true)
 (k:GO B n D ((d,v)::σ) H' (lw ro P ops K X rest)):GO B n D σ H (lw ro P ops K X (o::rest)):=aE hd he hs hw hn hb fun _ _ h=>by obtain⟨rfl,rfl⟩:=h;exact k
theorem ac{x y:Code}(h:GO B n D σ H (cw ro P x (cw ro P y K X) X)):GO B n D σ H (cw ro P (.seq x y) K X):=fun a w s=>by
 intro b k cs hro hf
 have h0:(lone (b.atR a (.code (.seq x y)::k)) cs w).fenced P (Wd ro):=fenced_calm (n:=0) trivial (rmW _ _) rfl
 obtain⟨e,a₁,w₁,hq,harr⟩:=h a w s b (.code y::k) cs hro hf
 cases e with
 | normal=>
   obtain⟨e₂,a₂,w₂,hq₂,harr₂⟩:=hq b k cs hro hf
   exact⟨e₂,a₂,w₂,hq₂,.of_steps (.head h0 stepR_seq harr) harr₂⟩
 | exit id=>exact⟨.exit id,a₁,w₁,hq,.of_steps (.one h0 stepR_seq) (.pass (x:= .code y) aa (fun _ _=> .inl (by simp)) harr)⟩
 | goto l=>exact hq.elim
 | ret=>exact⟨.ret,a₁,w₁,hq,.of_steps (.one h0 stepR_seq) (.pass (x:= .code y) aa (fun _ _=> .inl (by simp)) harr)⟩
 | panic ch=>exact⟨.panic ch,a₁,w₁,hq,.of_steps (.one h0 stepR_seq) (.pass (x:= .code y) aa (fun _ _=> .inl (by simp)) harr)⟩
 | outgrown=>exact hq.elim
theorem aw(h:GO B n D σ H K):GO B n D σ H (cw ro P .skip K X):=fun a w s=>kE (wpIn_skip (h a w s))
theorem ww{l:Nat}(h:GO B n D σ H K):GO B n D σ H (cw ro P (.label l) K X):=fun a w s=>kE (wpIn_label (h a w s))
theorem bJ{id:Nat}(h:GO B n D σ H (X.ex id)):GO B n D σ H (cw ro P (.exit id) K X):=fun a w s=>kE (wpIn_exit (h a w s))
theorem au(h:GO B n D σ H X.ret):GO B n D σ H (cw ro P .ret K X):=fun a w s=>kE (wpIn_ret (h a w s))
def Ext.inB(X:Ext)(id:Nat)(K:Act→World→Prop):Ext:={X with ex:=fun i=>bif Nat.beq i id then K else X.ex i}
theorem aI{id:Nat}{c:Code}(h:GO B n D σ H (cw ro P c K (X.inB id K))):GO B n D σ H (cw ro P (.block id c) K X):=fun a w s=>by
 intro b k cs hro hf
 have h0:(lone (b.atR a (.code (.block id c)::k)) cs w).fenced P (Wd ro):=fenced_calm (n:=0) trivial (rmW _ _) rfl
 obtain⟨e,a₁,w₁,hq,harr⟩:=h a w s b (.inBlock id::k) cs hro hf
 cases e with
 | normal=>exact⟨.normal,a₁,w₁,hq,.head h0 stepR_block (StepsIn.trans harr (.one (fenced_calm (n:=0) trivial (rmW _ _) aa) stepR_inBlock))⟩
 | exit id'=>
   simp only[toQ,Ext.inB] at hq
   by_cases hid:id'=id
   ·subst hid
    have hq':K a₁ w₁ :=by simpa using hq
    exact⟨.normal,a₁,w₁,hq',.head h0 stepR_block (harr.1 k (by simp[exitTo]))⟩
   ·rw[jT hid] at hq
    have this:(id==id')=false:=by simp;exact fun h=>hid h.symm
    have hx:exitTo id' (.inBlock id::k)=exitTo id' k:=by simp[exitTo,this]
    exact⟨.exit id',a₁,w₁,hq,fun k' hk=> .head h0 stepR_block (harr.1 k' (by rw[hx];exact hk)),
     fun hr' hk=>let ⟨k₁,h1,h2⟩:=harr.2 hr' (by rw[hx];exact hk);⟨k₁,h1,.head h0 stepR_block h2⟩⟩
 | goto l=>exact hq.elim
 | ret=>exact⟨.ret,a₁,w₁,hq,ArrivesIn.of_steps (k:=k) (e:= .ret) (.one h0 stepR_block) harr⟩
 | panic ch=>exact⟨.panic ch,a₁,w₁,hq,ArrivesIn.of_steps (k:=k) (e:= .panic ch) (.one h0 stepR_block) harr⟩
 | outgrown=>exact hq.elim
theorem rN{c:Operand}{x y:Code}{t:Bool}{a:Act}{w:World}(hc:a.eval c= .bool t)(h:cw ro P (if t then x else y) K X a w):cw ro P (.cond c x y) K X a w:=
 fun b k cs hro hf=>let ⟨e,a',w',q,r⟩:=h b k cs hro hf;⟨e,a',w',q,.of_steps (.one (fenced_calm (n:=0) trivial (rmW _ _) rfl) (stepR_cond hc)) r⟩
theorem aV{c:Operand}{x y:Code}{t:Bool}(hc:evO σ c=some (.bool t))(ht:t=true→GO B n D σ H (cw ro P x K X))(hf:t=false→GO B n D σ H (cw ro P y K X)):GO B n D σ H (cw ro P (.cond c x y) K X):=
 fun a w s=>rN (s.env.eval hc) (by
  cases t
  ·exact hf aa a w s
  ·exact ht aa a w s)
theorem li{c:Operand}{x y:Code}{t:Bool}(hc:evO σ c=some (.bool t))(ht:t=true)(h:GO B n D σ H (cw ro P x K X)):GO B n D σ H (cw ro P (.cond c x y) K X):=by
 subst ht;exact fun a w s=>rN (s.env.eval hc) (h a w s)
theorem bH{c:Operand}{x y:Code}{t:Bool}(hc:evO σ c=some (.bool t))(ht:t=false)(h:GO B n D σ H (cw ro P y K X)):GO B n D σ H (cw ro P (.cond c x y) K X):=by
 subst ht;exact fun a w s=>rN (s.env.eval hc) (h a w s)
theorem ab{id:Nat}{l:List Oper}(h:GO B n D σ H (lw ro P l.toArray K X l)):GO B n D σ H (cw ro P (.region id l.toArray false) K X):=fun a w s=>kE (wpIn_region_lit (h a w s))
def lE:Env→Env→Prop
 | [],_=>True
 | (k,v)::l,σ=>look σ k=some v∧lE l σ
theorem lE.look{σ:Env}:∀ {σ':Env} {t:Nat} {v:Value},lE σ' σ→Go.Proofs.YtipdhkmphngmoaaGreatDoor.look σ' t=some v→Go.Proofs.YtipdhkmphngmoaaGreatDoor.look σ t=some v
 | [],_,_,_,h=>by simp[Go.Proofs.YtipdhkmphngmoaaGreatDoor.look] at h
 | (k,u)::l,t,v,⟨h1,h2⟩,h=>by
   simp only[Go.Proofs.YtipdhkmphngmoaaGreatDoor.look] at h
   by_cases e:k=t
   ·subst e;simp at h;subst h;exact h1
   ·rw[jT e] at h;exact lE.look h2 h
theorem St.to{σ':Env}{H':List HP}{a:Act}{w:World}(s:St B n D σ H a w)(h:lE σ' σ)(f:Holds B H w→Holds B H' w):St B n D σ' H' a w:=⟨s.toStA.sub fun _ _=>h.look,f s.holds⟩
theorem cE{σ':Env}(h:lE σ' σ)(k:GO B n D σ' H K):GO B n D σ H K:=fun a w s=>k a w (s.to h id)
theorem aG{σ:Env}:∀ {σ':Env},(σ'.map fun p=>look σ p.1)=(σ'.map fun p=>some p.2)→lE σ' σ
 | [],_=>trivial
 | (_,_)::_,h=>by
   simp only[List.map_cons,List.cons.injEq] at h
   exact⟨h.1,aG h.2⟩
def vO(σ:Env):List Nat→Option Env
 | []=>some []
 | k::l=>match look σ k,vO σ l with
   | some v,some r=>some ((k,v)::r)
   | _,_=>none
theorem sK{σ:Env}:∀ {ks:List Nat} {σ':Env},vO σ ks=some σ'→lE σ' σ
 | [],σ',h=>by cases h;trivial
 | k::l,σ',h=>by
   unfold vO at h
   split at h
   ·rename_i v r e1 e2
    cases h;exact⟨e1,sK e2⟩
   ·cases h
theorem aj{σ':Env}(ks:List Nat)(e:vO σ ks=some σ')(k:GO B n D σ' H K):GO B n D σ H K:=cE (sK e) k
theorem Ca{σ':Env}{H':List HP}(k:Nat){l:List Oper}(h1:GO B n D σ H (lw ro P ops (fun a w=>St B n D σ' H' a w) X (l.take k)))(h2:GO B n D σ' H' (lw ro P ops K X (l.drop k))):GO B n D σ H (lw ro P ops K X l):=by
 have key:∀ (l₁ l₂ :List Oper) a w,lw ro P ops (fun a w=>St B n D σ' H' a w) X l₁ a w→GO B n D σ' H' (lw ro P ops K X l₂)→lw ro P ops K X (l₁ ++l₂) a w:=by
  intro l₁
  induction l₁ with
  | nil=>intro l₂ a w h g;exact g a w h
  | cons o l₁ ih=>
    intro l₂ a w h g
    simp only[lw,List.cons_append,wpListIn] at h ⊢
    split
    ·rename_i hw
     rw[if_pos hw] at h
     refine⟨h.1,?_⟩
     have h':=(Oper.wpIn_mono (F:=Wd ro) (n:=0) (P:=P) (K':=wpListIn (Wd ro) 0 P ops (toQ K X) (l₁ ++l₂)) (fun a w hh=>ih l₂ a w hh g) h).2
     unfold Oper.uponIn at h' ⊢
     generalize (o.semAt (Wd ro).round a.eval).run P w=r at h' ⊢
     cases r with
     | ok v w'=>
       cases v<;>first | exact h' | (obtain⟨q1,q2⟩:=h';exact⟨q1,q2.mono fun e w'' he=>by cases e<;>exact he⟩)
     | halt v w'=>cases v<;>exact h'
    ·rename_i hw
     rw[if_neg hw] at h
     exact⟨h.1,ih l₂ _ _ h.2 g⟩
 intro a w s
 have:=key (l.take k) (l.drop k) a w (h1 a w s) h2
 rwa [List.take_append_drop] at this
theorem ae{c b:Bool}(h:c=b):(c==b)=true:=by subst h;cases c<;>rfl
theorem ai{c b:Bool}(h:c= !b):(c==b)=false:=by subst h;cases b<;>rfl
theorem dS{c y:Bool}{t tp:Nat}{σ1:Env}(k:Nat){l:List Oper}(hc:look σ t=some (.bool c))(_hs:lE σ1 σ)
 (h1:c=true→GO B n D σ H (lw ro P ops (fun a w=>St B n D ((tp,.bool (c&&y))::σ1) H a w) X (l.take k)))
 (h0:c=false→GO B n D σ H (lw ro P ops (fun a w=>St B n D ((tp,.bool (c&&y))::σ1) H a w) X (l.take k)))
 (h2:GO B n D ((tp,.bool (c&&y))::σ1) H (lw ro P ops K X (l.drop k))):GO B n D σ H (lw ro P ops K X l):=by
 refine Ca k ?_ h2
 cases hcc:c with
 | true=>subst hcc;exact h1 aa
 | false=>subst hcc;exact h0 aa
theorem gJ{c y:Bool}{t tp:Nat}{σ1:Env}(k:Nat){l:List Oper}(hc:look σ t=some (.bool c))(_hs:lE σ1 σ)
 (h1:c=false→GO B n D σ H (lw ro P ops (fun a w=>St B n D ((tp,.bool (c||y))::σ1) H a w) X (l.take k)))
 (h0:c=true→GO B n D σ H (lw ro P ops (fun a w=>St B n D ((tp,.bool (c||y))::σ1) H a w) X (l.take k)))
 (h2:GO B n D ((tp,.bool (c||y))::σ1) H (lw ro P ops K X (l.drop k))):GO B n D σ H (lw ro P ops K X l):=by
 refine Ca k ?_ h2
 cases hcc:c with
 | true=>subst hcc;exact h0 aa
 | false=>subst hcc;exact h1 aa
theorem bf{tp:Nat}{r y:Bool}{σ1:Env}(h:look σ tp=some (.bool y))(hs:lE σ1 σ)(e:y=r):GO B n D σ H (lw ro P ops (fun a w=>St B n D ((tp,.bool r)::σ1) H a w) X []):=by
 subst e;exact fun a w s=>s.to ⟨h,hs⟩ id
theorem dj{c y:Bool}(h:c=true):y=(c&&y):=by subst h;rfl
theorem dl{c y:Bool}(h:c=false):false=(c&&y):=by subst h;rfl
theorem ga{c y:Bool}(h:c=false):y=(c||y):=by subst h;rfl
theorem f9{c y:Bool}(h:c=true):true=(c||y):=by subst h;rfl
theorem dF{c:Code}{ι:Type}(I:ι→Prop)(σI:ι→Env)(HI:ι→List HP)(μ:ι→Nat)(i₀ :ι)
 (h0:I i₀) (h1:∀ a w,St B n D σ H a w→St B n D (σI i₀) (HI i₀) a w)
 (round:∀ i,I i→GO B n D (σI i) (HI i) (cw ro P c (fun a w=>∃ j,I j∧μ j<μ i∧St B n D (σI j) (HI j) a w) X)):
 GO B n D σ H (cw ro P (.loop c) K X):=by
 intro a w s b k cs hro hb
 have h00:(lone (b.atR a (.code (.loop c)::k)) cs w).fenced P (Wd ro):=fenced_calm (n:=0) trivial (rmW _ _) rfl
 have key:∀ m i,I i→μ i=m→∀ a w,St B n D (σI i) (HI i) a w→
  ∃ e a' w',toQ K X e a' w'∧ArrivesIn (Machine.fenced P (Wd ro)) P (lone (b.atR a (.code c:: .inLoop c::k)) cs w) b k cs e a' w':=by
  intro m
  induction m using Nat.strongRecOn with
  | _ m ih=>
    intro i hI hi a w s
    obtain⟨e,a₁,w₁,hq,harr⟩:=round i hI a w s b (.inLoop c::k) cs hro hb
    cases e with
    | normal=>
      obtain⟨j,hIj,hj,sj⟩:=hq
      obtain⟨e₂,a₂,w₂,hq₂,harr₂⟩:=ih (μ j) (by omega) j hIj rfl a₁ w₁ sj
      exact⟨e₂,a₂,w₂,hq₂,.of_steps (StepsIn.trans harr (.one (fenced_calm (n:=0) trivial (rmW _ _) aa) stepR_inLoop)) harr₂⟩
    | exit id=>exact⟨.exit id,a₁,w₁,hq,.pass (x:= .inLoop c) aa (fun _ _=> .inl (by simp)) harr⟩
    | goto l=>exact hq.elim
    | ret=>exact⟨.ret,a₁,w₁,hq,.pass (x:= .inLoop c) aa (fun _ _=> .inl (by simp)) harr⟩
    | panic ch=>exact⟨.panic ch,a₁,w₁,hq,.pass (x:= .inLoop c) aa (fun _ _=> .inl (by simp)) harr⟩
    | outgrown=>exact hq.elim
 obtain⟨e,a',w',q,r⟩:=key _ i₀ h0 rfl a w (h1 a w s)
 exact⟨e,a',w',q,.of_steps (.one h00 stepR_loop) r⟩
def fnK(P:Program)(fn:Func)(R:Ending→World→Prop):Act→World→Prop:=bodyPost P fn R .normal
def fnX(P:Program)(fn:Func)(R:Ending→World→Prop):Ext:={ret:=bodyPost P fn R .ret,pan:=fun c=>bodyPost P fn R (.panic c),ex:=fun _ _ _=>False}
def vq:Nat→List Value→Env
 | _,[]=>[]
 | i,v::vs=>(i,v)::vq (i+1) vs
theorem kS:∀ (vs:List Value) (i t:Nat) (v:Value),look (vq i vs) t=some v→i≤t∧vs[t - i]? =some v
 | [],_,_,_,h=>by simp[vq,look] at h
 | u::vs,i,t,v,h=>by
   simp only[vq,look] at h
   by_cases e:i=t
   ·subst e;simp at h;subst h;simp
   ·rw[jT e] at h
    obtain⟨h1,h2⟩:=kS vs (i+1) t v h
    refine⟨by omega,?_⟩
    rw[show t - i=(t - (i+1))+1 by omega];simpa using h2
def cxF(f:FuncId):Cx:=⟨none,some f⟩
theorem nC{f:FuncId}{fn:Func}{c:Code}{args:Array Value}{w:World}{R:Ending→World→Prop}(hf:P.funcs[f]? =some fn)(hb:fn.body=some c)
 (h:cw (cxF f) P c (bodyPostM (Wd (cxF f)) 0 P fn R .normal) ⟨bodyPostM (Wd (cxF f)) 0 P fn R .ret,fun c=>bodyPostM (Wd (cxF f)) 0 P fn R (.panic c),fun _ _ _=>False⟩ {tmps:=args++Array.replicate (fn.ntmps - args.size) undef,defers:=[]} w):Calls P f args w R:=by
 refine(kI (ro:=cxF f) (n:=0)).1 ⟨trivial,fun cs hr=> ?_⟩
 let b:Frame:={(default:Frame) with fn:=f,kind:= .normal,roundOf:=none}
 have henter:Frame.enter P f args .normal=
  b.atR {tmps:=args++Array.replicate (fn.ntmps - args.size) undef,defers:=[]} [.code c]:=by
  simp[Frame.enter,Frame.atR,hf,hb,b]
 obtain⟨e,a',w',hq,harr⟩:=h b [] cs rfl (fun g hg=>by cases hg;rfl)
 rw[←henter] at harr
 cases e with
 | normal=>
   obtain⟨e',w'',fr',hR,hs,hfn,hl⟩:=leaves_stepsInM a'.defers .returning w' {b.atR a' [] with mode:= .returning} cs rfl rfl rfl hf rfl trivial hr hq
   exact⟨e',w'',fr',hR,ComesIn.of_steps (StepsIn.trans harr (.one (fenced_calm (n:=0) (fr:=b.atR a' []) trivial (rmW _ _) aa) (stepR_end aa))) hs,hfn,hl⟩
 | ret=>
   obtain⟨todo,hs₀⟩:=harr.1 rfl
   obtain⟨e',w'',fr',hR,hs,hfn,hl⟩:=leaves_stepsInM a'.defers .returning w' {b.atR a' todo with mode:= .returning} cs rfl rfl rfl hf rfl trivial hr hq
   exact⟨e',w'',fr',hR,ComesIn.of_steps hs₀ hs,hfn,hl⟩
 | panic chain=>
   obtain⟨todo,hs₀⟩:=harr
   obtain⟨e',w'',fr',hR,hs,hfn,hl⟩:=leaves_stepsInM a'.defers (.panicking chain) w' {b.atR a' todo with mode:= .panicking chain} cs rfl rfl rfl hf rfl trivial hr hq
   exact⟨e',w'',fr',hR,ComesIn.of_steps hs₀ hs,hfn,hl⟩
 | exit id=>exact hq.elim
 | goto l=>exact hq.elim
 | outgrown=>exact hq.elim
theorem CD{f:FuncId}{fn:Func}{R:Ending→World→Prop}:∀ e a w,toQ (fnK P fn R) (fnX P fn R) e a w→toQ (bodyPostM (Wd (cxF f)) 0 P fn R .normal) ⟨bodyPostM (Wd (cxF f)) 0 P fn R .ret,fun c=>bodyPostM (Wd (cxF f)) 0 P fn R (.panic c),fun _ _ _=>False⟩ e a w:=by
 intro e a w q
 cases e with
 | normal=>obtain⟨hd,q⟩:=q;show LeavesInM _ _ _ _ _ _ a.defers _ _;rw[hd];exact q
 | ret=>obtain⟨hd,q⟩:=q;show LeavesInM _ _ _ _ _ _ a.defers _ _;rw[hd];exact q
 | panic c=>obtain⟨hd,q⟩:=q;show LeavesInM _ _ _ _ _ _ a.defers _ _;rw[hd];exact q
 | exit i=>exact q.elim
 | goto l=>exact q.elim
 | outgrown=>exact q.elim
theorem ak{f:FuncId}{fn:Func}{c:Code}{vs:List Value}{R:Ending→World→Prop}(hf:P.funcs[f]? =some fn)(hb:fn.body=some c)(hn:fn.ntmps=n)(hl:Nat.ble vs.length n=true)
 (h:GO B n [] (vq 0 vs) H (cw (cxF f) P c (fnK P fn R) (fnX P fn R))):∀ w,Holds B H w→Calls P f vs.toArray w R:=by
 intro w hw
 refine nC hf hb (rM (h _ w ⟨⟨?_,rfl,?_⟩,hw⟩) CD)
 ·have:vs.length≤n:=by simpa [Nat.ble_eq] using hl
  simp[hn];omega
 ·intro t v ht
  have:=(kS vs 0 t v ht).2
  simp at this ⊢
  rw[Array.getElem?_append_left]
  ·simpa using this
  ·have:=(List.getElem?_eq_some_iff.1 this).1;simpa using this
theorem aq{fn:Func}{R:Ending→World→Prop}{t:Nat}{v:Value}(hr:fn.results= #[.tmp t])(hv:look σ t=some v)(h:∀ w,Holds B H w→R (.returned v) w):GO B n [] σ H (fnX P fn R).ret:=fun _ w s=>by
 refine⟨s.defers,v,?_,h w s.holds⟩
 rw[results_tmp hr,Array.getD_eq_getD_getElem?,s.env t v hv];rfl
theorem ja{fn:Func}{R:Ending→World→Prop}(hr:fn.results= #[])(h:∀ w,Holds B H w→R (.returned (.tuple #[])) w):GO B n [] σ H (fnX P fn R).ret:=fun _ w s=>
 ⟨s.defers,_,results_none hr _ _ _,h w s.holds⟩
theorem cG{fn:Func}{R:Ending→World→Prop}(hr:fn.results= #[])(h:∀ w,Holds B H w→R (.returned (.tuple #[])) w):GO B n [] σ H (fnK P fn R):=fun _ w s=>
 ⟨s.defers,_,results_none hr _ _ _,h w s.holds⟩
theorem bz{fn:Func}{R:Ending→World→Prop}{t u:Nat}{v x:Value}(hr:fn.results= #[.tmp t,.tmp u])(hv:look σ t=some v)(hx:look σ u=some x)(h:∀ w,Holds B H w→R (.returned (.tuple #[v,x])) w):GO B n [] σ H (fnX P fn R).ret:=fun _ w s=>by
 refine⟨s.defers,.tuple #[v,x],?_,h w s.holds⟩
 rw[results_tmp2 hr,Array.getD_eq_getD_getElem?,Array.getD_eq_getD_getElem?,s.env t v hv,s.env u x hx];rfl
theorem aX{R:Ending→World→Prop}{c:List PanicEntry}(h:∀ w,Holds B H w→R (.panicked c) w):GO B n [] σ H (fun a w=>a.defers=[]∧R (.panicked c) w):=fun _ w s=>⟨s.defers,h w s.holds⟩
end
section
variable {B:World} {σ:Env} {H:List HP} {P:Program} {d:Option Tmp} {ty:TypeId} {p:String} {af:Array Edge} {g:Option (Nat×Bool)}
theorem al{x:Operand}{v:Value}(h:evO σ x=some v):Evs P B σ H ⟨d,.move x,ty,p,af,g⟩ v:=by
 intro a w k _;simp[execOp,k.eval h]
theorem bE{x:Operand}{v:Value}(h:evO σ x=some v):Evs P B σ H ⟨d,.assign x,ty,p,af,g⟩ v:=by
 intro a w k _;simp[execOp,k.eval h]
theorem aB{c x y:Operand}{cc:Bool}{v:Value}(hc:evO σ c=some (.bool cc))(hcc:cc=true)(h:evO σ x=some v):Evs P B σ H ⟨d,.pick c x y,ty,p,af,g⟩ v:=by
 subst hcc;intro a w k _;simp[execOp,k.eval h,k.eval hc,asBool]
theorem aJ{c x y:Operand}{cc:Bool}{v:Value}(hc:evO σ c=some (.bool cc))(hcc:cc=false)(h:evO σ y=some v):Evs P B σ H ⟨d,.pick c x y,ty,p,af,g⟩ v:=by
 subst hcc;intro a w k _;simp[execOp,k.eval h,k.eval hc,asBool]
def Cb:Value→Bool
 | .pointer (some _)=>true
 | .func (.func _) _ _=>true
 | _=>false
theorem aF{x:Operand}{v:Value}(h:evO σ x=some v)(hv:Cb v=true:=by rfl):Evs P B σ H ⟨d,.nilCheck x,ty,p,af,g⟩ v:=by
 unfold Cb at hv
 split at hv
 ·intro a w k _;simp[execOp,k.eval h]
 ·intro a w k _;simp[execOp,k.eval h]
 ·cases hv
theorem iT{k:IntKind}{x y:Operand}{i j c:Int}{t u:TypeId}(hx:evO σ x=some (.int k i))(hy:evO σ y=some (.int k j))(hc:k.wrap (i+j)=c):Evs P B σ H ⟨d,.binOp .add t x y u,ty,p,af,g⟩ (.int k c):=by
 intro a w kn _;subst hc;simp only[execOp,kn.eval hx,kn.eval hy]<;>simp[binOp,Op.intArith,eqGuard,go_sem]
theorem mP{k:IntKind}{x y:Operand}{i j c:Int}{t u:TypeId}(hx:evO σ x=some (.int k i))(hy:evO σ y=some (.int k j))(hc:k.wrap (i - j)=c):Evs P B σ H ⟨d,.binOp .sub t x y u,ty,p,af,g⟩ (.int k c):=by
 intro a w kn _;subst hc;simp only[execOp,kn.eval hx,kn.eval hy]<;>simp[binOp,Op.intArith,eqGuard,go_sem]
theorem mR{k:IntKind}{x y:Operand}{i j c:Int}{t u:TypeId}(hx:evO σ x=some (.int k i))(hy:evO σ y=some (.int k j))(hc:k.wrap (i*j)=c):Evs P B σ H ⟨d,.binOp .mul t x y u,ty,p,af,g⟩ (.int k c):=by
 intro a w kn _;subst hc;simp only[execOp,kn.eval hx,kn.eval hy]<;>simp[binOp,Op.intArith,eqGuard,go_sem]
theorem ly{k:IntKind}{x y:Operand}{i j c:Int}{t u:TypeId}(hx:evO σ x=some (.int k i))(hy:evO σ y=some (.int k j))(hj:j≠0)(hc:k.wrap (i.tdiv j)=c):Evs P B σ H ⟨d,.binOp .quo t x y u,ty,p,af,g⟩ (.int k c):=by
 intro a w kn _;subst hc;simp only[execOp,kn.eval hx,kn.eval hy]<;>simp[binOp,Op.intDiv,eqGuard,go_sem,hj]
theorem et{k:IntKind}{x y:Operand}{i j c:Int}{t u:TypeId}(hx:evO σ x=some (.int k i))(hy:evO σ y=some (.int k j))(hj:j≠0)(hc:i.tmod j=c):Evs P B σ H ⟨d,.binOp .rem t x y u,ty,p,af,g⟩ (.int k c):=by
 intro a w kn _;subst hc;simp only[execOp,kn.eval hx,kn.eval hy]<;>simp[binOp,Op.intDiv,eqGuard,go_sem,hj]
def DY:BinOp→Int→Int→Option Bool
 | .eql,x,y=>some (x==y)
 | .neq,x,y=>some (x !=y)
 | .lss,x,y=>some (decide (x<y))
 | .leq,x,y=>some (decide (x≤y))
 | .gtr,x,y=>some (decide (x>y))
 | .geq,x,y=>some (decide (x≥y))
 | _,_,_=>none
theorem am{op:BinOp}{k:IntKind}{x y:Operand}{i j:Int}{c:Bool}{t u:TypeId}(hx:evO σ x=some (.int k i))(hy:evO σ y=some (.int k j))(hc:DY op i j=some c):Evs P B σ H ⟨d,.binOp op t x y u,ty,p,af,g⟩ (.bool c):=by
 intro a w kn _
 cases op<;>simp[DY] at hc<;>subst hc<;>simp only[execOp,kn.eval hx,kn.eval hy]<;>simp[binOp,Op.intCmp,eqGuard,go_sem]
theorem u5{k yk:IntKind}{x y:Operand}{i j c:Int}{t u:TypeId}(hx:evO σ x=some (.int k i))(hy:evO σ y=some (.int yk j))(hj:0≤j)(hc:k.wrap (i*2 ^ min j.toNat k.bits)=c):Evs P B σ H ⟨d,.binOp .shl t x y u,ty,p,af,g⟩ (.int k c):=by
 intro a w kn _;subst hc;simp only[execOp,kn.eval hx,kn.eval hy]<;>simp[binOp,Op.shift,eqGuard,go_sem,Int.not_lt.2 hj]
theorem u4{k yk:IntKind}{x y:Operand}{i j c:Int}{t u:TypeId}(hx:evO σ x=some (.int k i))(hy:evO σ y=some (.int yk j))(hj:0≤j)(hc:i.fdiv (2 ^ min j.toNat k.bits)=c):Evs P B σ H ⟨d,.binOp .shr t x y u,ty,p,af,g⟩ (.int k c):=by
 intro a w kn _;subst hc;simp only[execOp,kn.eval hx,kn.eval hy]<;>simp[binOp,Op.shift,eqGuard,go_sem,Int.not_lt.2 hj]
def pK(op:BinOp)(k:IntKind)(x y:Int):Int:=
 match op with
 | .and=>k.wrap (BitVec.ofInt k.bits x&&& BitVec.ofInt k.bits y).toNat
 | .or=>k.wrap (BitVec.ofInt k.bits x||| BitVec.ofInt k.bits y).toNat
 | .xor=>k.wrap (BitVec.ofInt k.bits x ^^^ BitVec.ofInt k.bits y).toNat
 | _=>k.wrap (BitVec.ofInt k.bits x&&& ~~~(BitVec.ofInt k.bits y)).toNat
theorem pz{k:IntKind}{x y:Operand}{i j c:Int}{t u:TypeId}(hx:evO σ x=some (.int k i))(hy:evO σ y=some (.int k j))(hc:pK .and k i j=c):Evs P B σ H ⟨d,.binOp .and t x y u,ty,p,af,g⟩ (.int k c):=by
 intro a w kn _;subst hc;simp only[execOp,kn.eval hx,kn.eval hy]<;>simp[binOp,Op.intBits,eqGuard,go_sem,pK]
theorem zY{k:IntKind}{x y:Operand}{i j c:Int}{t u:TypeId}(hx:evO σ x=some (.int k i))(hy:evO σ y=some (.int k j))(hc:pK .or k i j=c):Evs P B σ H ⟨d,.binOp .or t x y u,ty,p,af,g⟩ (.int k c):=by
 intro a w kn _;subst hc;simp only[execOp,kn.eval hx,kn.eval hy]<;>simp[binOp,Op.intBits,eqGuard,go_sem,pK]
theorem bu{x:Operand}{c:Bool}{t:TypeId}(hx:evO σ x=some (.bool c)):Evs P B σ H ⟨d,.unOp .not t x,ty,p,af,g⟩ (.bool !c):=by
 intro a w kn _;simp[execOp,kn.eval hx,Op.unary]
theorem cR{s t:TypeId}{x:Operand}{sd:TypeDesc}{k k':IntKind}{i c:Int}(hs:∀ w,(underlying s).run P w= .ok sd w)(ht:∀ w,(underlying t).run P w= .ok (.int k) w)(hx:evO σ x=some (.int k' i))(hc:k.wrap i=c):
 Evs P B σ H ⟨d,.convert s t x,ty,p,af,g⟩ (.int k c):=by
 intro a w kn _;subst hc;simp[execOp,kn.eval hx,convert,hs,ht,Conv.intToInt]
theorem c7{f:Fn}{fi ca:Array Operand}{fv cv:List Value}(h1:evL σ fi.toList=some fv)(h2:evL σ ca.toList=some cv):Evs P B σ H ⟨d,.makeFunc f fi ca,ty,p,af,g⟩ (.func f fv.toArray cv.toArray):=by
 intro a w kn _;simp[execOp,kn.evalsA h1,kn.evalsA h2,Instr.makeFunc]
theorem az{x:Operand}{i:Nat}{vs:Array Value}{v:Value}(hx:evO σ x=some (.tuple vs))(hv:vs[i]? =some v):Evs P B σ H ⟨d,.extract x i,ty,p,af,g⟩ v:=by
 intro a w kn _;simp[execOp,kn.eval hx,Instr.extract,hv]
theorem sB{t:TypeId}{i j:Bool}(ht:∀ w,(underlying t).run P w= .ok .bool w)(w:World):(Op.equal t (.bool i) (.bool j)).run P w= .ok (i==j) w:=by
 show(Op.equalIn (9999+1) t (.bool i) (.bool j)).run P w=_
 rw[Op.equalIn];simp only[Sem.run_bind,ht,Result.andThen_ok];rfl
theorem uw{t e:TypeId}{q:Option Addr}(ht:∀ w,(underlying t).run P w= .ok (.pointer e) w)(w:World):(Op.equal t (.pointer q) (.pointer none)).run P w= .ok q.isNone w:=by
 show(Op.equalIn (9999+1) t (.pointer q) (.pointer none)).run P w=_
 rw[Op.equalIn];simp only[Sem.run_bind,ht,Result.andThen_ok];cases q<;>rfl
theorem Aa{op:BinOp}{x y:Operand}{i j c:Bool}{t u:TypeId}(ht:∀ w,(underlying t).run P w= .ok .bool w)(hx:evO σ x=some (.bool i))(hy:evO σ y=some (.bool j))(hc:(match op with | .eql=>some (i==j) | .neq=>some (i !=j) | _=>none)=some c):
 Evs P B σ H ⟨d,.binOp op t x y u,ty,p,af,g⟩ (.bool c):=by
 intro a w kn _
 cases op<;>simp at hc<;>subst hc<;>simp only[execOp,kn.eval hx,kn.eval hy]<;>simp[binOp,eqGuard,sB ht]<;>cases i<;>cases j<;>rfl
theorem cV{op:BinOp}{x y:Operand}{q:Option Addr}{c:Bool}{t u e:TypeId}(ht:∀ w,(underlying t).run P w= .ok (.pointer e) w)(hx:evO σ x=some (.pointer q))(hy:evO σ y=some (.pointer none))(hc:(match op with | .eql=>some q.isNone | .neq=>some (!q.isNone) | _=>none)=some c):
 Evs P B σ H ⟨d,.binOp op t x y u,ty,p,af,g⟩ (.bool c):=by
 intro a w kn _
 cases op<;>simp at hc<;>subst hc<;>simp only[execOp,kn.eval hx,kn.eval hy]<;>simp[binOp,eqGuard,uw ht]
class fK (H:List HP) (b:Nat) (cs:outParam (List Value)) (T:outParam TypeId) (U:outParam (List Value→List HP)):Prop where
 get:∃ i,H[i]? =some (row b cs T)∧∀ cs',U cs'=H.set i (row b cs' T)
instance fK.head {b:Nat} {cs:List Value} {T:TypeId} {l:List HP}:fK (row b cs T::l) b cs T (fun cs'=>row b cs' T::l):=⟨0,rfl,fun _=>rfl⟩
instance fK.tail {A:HP} {b:Nat} {cs:List Value} {T:TypeId} {l:List HP} {U:List Value→List HP} [r:fK l b cs T U]:fK (A::l) b cs T (fun cs'=>A::U cs'):=
 ⟨let ⟨i,h1,h2⟩:=r.get;⟨i+1,by simpa using h1,fun cs'=>by simp[h2]⟩⟩
theorem Holds.ucell{B:World}{H:List HP}{w:World}{b:Nat}{cs:List Value}{T:TypeId}{U:List Value→List HP}[r:fK H b cs T U](h:Holds B H w)(k:Nat):w.cell? ⟨b,k,none⟩=cs[k]? :=
 let ⟨i,h1,_⟩:=r.get;h.cell i h1 k
theorem sA{b k:Nat}{cs:List Value}{T t:TypeId}{U:List Value→List HP}{v:Value}{w:World}[fK H b cs T U](hh:Holds B H w)(ht:∀ w,(isAgg t).run P w= .ok false w)(hv:cs[k]? =some v):
 (loadVar t ⟨b,k,none⟩).run P w= .ok v w:=by
 have h1:=hh.ucell (b:=b) k
 rw[hv] at h1
 simp[loadVar,ht,load,Sem.run,h1]
theorem ag{t:TypeId}{x:Operand}{b k:Nat}{cs:List Value}{T:TypeId}{U:List Value→List HP}{v:Value}(ht:∀ w,(isAgg t).run P w= .ok false w)(hx:evO σ x=some (.pointer (some ⟨b,k,none⟩)))[fK H b cs T U](hv:cs[k]? =some v):
 Evs P B σ H ⟨d,.load t x,ty,p,af,g⟩ v:=by
 intro a w kn hh;simp[execOp,kn.eval hx,Instr.loadAt,Instr.sureAddr,sA hh ht hv]
theorem la{b k:Nat}{cs:List Value}{T:TypeId}{U:List Value→List HP}{w:World}[fK H b cs T U](hh:Holds B H w):∀ (m i:Nat) (acc:Array Value),k+i+m≤cs.length→
 (loadCellsFrom ⟨b,k,none⟩ i m acc).run P w= .ok (acc++((cs.drop (k+i)).take m).toArray) w
 | 0,i,acc,_=>by simp[loadCellsFrom]
 | m+1,i,acc,h=>by
   have h1:=hh.ucell (b:=b) (k+i)
   rw[List.getElem?_eq_getElem (by omega)] at h1
   have ha:(⟨b,k,none⟩:Addr).add i=⟨b,k+i,none⟩:=by
    unfold Addr.add;split
    ·rename_i e;subst e;rfl
    ·rfl
   simp only[loadCellsFrom,Sem.run_bind,ha]
   simp only[load,Sem.run,h1,Result.andThen_ok]
   rw[la (b:=b) hh m (i+1) _ (by omega)]
   congr 1
   rw[List.drop_eq_getElem_cons (show k+i<cs.length by omega),List.take_succ_cons]
   simp[Nat.add_assoc]
theorem qf{b k m:Nat}{cs:List Value}{T t:TypeId}{U:List Value→List HP}{w:World}[fK H b cs T U](hh:Holds B H w)(ht:∀ w,(isAgg t).run P w= .ok true w)(hs:∀ w,(sizeOf t).run P w= .ok m w)(hk:Nat.ble (k+m) cs.length=true):
 (loadVar t ⟨b,k,none⟩).run P w= .ok (.agg ((cs.drop k).take m).toArray) w:=by
 have hk':k+m≤cs.length:=by simpa [Nat.ble_eq] using hk
 have:=la (P:=P) (b:=b) (k:=k) hh m 0 #[] (by omega)
 simp[loadVar,ht,hs,loadCells,this]
theorem ah{t:TypeId}{x:Operand}{b k m:Nat}{cs:List Value}{T:TypeId}{U:List Value→List HP}(ht:∀ w,(isAgg t).run P w= .ok true w)(hs:∀ w,(sizeOf t).run P w= .ok m w)(hx:evO σ x=some (.pointer (some ⟨b,k,none⟩)))[fK H b cs T U](hk:Nat.ble (k+m) cs.length=true):
 Evs P B σ H ⟨d,.load t x,ty,p,af,g⟩ (.agg ((cs.drop k).take m).toArray):=by
 intro a w kn hh;simp[execOp,kn.eval hx,Instr.loadAt,Instr.sureAddr,qf hh ht hs hk]
theorem aC{s f off b k m:Nat}{x:Operand}(hf:∀ b k w,(Instr.fieldAt s (.pointer (some ⟨b,k,none⟩)) f).run P w= .ok (.pointer (some ⟨b,k+off,none⟩)) w)(hx:evO σ x=some (.pointer (some ⟨b,k,none⟩)))(hm:k+off=m):
 Evs P B σ H ⟨d,.fieldAddr s x f,ty,p,af,g⟩ (.pointer (some ⟨b,m,none⟩)):=by
 intro a w kn hh;subst hm;simp[execOp,kn.eval hx,hf]
class At {S:Type} (H:List HP) (q:Nat→S→HP) (b:Nat) (s:outParam S) (Fr:outParam (List HP)):Prop where
 get:∃ i,H[i]? =some (q b s)∧Fr=H.eraseIdx i
instance At.head {S:Type} {q:Nat→S→HP} {b:Nat} {s:S} {l:List HP}:At (q b s::l) q b s l:=⟨0,rfl,rfl⟩
instance At.tail {S:Type} {A:HP} {q:Nat→S→HP} {b:Nat} {s:S} {l Fr:List HP} [r:At l q b s Fr]:At (A::l) q b s (A::Fr):=
 ⟨let ⟨i,h1,h2⟩:=r.get;⟨i+1,by simpa using h1,by simp[h2]⟩⟩
theorem Holds.pull{S:Type}{w:World}(h:Holds B H w)(q:Nat→S→HP)(b:Nat){s:S}{Fr:List HP}[r:At H q b s Fr]:Holds B (q b s::Fr) w:=
 let ⟨i,h1,h2⟩:=r.get;h2▸h.front i h1
theorem lY{A:HP}:∀ (l:List HP) (i:Nat),l[i]? =some A→(l.eraseIdx i).insertIdx i A=l
 | [],_,h=>by simp at h
 | B::l,0,h=>by simp at h;simp[h]
 | B::l,i+1,h=>by simp at h;simp[lY l i h]
theorem Holds.unpull{S:Type}{q:Nat→S→HP}{b:Nat}{s:S}{Fr:List HP}{w:World}[r:At H q b s Fr](h:Holds B (q b s::Fr) w):Holds B H w:=by
 obtain⟨i,h1,h2⟩:=r.get
 subst h2
 have:=h.back i (by have:=(List.getElem?_eq_some_iff.1 h1).1;rw[List.length_eraseIdx];split<;>omega)
 rwa [lY _ _ h1] at this
theorem dG{n:Nat}{D:List Deferred}{K:Act→World→Prop}{S:Type}(q:Nat→S→HP)(b:Nat){s:S}{Fr:List HP}[At H q b s Fr](h:GO B n D σ (q b s::Fr) K):GO B n D σ H K:=
 aK (fun _ hw=>hw.pull q b) h
theorem Holds.row_lt{B:World}{l:List HP}{w:World}{b:Nat}{cs:List Value}{T:TypeId}(h:Holds B l w)(i:Nat)(e:l[i]? =some (row b cs T)):b<w.heap.size:=
 (Array.getElem?_eq_some_iff.1 (h.read i e)).1
theorem aR{t:TypeId}{parts:Array (Nat×Operand)}{vs:List Value}{v:Value}(hv:evL σ (parts.toList.map (·.2))=some vs)(hb:∀ w,(Instr.build t ((parts.toList.map (·.1)).zip vs).toArray).run P w= .ok v w):
 Evs P B σ H ⟨d,.build t parts,ty,p,af,g⟩ v:=by
 intro a w kn _
 have e:parts.map (fun (i,x)=>(i,a.eval x))=((parts.toList.map (·.1)).zip vs).toArray:=by
  have:=kn.evals hv
  apply Array.ext'
  rw[←this]
  simp[List.zip_map,List.map_map]
  induction parts.toList with
  | nil=>rfl
  | cons x l ih=>simp[ih]
 simp only[execOp]
 rw[show(parts.map fun x=>(match x with | (i,x)=>(i,a.eval x):Nat×Value))=_ from e]
 simp[hb]
theorem bA(cs:Array Value):(Value.agg cs).cells=cs:=rfl
def xJ:TypeDesc→Bool
 | .interface _=>true
 | _=>false
theorem zZ{t:TypeId}{x:Operand}{v:Value}{td:TypeDesc}(ht:∀ w,(underlying t).run P w= .ok td w)(hi:xJ td=false)(hx:evO σ x=some v):Evs P B σ H ⟨d,.makeInterface t x,ty,p,af,g⟩ (.iface t v):=by
 intro a w kn _
 cases td<;>simp[xJ] at hi<;>simp[execOp,kn.eval hx,Instr.makeInterface,ht]
theorem y8{n:Nat}{D:List Deferred}{ro:Cx}{K:Act→World→Prop}{X:Ext}{ops:Array Oper}{rest:List Oper}{x:Operand}{u:TypeId}{v:Value}(hx:evO σ x=some (.iface u v))(hw:fD ops σ g true)
 (k:GO B n D σ H (X.pan [{v:= .iface u v,recovered:=false}])):GO B n D σ H (lw ro P ops K X (⟨d,.panic x,ty,p,af,g⟩::rest)):=by
 intro a w s
 show(if Region.wanted _ (yielded ops a.tmps) then _ else _)
 rw[hw.wanted (o:=⟨d,.panic x,ty,p,af,g⟩) s.env,if_pos rfl]
 refine⟨fun _ _=>trivial,?_⟩
 rw[fx rfl]
 have:(execOp a.eval ⟨d,.panic x,ty,p,af,g⟩).run P w= .halt (.panic (.iface u v)) w:=by
  simp[execOp,Instr.panic,s.env.eval hx,goPanic]
 rw[this]
 exact k a w s
theorem oC{t:TypeId}{ms:Array (String×TypeId)}{v:Value}(ht:∀ w,(underlying t).run P w= .ok (.interface ms) w)(hv:v= .nilIface∨∃ u x,v= .iface u x)(w:World):(Op.equal t v .nilIface).run P w= .ok (match v with | .nilIface=>true | _=>false) w:=by
 show(Op.equalIn (9999+1) t v .nilIface).run P w=_
 rw[Op.equalIn];simp only[Sem.run_bind,ht,Result.andThen_ok]
 rcases hv with rfl | ⟨u,x,rfl⟩<;>rfl
theorem mh{x:Operand}{t u:TypeId}{ms:Array (String×TypeId)}{v:Value}(ht:∀ w,(underlying t).run P w= .ok (.interface ms) w)(hx:evO σ x=some v)(hv:v= .nilIface∨∃ u x,v= .iface u x):
 Evs P B σ H ⟨d,.binOp .neq t x (.const .nilIface) u,ty,p,af,g⟩ (.bool (match v with | .nilIface=>false | _=>true)):=by
 intro a w kn _
 have e2:a.eval (.const .nilIface)= .nilIface:=rfl
 simp only[execOp,kn.eval hx,e2]
 rcases hv with rfl | ⟨q,y,rfl⟩
 ·simp[binOp,eqGuard,oC ht (.inl rfl)]
 ·simp[binOp,eqGuard,oC ht (.inr ⟨_,_,rfl⟩)]
theorem DT{x:Operand}{s t:TypeId}{v:Value}{td:TypeDesc}(ht:∀ w,(underlying t).run P w= .ok td w)(hi:xJ td=false)(hx:evO σ x=some (.iface t v)):Evs P B σ H ⟨d,.typeAssert x s t true,ty,p,af,g⟩ (.tuple #[v,.bool true]):=by
 intro a w kn _
 cases td<;>simp[xJ] at hi<;>simp[execOp,kn.eval hx,Instr.typeAssert,ht]
theorem ar{f:FuncId}{xs:Array Operand}{vs:List Value}{at_:Array TypeId}(hc:∀ args w,(callFunc f args).run P w= .ok (.enter f args) w)(hv:evL σ xs.toList=some vs):
 Ent P B σ H ⟨d,.call ⟨.value (.func f),xs,at_⟩,ty,p,af,g⟩ f vs.toArray:=by
 intro a w kn _
 simp[execOp,resolve,Deferred.ofValue,invoke,Act.eval,kn.evalsA hv,hc]
theorem fa{f:FuncId}{x:Operand}{fi ca:List Value}{xs:Array Operand}{vs:List Value}{at_:Array TypeId}(hc:∀ args w,(callFunc f args).run P w= .ok (.enter f args) w)(hx:evO σ x=some (.func (.func f) fi.toArray ca.toArray))(hv:evL σ xs.toList=some vs):
 Ent P B σ H ⟨d,.call ⟨.value x,xs,at_⟩,ty,p,af,g⟩ f (fi++vs++ca).toArray:=by
 intro a w kn _
 simp[execOp,resolve,Deferred.ofValue,invoke,kn.eval hx,kn.evalsA hv,hc]
theorem tW{t:TypeId}{z:Value}(hz:∀ w,(zeroValue t).run P w= .ok z w):
 Chg P B σ H ⟨d,.alloc t,ty,p,af,g⟩ (fun v H'=>∃ b,v= .pointer (some ⟨b,0,none⟩)∧H'=row b z.cells.toList t::H):=by
 intro a w _ hh
 refine⟨.value (.pointer (some ⟨w.heap.size,0,none⟩)),{w with heap:=w.heap.push (.cells z.cells t)},?_,_,.inl aa,_,⟨_,rfl,rfl⟩,by simpa [row] using hh.new (.cells z.cells t)⟩
 simp only[execOp,Instr.alloc,Sem.run_bind,hz,Result.andThen_ok];rfl
theorem As{t:TypeId}{x:Operand}{u:Value}(hx:evO σ x=some u):
 Chg P B σ H ⟨d,.box t x,ty,p,af,g⟩ (fun v H'=>∃ b,v= .pointer (some ⟨b,0,none⟩)∧H'=row b u.cells.toList t::H):=by
 intro a w kn hh
 refine⟨.value (.pointer (some ⟨w.heap.size,0,none⟩)),{w with heap:=w.heap.push (.cells u.cells t)},?_,_,.inl aa,_,⟨_,rfl,rfl⟩,by simpa [row] using hh.new (.cells u.cells t)⟩
 simp only[execOp,kn.eval hx];rfl
def aN:Value→Bool
 | .agg _=>false
 | .tuple _=>false
 | _=>true
theorem aH{v:Value}(h:aN v=true):v.cells= #[v]:=by cases v<;>simp[aN] at h<;>rfl
theorem nk{b k:Nat}{cs:List Value}{T:TypeId}{U:List Value→List HP}{v:Value}{w:World}[r:fK H b cs T U](hh:Holds B H w)(hk:k<cs.length)(hv:aN v=true):
 (store ⟨b,k,none⟩ v).run P w= .ok () (w.setCell ⟨b,k,none⟩ v):=by
 obtain⟨i,hi,_⟩:=r.get
 have h1:=hh.cell i hi k
 have h2:=hh.free i hi k
 rw[List.getElem?_eq_getElem hk] at h1
 cases v<;>simp[aN] at hv<;>simp[store,Sem.run,h1,h2]
theorem Holds.uset{b k:Nat}{cs:List Value}{T:TypeId}{U:List Value→List HP}{v:Value}{w:World}[r:fK H b cs T U](hh:Holds B H w):Holds B (U (cs.set k v)) (w.setCell ⟨b,k,none⟩ v):=by
 obtain⟨i,hi,hU⟩:=r.get
 rw[hU];exact hh.setCell i hi k v
theorem aO{t:TypeId}{x y:Operand}{b k:Nat}{cs:List Value}{T:TypeId}{U:List Value→List HP}{v:Value}(ht:∀ w,(sizeOf t).run P w= .ok 1 w)(hx:evO σ x=some (.pointer (some ⟨b,k,none⟩)))(hy:evO σ y=some v)(hv:aN v=true)
 [r:fK H b cs T U] (hk:Nat.blt k cs.length=true):Chg P B σ H ⟨d,.store t x y,ty,p,af,g⟩ (fun _ H'=>H'=U (cs.set k v)):=by
 intro a w kn hh
 have hk':k<cs.length:=by simpa [Nat.blt_eq] using hk
 refine⟨.skip,w.setCell ⟨b,k,none⟩ v,?_,_,.inr ⟨rfl,rfl⟩,_,rfl,hh.uset⟩
 have:=nk (P:=P) (b:=b) hh hk' hv
 simp only[execOp,kn.eval hx,kn.eval hy,Instr.storeAt,Instr.sureAddr,storeVar,Sem.run_bind,Sem.run_pure,Result.andThen_ok,ht,aH hv]
 simp[storeCells,this,Addr.add]
def dx:List Value→Nat→List Value→List Value
 | cs,_,[]=>cs
 | cs,k,v::vs=>dx (cs.set k v) (k+1) vs
theorem ox{A:HP}:∀ (l:List HP) (i:Nat),l[i]? =some A→l.set i A=l
 | [],_,h=>by simp at h
 | B::l,0,h=>by simp at h;simp[h]
 | B::l,i+1,h=>by simp at h;simp[ox l i h]
theorem eF{b:Nat}:∀ (vs:List Value) (k i:Nat) {H:List HP} {cs:List Value} {T:TypeId} {U:List Value→List HP} {w:World},(fK H b cs T U)→Holds B H w→k+i+vs.length≤cs.length→(∀ v∈vs,aN v=true)→
 ∃ w',(storeCells ⟨b,k,none⟩ vs i).run P w= .ok () w'∧Holds B (U (dx cs (k+i) vs)) w'
 | [],k,i,H,cs,T,U,w,r,hh,_,_=>⟨w,by simp[storeCells],by
  obtain⟨j,hj,hU⟩:=r.get
  have:U cs=H:=by rw[hU,ox _ _ hj]
  simpa [dx,this] using hh⟩
 | v::vs,k,i,H,cs,T,U,w,r,hh,hl,hv=>by
   have ha:(⟨b,k,none⟩:Addr).add i=⟨b,k+i,none⟩:=by
    unfold Addr.add;split
    ·rename_i e;subst e;rfl
    ·rfl
   have h1:=nk (P:=P) (r:=r) hh (k:=k+i) (by simp at hl;omega) (hv v (by simp))
   have h2:=Holds.uset (r:=r) (k:=k+i) (v:=v) hh
   have r2:fK (U (cs.set (k+i) v)) b (cs.set (k+i) v) T U:=by
    obtain⟨j,hj,hU⟩:=r.get
    refine⟨j,?_,fun cs'=> ?_⟩
    ·rw[hU,List.getElem?_set_self (List.getElem?_eq_some_iff.1 hj).1]
    ·rw[hU,hU,List.set_set]
   obtain⟨w',e,hw'⟩:=eF vs k (i+1) r2 h2 (by simp at hl ⊢;omega) (fun v' h'=>hv v' (by simp[h']))
   refine⟨w',?_,by simpa [dx,Nat.add_assoc] using hw'⟩
   simp only[storeCells,Sem.run_bind,ha,h1,Result.andThen_ok,e]
theorem aA{t:TypeId}{x y:Operand}{b k m:Nat}{cs:List Value}{T:TypeId}{U:List Value→List HP}{vs:List Value}(ht:∀ w,(sizeOf t).run P w= .ok m w)(hx:evO σ x=some (.pointer (some ⟨b,k,none⟩)))(hy:evO σ y=some (.agg vs.toArray))
 (hm:vs.length=m) (hv:vs.all aN=true) [r:fK H b cs T U] (hk:Nat.ble (k+vs.length) cs.length=true):Chg P B σ H ⟨d,.store t x y,ty,p,af,g⟩ (fun _ H'=>H'=U (dx cs k vs)):=by
 intro a w kn hh
 have hk':k+vs.length≤cs.length:=by simpa [Nat.ble_eq] using hk
 obtain⟨w',e,hw'⟩:=eF (P:=P) vs k 0 r hh (by simpa using hk') (fun v h=>List.all_eq_true.1 hv v h)
 refine⟨.skip,w',?_,_,.inr ⟨rfl,rfl⟩,_,rfl,by simpa using hw'⟩
 simp only[execOp,kn.eval hx,kn.eval hy,Instr.storeAt,Instr.sureAddr,storeVar,Sem.run_bind,Sem.run_pure,Result.andThen_ok,ht,bA]
 simp[hm,e]
def Ee(P:Program)(fn:Func)(R:Ending→World→Prop):Act→World→Prop:=bodyPostD P fn R .normal
def Ed(P:Program)(fn:Func)(R:Ending→World→Prop):Ext:={ret:=bodyPostD P fn R .ret,pan:=fun c=>bodyPostD P fn R (.panic c),ex:=fun _ _ _=>False}
theorem uX{n:Nat}{f:FuncId}{fn:Func}{c:Code}{vs:List Value}{R:Ending→World→Prop}(hf:P.funcs[f]? =some fn)(hb:fn.body=some c)(hn:fn.ntmps=n)(hl:Nat.ble vs.length n=true)
 (h:GO B n [] (vq 0 vs) H (cw ⟨none,none⟩ P c (Ee P fn R) (Ed P fn R))):∀ w,Holds B H w→Calls P f vs.toArray w R:=by
 intro w hw
 refine calls_of_wp_defers hf hb ((wpIn_wide (n:=0)).1 (wpIn_mono (Cc aa (h _ w ⟨⟨?_,rfl,?_⟩,hw⟩)) fun e a w q=> ?_))
 ·have:vs.length≤n:=by simpa [Nat.ble_eq] using hl
  simp[hn];omega
 ·intro t v ht
  have:=(kS vs 0 t v ht).2
  simp at this ⊢
  rw[Array.getElem?_append_left]
  ·simpa using this
  ·have:=(List.getElem?_eq_some_iff.1 this).1;simpa using this
 ·cases e<;>first | exact q | exact q.elim
theorem A3{n:Nat}{fo:Option FuncId}{D:List Deferred}{K:Act→World→Prop}{X:Ext}{ops:Array Oper}{rest:List Oper}{x:Operand}{xs:Array Operand}{at_:Array TypeId}{fn:Fn}{fi ca:Array Value}{vs:List Value}(hx:evO σ x=some (.func fn fi ca))(hv:evL σ xs.toList=some vs)(hw:fD ops σ g true)
 (k:GO B n ({target:= .fn fn ca,args:=fi++vs.toArray}::D) σ H (lw ⟨none,fo⟩ P ops K X rest)):GO B n D σ H (lw ⟨none,fo⟩ P ops K X (⟨none,.defer ⟨.value x,xs,at_⟩,ty,p,af,g⟩::rest)):=by
 intro a w s
 show(if Region.wanted _ (yielded ops a.tmps) then _ else _)
 rw[hw.wanted (o:=⟨none,.defer ⟨.value x,xs,at_⟩,ty,p,af,g⟩) s.env,if_pos rfl]
 refine⟨fun _ _=>trivial,?_⟩
 have:(Oper.semAt none a.eval ⟨none,.defer ⟨.value x,xs,at_⟩,ty,p,af,g⟩).run P w= .ok (.defer {target:= .fn fn ca,args:=fi++vs.toArray}) w:=by
  simp[Oper.semAt,execOp,resolve,Deferred.ofValue,s.env.eval hx,s.env.evalsA hv]
 rw[this,Oper.uponIn_defer]
 exact k _ _ ⟨⟨s.size,by simp[Act.put,s.defers],s.env⟩,s.holds⟩
def KnA:Env→Act→Prop
 | [],_=>True
 | (t,v)::l,a=>a.tmps[t]? =some v∧KnA l a
theorem KnA.knows{a:Act}:∀ {σ:Env},KnA σ a→dX σ a
 | [],_,_,_,h=>by simp[look] at h
 | (k,u)::l,⟨h1,h2⟩,t,v,h=>by
   simp only[look] at h
   by_cases e:k=t
   ·subst e;simp at h;subst h;exact h1
   ·rw[jT e] at h;exact KnA.knows h2 t v h
theorem yl{n:Nat}{K:Act→World→Prop}{X:Ext}{c:Code}{Q:Exit→Act→List Frame→World→Prop}{a:Act}{cs:List Frame}{w:World}(hs:a.tmps.size=n)(hd:a.defers=[])(hk:KnA σ a)(hw:Holds B H w)
 (h:GO B n [] σ H (cw ⟨none,none⟩ P c K X)) (hq:∀ e a' w',toQ K X e a' w'→Q e a' cs w'):c.wpS P Q a cs w:=
 wpS_of_wp ((wpIn_wide (n:=0)).1 (wpIn_mono (Cc rfl (h a w ⟨⟨hs,hd,hk.knows⟩,hw⟩)) hq))
def BK(Φ:World→Prop):Act→World→Prop:=fun a w=>a.defers=[]∧Φ w
def noX:Ext:={ret:=fun _ _=>False,pan:=fun _ _ _=>False,ex:=fun _ _ _=>False}
theorem vA{Φ:World→Prop}{e:Exit}{a:Act}{w:World}(q:toQ (BK Φ) noX e a w):e= .normal∧a.defers=[]∧Φ w:=by
 cases e<;>first | exact⟨rfl,q⟩ | exact False.elim q
theorem wq{n:Nat}{Φ:World→Prop}(h:∀ w,Holds B H w→Φ w):GO B n [] σ H (BK Φ):=fun _ w s=>⟨s.defers,h w s.holds⟩
theorem cm{t:TypeId}{z:Value}(hz:∀ w,(zeroValue t).run P w= .ok z w)(h1:aN z=true):
 Chg P B σ H ⟨d,.alloc t,ty,p,af,g⟩ (fun v H'=>∃ b,v= .pointer (some ⟨b,0,none⟩)∧H'=row b [z] t::H):=by
 have:=tW (B:=B) (σ:=σ) (H:=H) (d:=d) (ty:=ty) (p:=p) (af:=af) (g:=g) hz
 simpa only[aH h1] using this
theorem aD{t:TypeId}{z:Value}{cs:List Value}(hz:∀ w,(zeroValue t).run P w= .ok z w)(h1:z= .agg cs.toArray):
 Chg P B σ H ⟨d,.alloc t,ty,p,af,g⟩ (fun v H'=>∃ b,v= .pointer (some ⟨b,0,none⟩)∧H'=row b cs t::H):=by
 have:=tW (B:=B) (σ:=σ) (H:=H) (d:=d) (ty:=ty) (p:=p) (af:=af) (g:=g) hz
 simpa only[h1,bA] using this
theorem dA{t:TypeId}{x:Operand}{u:Value}(hx:evO σ x=some u)(h1:aN u=true):
 Chg P B σ H ⟨d,.box t x,ty,p,af,g⟩ (fun v H'=>∃ b,v= .pointer (some ⟨b,0,none⟩)∧H'=row b [u] t::H):=by
 have:=As (P:=P) (B:=B) (σ:=σ) (H:=H) (d:=d) (ty:=ty) (p:=p) (af:=af) (g:=g) (t:=t) hx
 simpa only[aH h1] using this
theorem aY{t:TypeId}{x:Operand}{cs:List Value}(hx:evO σ x=some (.agg cs.toArray)):
 Chg P B σ H ⟨d,.box t x,ty,p,af,g⟩ (fun v H'=>∃ b,v= .pointer (some ⟨b,0,none⟩)∧H'=row b cs t::H):=by
 have:=As (P:=P) (B:=B) (σ:=σ) (H:=H) (d:=d) (ty:=ty) (p:=p) (af:=af) (g:=g) (t:=t) hx
 simpa only[bA] using this
def aZ(B:World)(H:List HP)(v:Value):Ending→World→Prop:=fun e w'=>e= .returned v∧Holds B H w'
theorem aZ.ret{v:Value}{e:Ending}{w:World}(h:aZ B H v e w){Φ:Value→List HP→Prop}{Ψ:List PanicEntry→List HP→Prop}(f:Φ v H):Ret B Φ Ψ e w:=by
 obtain⟨rfl,hw⟩:=h;exact⟨H,f,hw⟩
theorem ap{n:Nat}{D:List Deferred}{ro:Cx}{K:Act→World→Prop}{X:Ext}{ops:Array Oper}{rest:List Oper}{o:Oper}{dd:Nat}{f:FuncId}{vs:Array Value}{v:Value}(hd:o.dst=some dd)(he:Ent P B σ H o f vs)
 (hs:∀ w,Holds B H w→Calls P f vs w (aZ B H v)) (hw:fD ops σ o.guard true) (hn:ke o.op=true) (hb:Nat.blt dd n=true)
 (k:GO B n D ((dd,v)::σ) H (lw ro P ops K X rest)):GO B n D σ H (lw ro P ops K X (o::rest)):=
 aQ (Φ:=fun u H'=>u=v∧H'=H) (Ψ:=fun _ _=>False) hd he (fun w hh=>(hs w hh).mono fun e w' ⟨h1,h2⟩=>by subst h1;exact⟨H,⟨rfl,rfl⟩,h2⟩) hw hn hb
  (fun _ _ ⟨h1,h2⟩=>by subst h1;subst h2;exact k) (fun _ _ h=>h.elim)
theorem bF{S:Type}{q:Nat→S→HP}{b:Nat}{s:S}{Fr:List HP}[At H q b s Fr]{f:FuncId}{vs:Array Value}{v:Value}(h:∀ Fr w,Holds B (q b s::Fr) w→Calls P f vs w (aZ B (q b s::Fr) v)):
 ∀ w,Holds B H w→Calls P f vs w (aZ B H v):=fun w hw=>(h Fr w (hw.pull q b)).mono fun _ _ ⟨h1,h2⟩=>⟨h1,h2.unpull⟩
class AtU {S:Type} (H:List HP) (q:Nat→S→HP) (b:Nat) (s:outParam S) (U:outParam (S→List HP)):Prop where
 get:∃ i,H[i]? =some (q b s)∧∀ s',U s'=H.set i (q b s')
instance AtU.head {S:Type} {q:Nat→S→HP} {b:Nat} {s:S} {l:List HP}:AtU (q b s::l) q b s (fun s'=>q b s'::l):=⟨0,rfl,fun _=>rfl⟩
instance AtU.tail {S:Type} {A:HP} {q:Nat→S→HP} {b:Nat} {s:S} {l:List HP} {U:S→List HP} [r:AtU l q b s U]:AtU (A::l) q b s (fun s'=>A::U s'):=
 ⟨let ⟨i,h1,h2⟩:=r.get;⟨i+1,by simpa using h1,fun s'=>by simp[h2]⟩⟩
theorem lp{A A':HP}:∀ (l:List HP) (i:Nat),l[i]? =some A→(l.eraseIdx i).insertIdx i A'=l.set i A'
 | [],_,h=>by simp at h
 | B::l,0,h=>by simp
 | B::l,i+1,h=>by simp at h;simp[lp l i h]
theorem Holds.upd{S:Type}{q:Nat→S→HP}{b:Nat}{s:S}{U:S→List HP}(r:AtU H q b s U):∃ Fr,(∀ w,Holds B H w→Holds B (q b s::Fr) w)∧∀ s' w,Holds B (q b s'::Fr) w→Holds B (U s') w:=by
 obtain⟨i,h1,h2⟩:=r.get
 refine⟨H.eraseIdx i,fun w hw=>hw.front i h1,fun s' w hw=> ?_⟩
 have:=hw.back i (by have:=(List.getElem?_eq_some_iff.1 h1).1;rw[List.length_eraseIdx];split<;>omega)
 rwa [h2, ←lp _ _ h1]
theorem cS{S:Type}{q:Nat→S→HP}{b:Nat}{s:S}{U:S→List HP}[r:AtU H q b s U]{f:FuncId}{vs:Array Value}{Φ:Value→S→Prop}{Ψ:List PanicEntry→S→Prop}
 (h:∀ Fr w,Holds B (q b s::Fr) w→Calls P f vs w (Ret B (fun v H'=>∃ s',Φ v s'∧H'=q b s'::Fr) (fun c H'=>∃ s',Ψ c s'∧H'=q b s'::Fr))):
 ∀ w,Holds B H w→Calls P f vs w (Ret B (fun v H'=>∃ s',Φ v s'∧H'=U s') (fun c H'=>∃ s',Ψ c s'∧H'=U s')):=by
 obtain⟨Fr,h1,h2⟩:=Holds.upd (B:=B) r
 refine fun w hw=>(h Fr w (h1 w hw)).mono fun e w' he=> ?_
 cases e with
 | returned v=>obtain⟨H',⟨s',hs,rfl⟩,hh⟩:=he;exact⟨_,⟨s',hs,rfl⟩,h2 _ _ hh⟩
 | panicked v=>obtain⟨H',⟨s',hs,rfl⟩,hh⟩:=he;exact⟨_,⟨s',hs,rfl⟩,h2 _ _ hh⟩
 | outgrown=>exact he
def old(W:World):HP:=fun h=>∀ b o,W.heap[b]? =some o→h b=some o
theorem qF(W:World):Holds W [old W] W:=
 ⟨rfl,rfl,rfl,Nat.le_refl _,fun b=>W.heap[b]?,fun _=>none,fun _=> .inr rfl,eC.refl _,fun _ _ e=>by simp at e,fun _ _ h=>h,trivial⟩
theorem Holds.old{W w:World}(h:Holds W H w)(i:Nat)(e:H[i]? =some (Go.Proofs.YtipdhkmphngmoaaGreatDoor.old W)):RowKit.Below W.heap.size W w:=by
 refine⟨h.os,h.tape,h.output,h.size,fun k hk=> ?_⟩
 obtain⟨h1,h2,d,s1,s2,ha,hl⟩:=dI i e h.sat
 have e1:W.heap[k]? =some W.heap[k]:=Array.getElem?_eq_getElem hk
 rw[e1]
 exact s1 _ _ (ha _ _ e1)
class cF (H:List HP) (B:World):Prop where
 get:∃ i:Nat,H[i]? =some (old B)
instance cF.head {B:World} {l:List HP}:cF (old B::l) B:=⟨0,rfl⟩
instance cF.tail {B:World} {A:HP} {l:List HP} [r:cF l B]:cF (A::l) B:=⟨let ⟨i,h⟩:=r.get;⟨i+1,by simpa using h⟩⟩
theorem Holds.oldb{w:World}[r:cF H B](h:Holds B H w):RowKit.Below B.heap.size B w:=let ⟨i,e⟩:=r.get;h.old i e
theorem Holds.oldcell{w:World}{a:Addr}{v:Value}[r:cF H B](h:Holds B H w)(hv:B.cell? a=some v):w.cell? a=some v:=by
 rw[h.oldb.cell (p:=a)]
 ·exact hv
 ·unfold World.cell? at hv
  cases e:B.heap[a.block]? with
  | none=>rw[e] at hv;cases hv
  | some o=>exact(Array.getElem?_eq_some_iff.1 e).1
theorem z6{t:TypeId}{x:Operand}{q:Addr}{v:Value}(ht:∀ w,(isAgg t).run P w= .ok false w)(hx:evO σ x=some (.pointer (some q)))[cF H B](hv:B.cell? q=some v):Evs P B σ H ⟨d,.load t x,ty,p,af,g⟩ v:=by
 intro a w kn hh
 have h1:=hh.oldcell hv
 simp[execOp,kn.eval hx,Instr.loadAt,Instr.sureAddr,loadVar,ht,load,Sem.run,h1]
structure vy(B:World)(a:Option Addr)(len sz:Nat)(z:Nat→List Value):Prop where
 cell:∀ i,i<len→∃ b off,a=some ⟨b,off,none⟩∧(z i).length=sz∧∀ j,j<sz→B.cell? ⟨b,off+(i*sz+j),none⟩=(z i)[j]?
theorem iW(b o n:Nat):(⟨b,o,none⟩:Addr).add n=⟨b,o+n,none⟩:=by
 unfold Addr.add;split
 ·rename_i e;rw[e];rfl
 ·rfl
theorem qY{t e:TypeId}{k:IntKind}{x y:Operand}{len cap b off sz m:Nat}{i:Int}(ht:∀ w,(underlying t).run P w= .ok (.slice e) w)(hs:∀ w,(sizeOf e).run P w= .ok sz w)(hx:evO σ x=some (.slice (some ⟨b,off,none⟩) len cap))(hy:evO σ y=some (.int k i))
 (h0:0≤i) (h1:i<len) (hm:off+i.toNat*sz=m):Evs P B σ H ⟨d,.indexAddr t x y,ty,p,af,g⟩ (.pointer (some ⟨b,m,none⟩)):=by
 intro a w kn _
 subst hm
 simp[execOp,kn.eval hx,kn.eval hy,Instr.indexAt,asIntOf,ht,hs,h0,h1,iW]
theorem bS{t:TypeId}{td:TypeDesc}{x:Operand}{a:Option Addr}{len cap:Nat}{at_:Array TypeId}(ha:at_[0]? =some t)(ht:∀ w,(underlying t).run P w= .ok td w)(htd:∃ e,td= .slice e)(hx:evO σ x=some (.slice a len cap)):
 Evs P B σ H ⟨d,.call ⟨.builtin .len, #[x],at_⟩,ty,p,af,g⟩ (.int .i64 len):=by
 obtain⟨e,rfl⟩:=htd
 intro q w kn _
 simp[execOp,resolve,invoke,builtin,Builtin.len_,ha,kn.eval hx,ht,goInt]
theorem hG{z:Int}(h: -9223372036854775808≤z∧z≤9223372036854775807):IntKind.i64.wrap z=z:=by
 simp only[IntKind.wrap,IntKind.bits,IntKind.signed];simp;omega
theorem fk{z:Int}(h:0≤z∧z≤18446744073709551615):IntKind.u64.wrap z=z:=by
 simp only[IntKind.wrap,IntKind.bits,IntKind.signed];simp;omega
theorem AI{z:Int}(h:0≤z∧z≤255):IntKind.u8.wrap z=z:=by
 simp only[IntKind.wrap,IntKind.bits,IntKind.signed];simp;omega
section
variable {P:Program} {B:World} {σ:Env} {H:List HP} {d:Option Tmp} {ty:TypeId} {p:String} {af:Array Edge} {g:Option (Nat×Bool)}
theorem aP{k:IntKind}{x y:Operand}{i j c:Int}{t u:TypeId}(hx:evO σ x=some (.int k i))(hy:evO σ y=some (.int k j))(hc:k.wrap (i+j)=c:=by first | exact hG (by omega) | exact fk (by omega) | exact AI (by omega) | rfl):Evs P B σ H ⟨d,.binOp .add t x y u,ty,p,af,g⟩ (.int k c):=iT hx hy hc
theorem fF{k:IntKind}{x y:Operand}{i j c:Int}{t u:TypeId}(hx:evO σ x=some (.int k i))(hy:evO σ y=some (.int k j))(hc:k.wrap (i - j)=c:=by first | exact hG (by omega) | exact fk (by omega) | exact AI (by omega) | rfl):Evs P B σ H ⟨d,.binOp .sub t x y u,ty,p,af,g⟩ (.int k c):=mP hx hy hc
theorem mi{k:IntKind}{x y:Operand}{i j c:Int}{t u:TypeId}(hx:evO σ x=some (.int k i))(hy:evO σ y=some (.int k j))(hc:k.wrap (i*j)=c:=by first | exact hG (by omega) | exact fk (by omega) | exact AI (by omega) | rfl):Evs P B σ H ⟨d,.binOp .mul t x y u,ty,p,af,g⟩ (.int k c):=mR hx hy hc
theorem bY{s t:TypeId}{x:Operand}{sd:TypeDesc}{k k':IntKind}{i c:Int}(hs:∀ w,(underlying s).run P w= .ok sd w)(ht:∀ w,(underlying t).run P w= .ok (.int k) w)(hx:evO σ x=some (.int k' i))(hc:k.wrap i=c:=by first | exact hG (by omega) | exact fk (by omega) | exact AI (by omega) | rfl):
 Evs P B σ H ⟨d,.convert s t x,ty,p,af,g⟩ (.int k c):=cR hs ht hx hc
end
end
section
variable {P:Program} {ops:Array Oper} {md:Region.Mode} {C:World→Prop} {ro:Cx}
def gj(ops:Array Oper):Bool:=ops.all fun o=>ke o.op
theorem mD{ops:Array Oper}(h:gj ops=true){i:Nat}{o:Oper}(ho:ops[i]? =some o):ke o.op=true:=by
 unfold gj at h
 obtain⟨hi,e⟩:=Array.getElem?_eq_some_iff.1 ho
 have:=Array.all_eq_true.1 h i hi
 rwa [e] at this
theorem pR{o:Oper}{a:Act}{K:Act→Prop}{K':Act→World→Prop}{Q':Exit→Act→World→Prop}{w:World}(hn:ke o.op=true)(hw:C w)(h:∀ a w',C w'→K a→K' a w')(hh:o.quiet P a C K):
 o.wpIn (Wd ro) 0 P a w K' Q':=by
 obtain⟨v,h1,h2⟩:=hh
 have h3:=h1 w hw
 unfold Oper.quietAt at h3
 refine⟨fun _ _=>trivial,?_⟩
 rw[fx hn]
 generalize (execOp a.eval o).run P w=r at*
 cases r with
 | ok n w'=>
   cases n<;>simp only[Oper.quietUpon] at h3<;>simp only[Oper.uponIn]
   case value u=>
    obtain⟨e1,e2⟩:=h3
    rw[e1,e2]
    exact h _ _ hw h2
   case skip=>
    obtain⟨e1,e2⟩:=h3
    rw[e1, ←e2]
    exact h _ _ hw h2
   case enter f args=>
    obtain⟨e1,hc⟩:=h3
    rw[e1]
    exact⟨fun h=>by simp at h,kI.2 (hc.mono fun e w'' ⟨he,hw''⟩=>by subst he;exact h _ _ hw'' h2)⟩
 | halt x w'=>simp only[Oper.quietUpon] at h3
theorem k9{i:Nat}{a:Act}{K:Act→Prop}{K':Act→World→Prop}{Q':Exit→Act→World→Prop}{w:World}(hnd:gj ops=true)(hC:C w)(h:∀ a w',C w'→K a→K' a w')(hh:qOp P ops C i K a):
 wpOpIn (Wd ro) 0 P ops Q' i K' a w:=by
 unfold qOp at hh
 unfold wpOpIn
 split
 ·rename_i ho;simp only[ho] at hh;exact h _ _ hC hh
 ·rename_i o ho
  simp only[ho] at hh
  split
  ·rename_i hw;simp only[hw,if_true] at hh;exact pR (mD hnd ho) hC h hh
  ·rename_i hw;simp only[hw] at hh;exact⟨fun _ _=>trivial,h _ _ hC hh⟩
theorem gn{Q:Act→Prop}{Q':Exit→Act→World→Prop}(hnd:gj ops=true)(hQ:∀ a w,C w→Q a→Q' .normal a w):∀ (fuel:Nat) (listed:Array Bool) (a:Act) (w:World),C w→
 wpAnyQ P md ops C Q fuel listed a→wpAnyIn (Wd ro) 0 P md ops Q' fuel listed a w
 | 0,_,_,_,hw,h=>⟨h.1,hQ _ _ hw h.2⟩
 | fuel+1,_,_,_,hw,h=>⟨fun h0=>hQ _ _ hw (h.1 h0),fun i hi=>k9 hnd hw (fun a' w' hw'=>gn hnd hQ fuel _ a' w' hw') (h.2 i hi)⟩
def iD(P:Program)(md:Region.Mode)(ops:Array Oper)(C:World→Prop)(n:Nat)(L:Array Bool→Act→Prop):Nat→Array Bool→Act→Prop
 | 0,listed,a=>L listed a
 | f+1,listed,a=>
   Region.ready md ops listed≠[]∧∀ i∈Region.ready md ops listed,i<n∧qOp P ops C i (iD P md ops C n L f (listed.setIfInBounds i true)) a
theorem gV{n g:Nat}{L:Array Bool→Act→Prop}{Q':Exit→Act→World→Prop}(hnd:gj ops=true)(hL:∀ listed a,L listed a→∀ w,C w→wpAnyIn (Wd ro) 0 P md ops Q' g listed a w):
 ∀ (f:Nat) (listed:Array Bool) (a:Act) (w:World),C w→iD P md ops C n L f listed a→wpAnyIn (Wd ro) 0 P md ops Q' (f+g) listed a w
 | 0,listed,a,w,hw,h=>by rw[Nat.zero_add];exact hL _ _ h w hw
 | f+1,listed,a,w,hw,h=>by
   rw[show f+1+g=(f+g)+1 by omega]
   exact⟨fun h0=>absurd h0 h.1,fun i hi=>k9 hnd hw (fun a' w' hw' h'=>gV hnd hL f _ a' w' hw' h') (h.2 i hi).2⟩
theorem pS{n i:Nat}{oi:Oper}{v:Value}{L:Array Bool→Act→Prop}(hi:ops[i]? =some oi)(hsel:∀ (j:Nat) (o:Oper) cs b,ops[j]? =some o→o.op≠ .select cs b)
 (hs:Region.sinkB md ops n=true) (hc:Region.chainB md ops n=true) (hn:n<ops.size) (hin:i<n)
 (hdone:∀ listed a,L listed a→∀ j∈Region.ready md ops listed,n≤j):
 ∀ (f:Nat) (listed:Array Bool) (a:Act),HeadInv md ops n listed→
  (∀ j oj,ops[j]? =some oj→j≠i→listed.getD j true=false→(∀ e∈oj.after,Region.binds md e=true→e.on≠i)→oi.apart ops oj=true)→
  i∈Region.ready md ops listed→YieldsIn P ops C oi v a→
  iD P md ops C n L f (listed.setIfInBounds i true) (a.put oi.dst v)→iD P md ops C n L (f+1) listed a:=by
 intro f
 induction f with
 | zero=>
   intro listed a inv _ hr hy HH
   refine⟨fun h=>(by rw[h] at hr;cases hr),fun j hj=> ?_⟩
   have hun:=(mem_ready.1 hr).1
   have hjn:j<n:=by
    rcases Nat.lt_or_ge j n with h | h
    ·exact h
    ·exact absurd hj (tail_waits hs hc hn inv _ i aa hin hun j h)
   refine⟨hjn,?_⟩
   by_cases hji:j=i
   ·subst hji;exact hy.qOp hi HH
   ·have:=hdone _ _ HH j (ready_mono hj hji)
    omega
 | succ f ih=>
   intro listed a inv hfree hr hy HH
   have hun:=(mem_ready.1 hr).1
   refine⟨fun h=>(by rw[h] at hr;cases hr),fun j hj=> ?_⟩
   have hjn:j<n:=by
    rcases Nat.lt_or_ge j n with h | h
    ·exact h
    ·exact absurd hj (tail_waits hs hc hn inv _ i aa hin hun j h)
   refine⟨hjn,?_⟩
   by_cases hji:j=i
   ·subst hji;exact hy.qOp hi HH
   ·have h1:=(HH.2 j (ready_mono hj hji)).2
    obtain⟨hjun,oj,hoj,hall⟩:=mem_ready.1 hj
    have hnot:∀ e∈oj.after,Region.binds md e=true→e.on≠i:=fun e he hb heq=>by
     have h1:=hall e he hb
     rw[heq,getD_both hun] at h1
     cases h1
    have h2:=qOp_put hoj (hfree j oj hoj hji hjun hnot) (fun cs b=>hsel i oi cs b hi) (fun cs b=>hsel j oj cs b hoj) hy h1
    have hfree':∀ k ok,ops[k]? =some ok→k≠i→(listed.setIfInBounds j true).getD k true=false→
     (∀ e∈ok.after,Region.binds md e=true→e.on≠i)→oi.apart ops ok=true:=fun k ok hk hki hun hno=>by
     refine hfree k ok hk hki ?_ hno
     by_cases hjk:j=k
     ·subst hjk;exact hjun
     ·rw[getD_set_ne true hjk] at hun;exact hun
    refine qOp_mono (fun a' h3=>ih (listed.setIfInBounds j true) a' (inv.set hj hjn) hfree' (ready_mono hr (Ne.symm hji)) h3.1 ?_) h2
    rw[Array.setIfInBounds_comm _ _ hji]
    exact h3.2
theorem j4{Q':Exit→Act→World→Prop}:∀ (l:List Oper) (k:Nat) (listed:Array Bool) (a:Act) (w:World),(∀ j,l[j]? =ops[k+j]?)→
 Region.seqB md ops l.length k listed=true→wpListIn (Wd ro) 0 P ops Q' l a w→wpAnyIn (Wd ro) 0 P md ops Q' l.length listed a w
 | [],_,_,_,_,_,hB,h=>⟨by simpa [Region.seqB] using hB,h⟩
 | o::l,k,listed,a,w,hl,hB,h=>by
   have h0:ops[k]? =some o:=by simpa using(hl 0).symm
   simp only[List.length_cons,Region.seqB,Bool.and_eq_true,decide_eq_true_eq] at hB
   refine⟨fun h1=>(by rw[hB.1] at h1;cases h1),fun i hi=> ?_⟩
   rw[hB.1] at hi
   have hik:i=k:=by simpa using hi
   subst hik
   have hw:wpOpIn (Wd ro) 0 P ops Q' i (wpListIn (Wd ro) 0 P ops Q' l) a w:=by unfold wpOpIn;simp only[h0];exact h
   exact wpOpIn_mono (fun a' w' h'=>j4 l (i+1) _ a' w' (fun j=>by have:=hl (j+1);simpa [Nat.add_assoc,Nat.add_comm 1 j] using this) hB.2 h') hw
theorem ne{n g:Nat}{Lq:Act→Prop}(hsel:Region.noSelect ops=true)(hs:Region.sinkB md ops n=true)(hc:Region.chainB md ops n=true)(hn:n<ops.size):
 ∀ (l:List Oper) (k:Nat) (listed:Array Bool) (a:Act),(∀ j,j<l.length→l[j]? =ops[k+j]?)→k+l.length=n→HeadInv md ops n listed→
 Region.lexHead md ops g l.length k listed=true→wpQuiet P ops C Lq l a→
 iD P md ops C n (fun listed' a'=>Region.seqB md ops g n listed'=true∧Lq a') l.length listed a
 | [],k,listed,a,_,hk,_,hB,h=>by
   have:k=n:=by simpa using hk
   subst this
   exact⟨by simpa [Region.lexHead] using hB,h⟩
 | o::l,k,listed,a,hl,hk,inv,hB,h=>by
   have h0:ops[k]? =some o:=by simpa using(hl 0 (by simp)).symm
   simp only[List.length_cons,Region.lexHead,Bool.and_eq_true] at hB
   obtain⟨⟨hr,hf⟩,hB'⟩:=hB
   have hkn:k<n:=by simp only[List.length_cons] at hk;omega
   have hr':k∈Region.ready md ops listed:=by simpa using hr
   have hst:qOp P ops C k (wpQuiet P ops C Lq l) a:=by unfold qOp;simp only[h0];exact h
   obtain⟨v,hy,hK⟩:=yieldsIn_of_qOp h0 hst
   exact pS h0 (Region.noSelect_spec hsel) hs hc hn hkn (fun listed' a' hL=>seqB_ready hL.1) l.length listed a inv (Region.free_spec h0 hf) hr' hy
    (ne hsel hs hc hn l (k+1) _ _ (fun j hj=>by have:=hl (j+1) (by simp;omega);simpa [Nat.add_assoc,Nat.add_comm 1 j] using this) (by simp only[List.length_cons] at hk;omega) (inv.set hr' hkn) hB' hK)
end
section
variable {B:World} {n:Nat} {D:List Deferred} {σ:Env} {H:List HP} {P:Program} {ro:Cx} {K:Act→World→Prop} {X:Ext} {ops:Array Oper} {rest:List Oper} {Kq:Act→Prop}
def QO(n:Nat)(D:List Deferred)(σ:Env)(F:Act→Prop):Prop:=∀ a,StA n D σ a→F a
abbrev qw(P:Program)(ops:Array Oper)(B:World)(H:List HP)(Kq:Act→Prop)(l:List Oper):Act→Prop:=wpQuiet P ops (Holds B H) Kq l
def atH(B:World)(H:List HP)(K:Act→World→Prop):Act→Prop:=fun a=>∀ w,Holds B H w→K a w
theorem cN{id:Nat}{l:List Oper}(hm:P.follows .mixedOrders=true)(hnd:gj l.toArray=true)(hB:Region.lexB .any l.toArray=true)
 (h:QO n D σ (qw P l.toArray B H (atH B H K) l)):GO B n D σ H (cw ro P (.region id l.toArray true) K X):=by
 intro a w s
 simp only[Region.lexB,Bool.and_eq_true] at hB
 refine kE <| wpIn_region_any hm (gn (C:=Holds B H) (Q:=atH B H K) hnd (fun a w hw q=>q w hw) _ _ _ _ (s.holds.drew _) ?_)
 have:=wpAnyQ_lex (P:=P) (C:=Holds B H) (Q:=atH B H K) (md:= .any) hB.1 l.toArray.toList 0 (Array.replicate l.toArray.size false) a (by simp) (by simpa using hB.2) (by simpa using h a s.toStA)
 simpa using this
theorem cH{id:Nat}{l:List Oper}(m:Nat)(hm:P.follows .mixedOrders=true)(hnd:gj l.toArray=true)(hB:Region.lexTailB .any l.toArray m=true)
 (h:QO n D σ (qw P l.toArray B H (atH B H (lw ro P l.toArray K X (l.drop m))) (l.take m))):GO B n D σ H (cw ro P (.region id l.toArray true) K X):=by
 intro a w s
 simp only[Region.lexTailB,Bool.and_eq_true,decide_eq_true_eq] at hB
 obtain⟨⟨⟨⟨hsel,hn⟩,hs⟩,hc⟩,hlex⟩:=hB
 have hn':m<l.length:=by simpa using hn
 have htl:(l.take m).length=m:=by simp;omega
 have hdl:(l.drop m).length=l.toArray.size - m:=by simp
 have inv0:HeadInv .any l.toArray m (Array.replicate l.toArray.size false):=
  ⟨by simp,fun j oj _ hl=>(by rw[getD_replicate_false] at hl;cases hl),fun t _ ht=>getD_in (by simpa using ht) (getD_replicate_false _ _)⟩
 have HH:=ne (P:=P) (C:=Holds B H) (md:= .any) (g:=l.toArray.size - m) hsel hs hc hn (l.take m) 0 _ a (fun j hj=>by
  have hj':j<m:=by rw[htl] at hj;exact hj
  simp[hj']) (by simpa using htl) inv0 (by rw[htl];exact hlex) (h a s.toStA)
 refine kE <| wpIn_region_any hm ?_
 have:=gV (ro:=ro) (Q':=toQ K X) (g:=l.toArray.size - m) hnd (fun listed a' hL w hw=>by
  have:=j4 (md:= .any) (ro:=ro) (P:=P) (Q':=toQ K X) (l.drop m) m listed a' w (fun j=>by simp[List.getElem?_drop]) (by rw[hdl];exact hL.1) (hL.2 w hw)
  rwa [hdl] at this) _ _ _ {w with drawn:=w.drawn+1} (s.holds.drew _) HH
 rw[htl,show m+(l.toArray.size - m)=l.toArray.size by omega] at this
 exact this
theorem bg{o:Oper}{d:Nat}{v:Value}(hd:o.dst=some d)(he:Evs P B σ H o v)(hw:fD ops σ o.guard true)(hb:Nat.blt d n=true)
 (k:QO n D ((d,v)::σ) (qw P ops B H Kq rest)):QO n D σ (qw P ops B H Kq (o::rest)):=by
 intro a s
 show(if Region.wanted o (yielded ops a.tmps) then _ else _)
 rw[hw.wanted s.env,if_pos rfl]
 refine⟨v,fun w hw=> ?_,?_⟩
 ·unfold Oper.quietAt;rw[he a w s.env hw];exact⟨rfl,rfl⟩
 ·rw[hd];exact k _ (s.put hb v)
theorem ba{o:Oper}{d:Nat}(hd:o.dst=some d)(hw:fD ops σ o.guard false)(hb:Nat.blt d n=true)(k:QO n D ((d,undef)::σ) (qw P ops B H Kq rest)):QO n D σ (qw P ops B H Kq (o::rest)):=by
 intro a s
 show(if Region.wanted o (yielded ops a.tmps) then _ else _)
 rw[hw.wanted s.env,if_neg (by simp),hd]
 exact k _ (s.put hb undef)
theorem bj{o:Oper}{d:Nat}{f:FuncId}{vs:Array Value}{v:Value}(hd:o.dst=some d)(he:Ent P B σ H o f vs)
 (hs:∀ w,Holds B H w→Calls P f vs w fun e w'=>e= .returned v∧Holds B H w') (hw:fD ops σ o.guard true) (hb:Nat.blt d n=true)
 (k:QO n D ((d,v)::σ) (qw P ops B H Kq rest)):QO n D σ (qw P ops B H Kq (o::rest)):=by
 intro a s
 show(if Region.wanted o (yielded ops a.tmps) then _ else _)
 rw[hw.wanted s.env,if_pos rfl]
 refine⟨v,fun w hw=> ?_,?_⟩
 ·unfold Oper.quietAt;rw[he a w s.env hw];exact⟨rfl,hs w hw⟩
 ·rw[hd];exact k _ (s.put hb v)
theorem bM(k:GO B n D σ H K):QO n D σ (qw P ops B H (atH B H K) []):=fun a s w hw=>k a w ⟨s,hw⟩
theorem B9{σ':Env}(k:Nat){l:List Oper}(h1:QO n D σ (qw P ops B H (fun a=>StA n D σ' a) (l.take k)))(h2:QO n D σ' (qw P ops B H Kq (l.drop k))):QO n D σ (qw P ops B H Kq l):=by
 have key:∀ (l₁ l₂ :List Oper) a,qw P ops B H (fun a=>StA n D σ' a) l₁ a→QO n D σ' (qw P ops B H Kq l₂)→qw P ops B H Kq (l₁ ++l₂) a:=by
  intro l₁
  induction l₁ with
  | nil=>intro l₂ a h g;exact g a h
  | cons o l₁ ih=>
    intro l₂ a h g
    simp only[qw,List.cons_append,wpQuiet] at h ⊢
    split
    ·rename_i hw;rw[if_pos hw] at h
     obtain⟨v,q1,q2⟩:=h
     exact⟨v,q1,ih l₂ _ q2 g⟩
    ·rename_i hw;rw[if_neg hw] at h;exact ih l₂ _ h g
 intro a s
 have:=key (l.take k) (l.drop k) a (h1 a s) h2
 rwa [List.take_append_drop] at this
theorem nl{c y:Bool}{t tp:Nat}{σ1:Env}(k:Nat){l:List Oper}(hc:look σ t=some (.bool c))(_hs:lE σ1 σ)
 (h1:c=true→QO n D σ (qw P ops B H (fun a=>StA n D ((tp,.bool (c&&y))::σ1) a) (l.take k)))
 (h0:c=false→QO n D σ (qw P ops B H (fun a=>StA n D ((tp,.bool (c&&y))::σ1) a) (l.take k)))
 (h2:QO n D ((tp,.bool (c&&y))::σ1) (qw P ops B H Kq (l.drop k))):QO n D σ (qw P ops B H Kq l):=by
 refine B9 k ?_ h2
 cases hcc:c with
 | true=>subst hcc;exact h1 aa
 | false=>subst hcc;exact h0 aa
theorem CB{c y:Bool}{t tp:Nat}{σ1:Env}(k:Nat){l:List Oper}(hc:look σ t=some (.bool c))(_hs:lE σ1 σ)
 (h1:c=false→QO n D σ (qw P ops B H (fun a=>StA n D ((tp,.bool (c||y))::σ1) a) (l.take k)))
 (h0:c=true→QO n D σ (qw P ops B H (fun a=>StA n D ((tp,.bool (c||y))::σ1) a) (l.take k)))
 (h2:QO n D ((tp,.bool (c||y))::σ1) (qw P ops B H Kq (l.drop k))):QO n D σ (qw P ops B H Kq l):=by
 refine B9 k ?_ h2
 cases hcc:c with
 | true=>subst hcc;exact h0 aa
 | false=>subst hcc;exact h1 aa
theorem fp{tp:Nat}{r y:Bool}{σ1:Env}(h:look σ tp=some (.bool y))(hs:lE σ1 σ)(e:y=r):QO n D σ (qw P ops B H (fun a=>StA n D ((tp,.bool r)::σ1) a) []):=by
 subst e;exact fun _ s=>s.sub fun _ _=>lE.look (σ':=(tp,.bool y)::σ1) ⟨h,hs⟩
end
end Go.Proofs.YtipdhkmphngmoaaGreatDoor
