/- Part of a law's texts. Conditions: none. -/
import Derived.Test.YtoakdoeajpjgkaaGreatDoorQL18Wn
import Derived.LaidLaws
import Derived.Lib.LaidTab
import Derived.Stop.LaidErr
import Derived.Shelf.Vars
import Derived.MakeChecks
import Derived.ChangeSame
import Derived.Deep.Slices
import Derived.SizedLaws
import Derived.Stop.Joined
import Derived.Lay
import Derived.JoinedOf
open Go.Proofs.Tryz
set_option linter.all false
namespace Go.Proofs.YtoakdoeajpjgkaaGreatDoor
open Go
structure kE(s:Dev):Prop where
 lim:s.pow.lim<0
 q:s.q=fun _=>none
theorem Dd{s:Dev}{i:Nat}(hq:s.q=fun _=>none):(s.up.fl i).up.fe.now=s.now∧(s.up.fl i).up.fe.q=(fun _=>none)∧(s.up.fl i).up.fe.n=s.n∧∀ x,(s.up.fl i).up.fe.kept x=if x / 8=i / 8 then s.now x else s.kept x:=by
 refine⟨rfl,rfl,rfl,fun x=> ?_⟩
 have h:=oH s i x
 rw[show s.pk x=s.kept x by simp only[Dev.pk,eI,hq]] at h
 exact h
@[irreducible] def Dev.sv (s:Dev) (i:Nat) (v:Int):Dev:=s.up.st i v
@[irreducible] def Dev.ff (s:Dev) (i:Nat):Dev:=(s.up.fl i).up.fe
theorem kF{α:Type}{s:Dev}{i v:Int}{k:Int→Dev→Out α}(h:s.pow.lim<0)(hi:0≤i∧i<s.n):(s.store i v).then k=k 0 (s.sv i.toNat v):=by rw[lM h hi,aR];unfold Dev.sv;rfl
theorem rC{α:Type}{s:Dev}{i:Int}{k:Unit→Dev→Out α}(h:s.pow.lim<0)(hi:0≤i∧i<s.n):((s.flush i).then fun _ s=>s.fence.then k)=k () (s.ff i.toNat):=by rw[pm h hi,aR,l3 (s:=s.up.fl i.toNat) h,aR];unfold Dev.ff;rfl
theorem gr(s:Dev)(i:Nat)(v:Int):(s.sv i v).pow.lim=s.pow.lim:=by unfold Dev.sv;rfl
theorem lL(s:Dev)(i:Nat)(v:Int):(s.sv i v).n=s.n:=by unfold Dev.sv;rfl
theorem wW(s:Dev)(i:Nat)(v:Int):(s.sv i v).q=s.q:=by unfold Dev.sv;rfl
theorem ef(s:Dev)(i:Nat)(v:Int):(s.sv i v).now=upd s.now i v:=by unfold Dev.sv;rfl
theorem kG(s:Dev)(i:Nat)(v:Int):(s.sv i v).kept=s.kept:=by unfold Dev.sv;rfl
theorem rE(s:Dev)(i:Nat):(s.ff i).pow.lim=s.pow.lim:=by unfold Dev.ff;rfl
theorem Bc(s:Dev)(i:Nat):(s.ff i).n=s.n:=by unfold Dev.ff;rfl
theorem Cz(s:Dev)(i:Nat):(s.ff i).q=fun _=>none:=by unfold Dev.ff;rfl
theorem rD(s:Dev)(i:Nat):(s.ff i).now=s.now:=by unfold Dev.ff;rfl
theorem rF{s:Dev}{i:Nat}(hq:s.q=fun _=>none)(x:Nat):(s.ff i).kept x=if x / 8=i / 8 then s.now x else s.kept x:=by unfold Dev.ff;exact(Dd hq).2.2.2 x
theorem x5{L:bK}{s:Dev}{i:Int}(hL:dE L)(hs:kE s)(hi:0≤i∧i<s.n)(hc:L.c.active≤s.n)(hn:L.n<L.c.log){r:Nat}(hr:(r:Int)=L.c.record L.n):
 ∃ s',L.append s i= .ok (0,{L with n:=L.n+1}) s'∧kE s'∧s'.n=s.n∧s'.now=upd (upd (upd s.now (r+1) i) (r+2) (upd s.now (r+1) i i.toNat)) r (gt L.epoch L.n)∧∀ x,s'.kept x=if x / 8=r / 8 then s'.now x else s.kept x:=by
 have hact:=hL.c.act
 have h0:=hL.n1
 have hr':(r:Int)=16+4*L.n:=hr
 have b0:0≤L.c.record L.n∧L.c.record L.n+3<s.n:=by rw[←hr];omega
 have e0:(L.c.record L.n).toNat=r:=by omega
 have e1:(L.c.record L.n+1).toNat=r+1:=by omega
 have e2:(L.c.record L.n+2).toNat=r+2:=by omega
 have hl:=hs.lim
 have hld:∀ v,(s.sv (r+1) v).load i=upd s.now (r+1) v i.toNat:=fun v=>by
  have:(s.sv (r+1) v).has i=true:=by simp[Dev.has,hi,lL]
  simp only[Dev.load,this,if_true,ef]
 unfold bK.append
 rw[if_neg (by omega),if_neg (by omega)]
 rw[kF hl (by omega),e1,hld]
 rw[kF (by rw[gr];exact hl) (by rw[lL];omega),e2]
 rw[rC (by rw[gr,gr];exact hl) (by rw[lL,lL];omega),e0]
 rw[kF (by rw[rE,gr,gr];exact hl) (by rw[Bc,lL,lL];omega),e0]
 rw[rC (by rw[gr,rE,gr,gr];exact hl) (by rw[lL,Bc,lL,lL];omega),e0]
 refine⟨_,rfl,⟨by simp only[rE,gr];exact hl,by rw[Cz]⟩,by simp only[Bc,lL],by simp only[rD,ef],fun x=> ?_⟩
 rw[rF (by rw[wW,Cz]),rD,kG,rF (by rw[wW,wW,hs.q]),kG,kG]
 split<;>rfl
@[irreducible] def Dev.fq (s:Dev) (i:Nat):Dev:=s.up.fl i
@[irreducible] def Dev.fn (s:Dev):Dev:=s.up.fe
theorem A6{α:Type}{s:Dev}{i:Int}{k:Int→Dev→Out α}(h:s.pow.lim<0)(hi:0≤i∧i<s.n):(s.flush i).then k=k 0 (s.fq i.toNat):=by rw[pm h hi,aR];unfold Dev.fq;rfl
theorem A7{α:Type}{s:Dev}{k:Unit→Dev→Out α}(h:s.pow.lim<0):s.fence.then k=k () s.fn:=by rw[l3 h,aR];unfold Dev.fn;rfl
theorem Cv(s:Dev)(i:Nat):(s.fq i).pow.lim=s.pow.lim:=by unfold Dev.fq;rfl
theorem Da(s:Dev)(i:Nat):(s.fq i).n=s.n:=by unfold Dev.fq;rfl
theorem zo(s:Dev)(i:Nat):(s.fq i).now=s.now:=by unfold Dev.fq;rfl
theorem C9(s:Dev)(i x:Nat):(s.fq i).pk x=if x / 8=i / 8 then s.now x else s.pk x:=by unfold Dev.fq;exact oH s i x
theorem Cw(s:Dev):s.fn.pow.lim=s.pow.lim:=by unfold Dev.fn;rfl
theorem Db(s:Dev):s.fn.n=s.n:=by unfold Dev.fn;rfl
theorem zq(s:Dev):s.fn.now=s.now:=by unfold Dev.fn;rfl
theorem DE(s:Dev):s.fn.q=fun _=>none:=by unfold Dev.fn;rfl
theorem A8(s:Dev)(x:Nat):s.fn.kept x=s.pk x:=by unfold Dev.fn;rfl
theorem yn{s:Dev}(h:s.q=fun _=>none)(x:Nat):s.pk x=s.kept x:=by simp only[Dev.pk,eI,h]
theorem kb{s:Dev}{i:Int}{k:Nat}(h:(k:Int)=i)(hk:k<s.n):s.load i=s.now k:=by
 subst h
 have:s.has (k:Int)=true:=by simp[Dev.has,hk]
 simp only[Dev.load,this,if_true,Int.toNat_natCast]
theorem yh{L:bK}{s:Dev}(hl:s.pow.lim<0)(hn:16≤s.n)(h0:L.n≠0):L.truncate s= .ok {L with epoch:=(L.epoch+1)%4294967296,n:=0} ((s.sv 8 ((L.epoch+1)%4294967296)).ff 8):=by
 unfold bK.truncate
 rw[if_neg h0,kF hl (by omega)]
 rw[rC (by rw[gr];exact hl) (by rw[lL];omega)]
 rfl
theorem nj:∀ (ks:List Int) (s:Dev),s.pow.lim<0→(∀ k∈ks,0≤k∧k*8<s.n)→
 ∃ s',dy ks s= .ok () s'∧s'.pow.lim<0∧s'.n=s.n∧s'.now=s.now∧∀ x,s'.pk x=if ((x / 8:Nat):Int)∈ks then s.now x else s.pk x
 | [],s,hl,_=>⟨s,rfl,hl,rfl,rfl,fun x=>by rw[if_neg (by simp)]⟩
 | k::ks,s,hl,hk=>by
   obtain⟨k1,k2⟩:=hk k (by simp)
   have e:dy (k::ks) s=dy ks (s.fq (k*8).toNat):=by
    simp only[dy]
    rw[A6 hl (by omega)]
   rw[e]
   obtain⟨s',e1,e2,e3,e4,e5⟩:=nj ks (s.fq (k*8).toNat) (by rw[Cv];exact hl) (fun j hj=>by rw[Da];exact hk j (by simp[hj]))
   refine⟨s',e1,e2,by rw[e3,Da],by rw[e4,zo],fun x=> ?_⟩
   rw[e5,zo,C9]
   by_cases h1:((x / 8:Nat):Int)∈ks
   ·rw[if_pos h1,if_pos (List.mem_cons_of_mem _ h1)]
   ·rw[if_neg h1]
    by_cases h2:x / 8=(k*8).toNat / 8
    ·rw[if_pos h2,if_pos]
     have:((x / 8:Nat):Int)=k:=by omega
     rw[this];exact List.mem_cons_self
    ·rw[if_neg h2,if_neg]
     have:((x / 8:Nat):Int)≠k:=by omega
     exact fun h=>(List.mem_cons.1 h).elim this h1
def bK.shut(L:bK):bK:=if L.n=0 then L else {L with epoch:=(L.epoch+1)%4294967296,n:=0}
def bK.shutNow(L:bK)(f:Nat→Int):Nat→Int:=if L.n=0 then f else upd f 8 ((L.epoch+1)%4294967296)
theorem mZ{L:bK}{s:Dev}(hs:kE s)(hn:16≤s.n):∃ s',L.truncate s= .ok L.shut s'∧kE s'∧s'.n=s.n∧s'.now=L.shutNow s.now∧(s.kept=s.now→s'.kept=s'.now):=by
 by_cases h0:L.n=0
 ·refine⟨s,?_,hs,rfl,?_,fun h=>h⟩
  ·unfold bK.truncate bK.shut;rw[if_pos h0,if_pos h0]
  ·unfold bK.shutNow;rw[if_pos h0]
 ·refine⟨_,yh hs.lim hn h0 |>.trans (by unfold bK.shut;rw[if_neg h0]),⟨by rw[rE,gr];exact hs.lim,Cz _ _⟩,by rw[Bc,lL],by unfold bK.shutNow;rw[if_neg h0,rD,ef],fun hk=>funext fun x=> ?_⟩
  rw[rF (by rw[wW,hs.q]),rD,ef,kG]
  by_cases c:x / 8=8 / 8
  ·rw[if_pos c]
  ·rw[if_neg c,hk];simp only[upd];rw[if_neg (by omega)]
theorem rO{S:bC}{s:Dev}(hs:kE s)(hn:16≤s.n)(hd:∀ k∈S.dirty.map Prod.fst,0≤k∧k*8<s.n):
 ∃ s',S.commit s= .ok {S with L:=S.L.shut} s'∧kE s'∧s'.n=s.n∧s'.now=S.L.shutNow s.now∧((∀ x,((x / 8:Nat):Int)∉S.dirty.map Prod.fst→s.kept x=s.now x)→s'.kept=s'.now):=by
 have hmem:∀ k,k∈cf (S.dirty.map Prod.fst)↔k∈S.dirty.map Prod.fst:=fun k=>List.mem_mergeSort
 obtain⟨s1,e1,e2,e3,e4,e5⟩:=nj (cf (S.dirty.map Prod.fst)) s hs.lim (fun k h=>hd k ((hmem k).1 h))
 have hpk:(∀ x,((x / 8:Nat):Int)∉S.dirty.map Prod.fst→s.kept x=s.now x)→∀ x,s1.pk x=s.now x:=fun hk x=>by
  rw[e5]
  by_cases c:((x / 8:Nat):Int)∈S.dirty.map Prod.fst
  ·rw[if_pos ((hmem _).2 c)]
  ·rw[if_neg (fun h=>c ((hmem _).1 h)),yn hs.q,hk x c]
 unfold bC.commit
 rw[e1,aR]
 by_cases c:0<S.dirty.length
 ·rw[if_pos c,A7 e2]
  obtain⟨s',f1,f2,f4,f5,f6⟩:=mZ (L:=S.L) (s:=s1.fn) ⟨by rw[Cw];exact e2,DE _⟩ (by rw[Db,e3];exact hn)
  exact⟨s',by rw[f1,aR],f2,by rw[f4,Db,e3],by rw[f5,zq,e4],fun hk=>f6 (funext fun x=>by rw[A8,zq,hpk hk,e4])⟩
 ·have hd0:S.dirty=[]:=List.length_eq_zero_iff.1 (by omega)
  have hs1:s1=s:=by
   rw[hd0] at e1
   simp[cf,dy] at e1
   exact e1.symm
  subst hs1
  rw[if_neg c,aR]
  obtain⟨s',f1,f2,f4,f5,f6⟩:=mZ (L:=S.L) (s:=s1) hs hn
  exact⟨s',by rw[f1,aR],f2,f4,f5,fun hk=>f6 (funext fun x=>hk x (by rw[hd0];simp))⟩
def uj(L:bK)(s:Dev):Prop:=s.now 8=L.epoch∧s.now 16≠gt L.epoch 0
structure In(kp:Prop)(c:Cfg)(N:Nat)(old:Nat→Int)(js:List Nat)(S:bC)(s:Dev):Prop where
 still:kE s
 n:s.n=N
 hN:(N:Int)=c.words
 hc:S.L.c=c
 logw:dE S.L
 ln:S.L.n=js.length
 seen:∀ i:Int,(bJ S.seen i).isSome=true↔∃ j∈js,(j:Int)=i
 recs:∀ k (h:k<js.length),s.now (16+4*k+1)=js[k]∧s.now (16+4*k+2)=old js[k]∧c.active≤js[k]∧js[k]<N
 same:∀ x,x∉js→c.active≤x→¬(S.ff≤x∧(x:Int)<S.ft)→s.now x=old x
 keep:kp→∀ x,((x / 8:Nat):Int)∉S.dirty.map Prod.fst→s.kept x=s.now x
 dirty:∀ k∈S.dirty.map Prod.fst,c.active≤k*8∧k*8<N
 nd:(S.dirty.map Prod.fst).Nodup
 out:∀ j∈js,(j:Int)<S.ff∨S.ft≤j
 jnd:js.Nodup
 ep:s.now 8=S.L.epoch
 st:(js=[]∧s.now 16≠gt S.L.epoch 0)∨(js≠[]∧s.now 16=gt S.L.epoch 0)
theorem za{kp:Prop}{c:Cfg}{N:Nat}{S:bC}{s:Dev}{f t:Int}(hs:kE s)(hk:kp→s.kept=s.now)(hn:s.n=N)(hN:(N:Int)=c.words)(hc:S.L.c=c)(hL:dE S.L)(h0:S.L.n=0)(h1:uj S.L s):In kp c N s.now [] {S with ff:=f,ft:=t,seen:=[],dirty:=[]} s:=
 ⟨hs,hn,hN,hc,hL,h0,fun i=>by simp[bJ],fun k h=>absurd h (Nat.not_lt_zero _),fun _ _ _ _=>rfl,fun h x _=>by rw[hk h],fun k h=>by simp at h,by simp,fun j h=>by simp at h,by simp,h1.1,.inl ⟨rfl,h1.2⟩⟩
theorem ux{L:bK}{f:Nat→Int}{s:Dev}(hL:dE L)(he:f 8=L.epoch)(hs:(L.n=0∧f 16≠gt L.epoch 0)∨(L.n≠0∧f 16=gt L.epoch 0))(hn:s.now=L.shutNow f):uj L.shut s:=by
 have e1:=hL.e1
 have e2:=hL.e2
 unfold uj
 rw[hn]
 unfold bK.shutNow bK.shut
 by_cases h0:L.n=0
 ·rw[if_pos h0,if_pos h0]
  rcases hs with ⟨_,h⟩ | ⟨h,_⟩
  ·exact⟨he,h⟩
  ·exact absurd h0 h
 ·rw[if_neg h0,if_neg h0]
  rcases hs with ⟨h,_⟩ | ⟨_,h⟩
  ·exact absurd h h0
  ·refine⟨by simp only[upd,if_true],?_⟩
   simp only[upd]
   rw[if_neg (by decide),h]
   simp only[gt]
   omega
theorem xx{kp:Prop}{c:Cfg}{N:Nat}{old:Nat→Int}{js:List Nat}{S:bC}{s:Dev}(h:In kp c N old js S s)(hc:bx c):
 ∃ s',S.commit s= .ok {S with L:=S.L.shut} s'∧kE s'∧s'.n=N∧s'.now=S.L.shutNow s.now∧(kp→Aq s')∧uj S.L.shut s':=by
 have hw:=words_b hc
 have hact:=hc.act
 have:=h.hN
 have:=hc.r1
 have:=hc.l1
 obtain⟨s',e1,e2,e4,e5,e6⟩:=rO (S:=S) h.still (by rw[h.n];omega) (fun k hk=>by have:=h.dirty k hk;rw[h.n];omega)
 refine⟨s',e1,e2,by rw[e4,h.n],e5,fun hk=>⟨e6 (h.keep hk),e2.q⟩,ux h.logw h.ep ?_ e5⟩
 rcases h.st with ⟨h1,h2⟩ | ⟨h1,h2⟩
 ·exact .inl ⟨by rw[h.ln,h1];rfl,h2⟩
 ·exact .inr ⟨by rw[h.ln];have:=List.length_pos_iff.2 h1;omega,h2⟩
theorem hJ{α:Type}{k k':Int}{a:α}:∀ {l:List (Int×α)},k'∈(mset l k a).map Prod.fst↔k'=k∨k'∈l.map Prod.fst
 | []=>by simp[mset]
 | p::l=>by
   simp only[mset]
   split
   ·rename_i h
    simp only[List.map_cons,List.mem_cons,h]
    constructor
    ·rintro(h1 | h1)
     ·exact .inl h1
     ·exact .inr (.inr h1)
    ·rintro(h1 | h1 | h1)
     ·exact .inl h1
     ·exact .inl h1
     ·exact .inr h1
   ·simp only[List.map_cons,List.mem_cons,hJ (l:=l)]
    constructor
    ·rintro(h1 | h1 | h1)
     ·exact .inr (.inl h1)
     ·exact .inl h1
     ·exact .inr (.inr h1)
    ·rintro(h1 | h1 | h1)
     ·exact .inr (.inl h1)
     ·exact .inl h1
     ·exact .inr (.inr h1)
theorem j7{α:Type}{k:Int}{a:α}:∀ {l:List (Int×α)},(l.map Prod.fst).Nodup→((mset l k a).map Prod.fst).Nodup
 | [],_=>by simp[mset]
 | p::l,h=>by
   rw[List.map_cons,List.nodup_cons] at h
   simp only[mset]
   split
   ·rename_i e;subst e;rw[List.map_cons,List.nodup_cons];exact h
   ·rename_i e
    rw[List.map_cons,List.nodup_cons]
    refine⟨fun hm=> ?_,j7 h.2⟩
    rcases hJ.1 hm with h1 | h1
    ·exact e h1
    ·exact h.1 h1
theorem zc{kp:Prop}{c:Cfg}{N:Nat}{old:Nat→Int}{js:List Nat}{S:bC}{s:Dev}(h:In kp c N old js S s)(hc:bx c){i:Nat}(v:Int)(hi:c.active≤i∧i<N)(hno:i∈js∨(S.ff≤i∧(i:Int)<S.ft)):
 S.store s i v= .ok (0,{S with dirty:=mset S.dirty ((i:Int) / 8) ()}) (s.sv i v)∧In kp c N old js {S with dirty:=mset S.dirty ((i:Int) / 8) ()} (s.sv i v):=by
 have hact:=hc.act
 have hn:=h.n
 refine⟨?_,⟨⟨by rw[gr];exact h.still.lim,by rw[wW];exact h.still.q⟩,by rw[lL,hn],h.hN,h.hc,h.logw,h.ln,h.seen,fun k hk=> ?_,fun x hx hx1 hx2=> ?_,fun hkp x hx=> ?_,fun k hk=> ?_,j7 h.nd,h.out,h.jnd,?_,?_⟩⟩
 ·rw[jt (by rw[h.hc];omega),kF h.still.lim (by omega)]
  ·rfl
  ·rintro⟨q1,q2⟩
   rcases hno with h1 | h1
   ·rw[(h.seen i).2 ⟨i,h1,rfl⟩] at q1;cases q1
   ·omega
 ·obtain⟨r1,r2,r3,r4⟩:=h.recs k hk
  have hkl:(k:Int)<c.log:=by
   have:=h.logw.n2
   rw[h.hc,h.ln] at this;omega
  rw[ef]
  simp only[upd]
  rw[if_neg (by omega),if_neg (by omega)]
  exact⟨r1,r2,r3,r4⟩
 ·rw[ef]
  simp only[upd]
  rw[if_neg]
  ·exact h.same x hx hx1 hx2
  ·intro e;subst e
   rcases hno with h1 | h1
   ·exact hx h1
   ·exact hx2 h1
 ·rw[hJ] at hx
  rw[ef,kG]
  simp only[upd]
  rw[if_neg (by intro e;subst e;exact hx (.inl (by omega)))]
  exact h.keep hkp x fun hd=>hx (.inr hd)
 ·rcases hJ.1 hk with e | e
  ·subst e;omega
  ·exact h.dirty k e
 ·have:=hc.l1;have:=hc.r1
  rw[ef];simp only[upd];rw[if_neg (by omega)];exact h.ep
 ·have:=hc.l1;have:=hc.r1
  rw[ef];simp only[upd];rw[if_neg (by omega)];exact h.st
theorem y9{kp:Prop}{c:Cfg}{N:Nat}{old:Nat→Int}{js:List Nat}{S:bC}{s:Dev}(h:In kp c N old js S s)(hc:bx c){i:Nat}(v:Int)(hi:c.active≤i∧i<N)(hno:i∉js)(hf:¬(S.ff≤i∧(i:Int)<S.ft))(hroom:(js.length:Int)<c.log):
 ∃ s',S.store s i v= .ok (0,{S with L:={S.L with n:=S.L.n+1},seen:=mset S.seen i (),dirty:=mset S.dirty ((i:Int) / 8) ()}) s'∧In kp c N old (js++[i]) {S with L:={S.L with n:=S.L.n+1},seen:=mset S.seen i (),dirty:=mset S.dirty ((i:Int) / 8) ()} s'∧s'.now i=v∧∀ x:Nat,c.active≤x→x≠i→s'.now x=s.now x:=by
 have hact:=hc.act
 have hn:=h.n
 have hln:=h.ln
 have hcc:=h.hc
 have hN:=h.hN
 have hlt:=hi
 obtain⟨s1,e1,e2,e3,e4,e5⟩:=x5 (L:=S.L) (s:=s) (i:=i) (r:=16+4*js.length) h.logw h.still (by omega) (by rw[hcc];omega) (by rw[hcc];omega) (by rw[hln];simp only[Cfg.record];omega)
 have hns:(bJ S.seen i).isSome=false:=by
  cases hm:(bJ S.seen (i:Int)).isSome with
  | false=>rfl
  | true=>obtain⟨j,hj,e⟩:=(h.seen i).1 hm;exact absurd (by rwa [show j=i by omega] at hj) hno
 have hnow:∀ x,x≠16+4*js.length→x≠16+4*js.length+1→x≠16+4*js.length+2→s1.now x=s.now x:=fun x h1 h2 h3=>by
  rw[e4];simp only[upd];rw[if_neg h1,if_neg h3,if_neg h2]
 refine⟨s1.sv i v,?_,⟨⟨by rw[gr];exact e2.lim,by rw[wW];exact e2.q⟩,by rw[lL,e3,hn],hN,hcc,⟨h.logw.c,h.logw.e1,h.logw.e2,?_,?_⟩,?_,fun x=> ?_,fun k hk=> ?_,fun x hx hx1 hx2=> ?_,fun hkp x hx=> ?_,fun k hk=> ?_,j7 h.nd,fun j hj=> ?_,List.nodup_append.2 ⟨h.jnd,by simp,fun a ha b hb=>by simp at hb;subst hb;rintro rfl;exact hno ha⟩,?_,.inr ⟨by simp,?_⟩⟩,?_,fun x hx hx1=> ?_⟩
 ·unfold bC.store
  rw[if_neg (by rw[hcc];omega),if_pos ⟨hns,by omega⟩,e1,aR]
  simp only[ne_eq,not_true_eq_false,if_false]
  rw[kF e2.lim (by rw[e3];omega)]
  rfl
 ·show 0≤S.L.n+1
  omega
 ·show S.L.n+1≤S.L.c.log
  rw[hcc];omega
 ·show S.L.n+1=_
  rw[List.length_append,hln];simp
 ·rw[iZ]
  by_cases c1:x=i
  ·rw[if_pos c1];simp[c1]
  ·rw[if_neg c1,h.seen x]
   constructor
   ·rintro⟨j,hj,e⟩;exact⟨j,List.mem_append_left _ hj,e⟩
   ·rintro⟨j,hj,e⟩
    rcases List.mem_append.1 hj with h1 | h1
    ·exact⟨j,h1,e⟩
    ·have:j=i:=by simpa using h1
     subst this;exact absurd e.symm c1
 ·rw[ef]
  simp only[upd]
  rw[List.length_append,List.length_singleton] at hk
  rw[if_neg (by omega),if_neg (by omega)]
  by_cases c1:k<js.length
  ·obtain⟨r1,r2,r3,r4⟩:=h.recs k c1
   rw[hnow _ (by omega) (by omega) (by omega),hnow _ (by omega) (by omega) (by omega)]
   simp only[List.getElem_append_left c1]
   exact⟨r1,r2,r3,r4⟩
  ·have:k=js.length:=by omega
   subst this
   simp only[List.getElem_concat_length]
   refine⟨?_,?_,hi.1,hi.2⟩
   ·rw[e4];simp only[upd];rw[if_neg (by omega),if_neg (by omega)];simp only[if_true]
   ·rw[e4];simp only[upd,Int.toNat_natCast];rw[if_neg (by omega)];simp only[if_true];rw[if_neg (by omega)]
    exact h.same i hno hi.1 hf
 ·have h1:x∉js:=fun hh=>hx (List.mem_append_left _ hh)
  have h2:x≠i:=fun e=>hx (by simp[e])
  rw[ef];simp only[upd]
  rw[if_neg h2,hnow _ (by omega) (by omega) (by omega)]
  exact h.same x h1 hx1 hx2
 ·rw[hJ] at hx
  rw[ef,kG]
  simp only[upd]
  rw[if_neg (by intro e;subst e;exact hx (.inl (by omega))),e5]
  by_cases c1:x / 8=(16+4*js.length) / 8
  ·rw[if_pos c1]
  ·rw[if_neg c1,hnow _ (by omega) (by omega) (by omega)]
   exact h.keep hkp x fun hd=>hx (.inr hd)
 ·rcases hJ.1 hk with e | e
  ·subst e;omega
  ·exact h.dirty k e
 ·rcases List.mem_append.1 hj with h1 | h1
  ·exact h.out j h1
  ·have:j=i:=by simpa using h1
   subst this
   show(j:Int)<S.ff∨S.ft≤j
   omega
 ·have:=hc.l1;have:=hc.r1
  rw[ef];simp only[upd];rw[if_neg (by omega),hnow _ (by omega) (by omega) (by omega)];exact h.ep
 ·have:=hc.l1;have:=hc.r1
  rw[ef];simp only[upd];rw[if_neg (by omega)]
  rcases h.st with ⟨h1,_⟩ | ⟨h1,h2⟩
  ·rw[e4,hln,h1];simp only[upd,List.length_nil];rfl
  ·have:=List.length_pos_iff.2 h1
   rw[hnow _ (by omega) (by omega) (by omega)];exact h2
 ·rw[ef];simp only[upd,if_pos]
 ·rw[ef];simp only[upd];rw[if_neg hx1,hnow _ (by omega) (by omega) (by omega)]
theorem jl{c:Cfg}(hc:bx c):24≤c.active∧c.active<c.words∧c.words≤20000:=by
 have h1:=hc.act
 have h2:=words_b hc
 have:=hc.r1
 have:=hc.l1
 have h3:=fT (n:=c.root c.roots) (by simp only[Cfg.root];omega)
 have h4:=fT (n:=c.space) (by have:=hc.s1;omega)
 have:=hc.s1
 refine⟨by omega,?_,by omega⟩
 simp only[Cfg.words,Cfg.frm,Cfg.root] at*
 omega
theorem B6{L:bK}(h:dE L):dE L.shut∧L.shut.n=0∧L.shut.c=L.c∧L.shut.d=L.d:=by
 have:=h.c.l1
 have:=h.c.r1
 unfold bK.shut
 by_cases c:L.n=0
 ·rw[if_pos c];exact⟨h,c,rfl,rfl⟩
 ·rw[if_neg c]
  exact⟨⟨h.c,by show 0≤(L.epoch+1)%4294967296;omega,by show(L.epoch+1)%4294967296<4294967296;omega,show(0:Int)≤0 by decide,by show(0:Int)≤L.c.log;omega⟩,rfl,rfl,rfl⟩
theorem oe{L:bK}{f:Nat→Int}{x:Nat}(hx:x≠8):L.shutNow f x=f x:=by
 unfold bK.shutNow;split
 ·rfl
 ·simp only[upd];rw[if_neg hx]
theorem wg{kp:Prop}{c:Cfg}{N:Nat}{old:Nat→Int}{js:List Nat}{S:bC}{s:Dev}(h:In kp c N old js S s)(hc:bx c)(hN:N≤1000000):lE S:=⟨h.logw,fun p hp=>by
 have:=h.dirty p.1 (List.mem_map_of_mem hp)
 have:=hc.act
 have:=hc.r1
 have:=hc.l1
 omega⟩
theorem xI{kp:Prop}{c:Cfg}{N:Nat}{old:Nat→Int}{js:List Nat}{S:bC}{s:Dev}(h:In kp c N old js S s)(hc:bx c)(hN:N≤1000000):S.dirty.length≤1000000:=by
 have hact:=hc.act
 have:=hc.r1
 have:=hc.l1
 have h1:=sT (d:=S.dirty.map Prod.fst) (l:=(List.range 1000000).map fun (i:Nat)=>(i:Int)) h.nd fun x hx=>by
  have:=h.dirty x hx
  exact List.mem_map.2 ⟨x.toNat,List.mem_range.2 (by omega),by omega⟩
 simpa using h1
structure SK(c:Cfg)(N bd:Nat)(S:bC)(s:Dev):Prop where
 still:kE s
 u:U64 s
 n:s.n=N
 hN:(N:Int)=c.words
 lc:S.L.c=c
 lw:dE S.L
 ln:S.L.n=0
 ld:S.L.d=bd
 sh:uj S.L s
theorem SK.secK{c:Cfg}{N bd:Nat}{S:bC}{s:Dev}(h:SK c N bd S s)(hc:bx c):Ao S bd c s:=⟨h.lw,by have:=(jl hc).2.2;have:=h.hN;rw[h.n];omega,h.ld,h.lc⟩
structure HM(c:Cfg)(m:Int→Int)(a u:Int)(L:List Int):Prop where
 act:m c.active=a
 a01:0≤a∧a≤1
 used:m (c.active+1)=u
 u0:0≤u∧u≤c.space
 tile:iy m (c.frm a) L (c.frm a+u)
 names:∀ k∈L,∀ i,0≤i→i<orf m k→m (k+1+i)=0∨m (k+1+i)∈L
 roots:∀ i:Nat,(i:Int)<c.roots→m (c.root i)=0∨m (c.root i)∈L
abbrev Ag(c:Cfg)(m:Int→Int)(a u:Int):Blk:=⟨a,u,tab c.roots.toNat fun i=>m (c.root i)⟩
theorem HM.block{c:Cfg}{s:Dev}{a u:Int}{L:List Int}(h:HM c s.load a u L):s.block c=(Ag c s.load a u,0):=by
 have h1:=h.u0;have h2:=h.a01
 unfold Dev.block
 rw[h.act,h.used,if_neg (by omega)]
theorem HM.heap{c:Cfg}{m:Int→Int}{a u:Int}{L:List Int}(h:HM c m a u L):pL c (Ag c m a u) m L:=by
 refine⟨by unfold Blk.place;simp only;rw[Int.add_zero];exact h.tile,h.names,fun w hw=> ?_⟩
 obtain⟨i,hi,rfl⟩:=List.mem_map.1 (show w∈(List.range c.roots.toNat).map fun (i:Nat)=>m (c.root i) from hw)
 have:=List.mem_range.1 hi
 exact h.roots i (by omega)
theorem HM.bw{c:Cfg}{m:Int→Int}{a u:Int}{L:List Int}(h:HM c m a u L):gg c (Ag c m a u):=⟨h.a01,h.u0⟩
theorem uY{c:Cfg}(hc:bx c){a:Int}(ha:0≤a∧a≤1):c.frm a+c.space≤c.words∧c.active+2+c.roots≤c.frm a∧24≤c.active∧c.frm a+c.space≤20000:=by
 have h1:=iE hc (k:=0) (by omega)
 have h2:=iE hc (k:=1) (by omega)
 have h3:=hc.act;have h4:=hc.l1;have h5:=hc.r1;have h6:=hc.s1
 rcases (by omega:a=0∨a=1) with rfl | rfl<;>omega
theorem HM.congr{c:Cfg}(hc:bx c){m m':Int→Int}{a u:Int}{L:List Int}(h:HM c m a u L)(e:∀ j,c.active≤j→m' j=m j):HM c m' a u L:=by
 have hf:=uY hc h.a01
 have hr:=hc.r1
 have e0:∀ k∈L,m' k=m k:=fun k hk=>e k (by have:=h.tile.mem hk;omega)
 have eo:∀ k∈L,orf m' k=orf m k:=fun k hk=>by unfold orf;rw[e0 k hk]
 refine⟨by rw[e _ (Int.le_refl _)];exact h.act,h.a01,by rw[e _ (by omega)];exact h.used,h.u0,h.tile.congr e0,fun k hk i h1 h2=> ?_,fun i hi=> ?_⟩
 ·have:=h.tile.mem hk
  rw[eo k hk] at h2
  rw[e _ (by omega)];exact h.names k hk i h1 h2
 ·rw[e _ (by simp only[Cfg.root];omega)];exact h.roots i hi
theorem HM.alloc{c:Cfg}(hc:bx c){m m':Int→Int}{a u:Int}{L:List Int}(h:HM c m a u L){w r:Int}(hw:0≤r∧r≤w∧w≤64)(hroom:¬ c.space - u<w+1)
 (hm:∀ j,c.active≤j→m' j=if c.frm a+u≤j∧j<c.frm a+u+(w+1) then (if j=c.frm a+u then et w r else 0) else if j=c.active+1 then u+(w+1) else m j):HM c m' a (u+(w+1)) (L++[c.frm a+u]):=by
 have hf:=uY hc h.a01
 have hu:=h.u0
 have hr1:=hc.r1
 have hold:∀ k∈L,∀ j,0≤j→j<osz m k→m' (k+j)=m (k+j):=fun k hk j h0 h1=>by
  have:=h.tile.mem hk
  rw[hm _ (by omega),if_neg (by omega),if_neg (by omega)]
 have hold0:∀ k∈L,m' k=m k:=fun k hk=>by
  have:=hold k hk 0 (Int.le_refl 0) (by have:=ig m k;omega)
  simpa using this
 have hnew:m' (c.frm a+u)=et w r:=by rw[hm _ (by omega),if_pos (by omega),if_pos rfl]
 have hun:unp (m' (c.frm a+u))=(w,r,true):=by rw[hnew];exact r7 hw
 refine⟨by rw[hm _ (Int.le_refl _),if_neg (by omega),if_neg (by omega)];exact h.act,h.a01,by rw[hm _ (by omega),if_neg (by omega),if_pos aa],by omega,?_,fun k hk i h0 h1=> ?_,fun i hi=> ?_⟩
 ·have h1:=(h.tile.congr hold0).snoc (by rw[hun])
  have h2:osz m' (c.frm a+u)=w+1:=by unfold osz;rw[hun]
  rw[h2,Int.add_assoc] at h1
  exact h1
 ·rcases List.mem_append.1 hk with hk | hk
  ·have e:orf m' k=orf m k:=by unfold orf;rw[hold0 k hk]
   rw[e] at h1
   have hz:=ig m k
   have:=hold k hk (1+i) (by omega) (by omega)
   rw[←Int.add_assoc] at this
   rw[this]
   exact(h.names k hk i h0 h1).imp id (List.mem_append_left _)
  ·rw[List.mem_singleton.1 hk] at h1 ⊢
   have:orf m' (c.frm a+u)=r:=by unfold orf;rw[hun]
   rw[this] at h1
   left
   rw[hm _ (by omega),if_pos (by omega),if_neg (by omega)]
 ·have:m' (c.root i)=m (c.root i):=by
   simp only[Cfg.root]
   rw[hm _ (by omega),if_neg (by omega),if_neg (by omega)]
  rw[this]
  exact(h.roots i hi).imp id (List.mem_append_left _)
theorem HM.set{c:Cfg}(hc:bx c){m m':Int→Int}{a u:Int}{L:List Int}(h:HM c m a u L){i v:Int}(hm:∀ j,c.active≤j→m' j=if j=i then v else m j)
 (hi:(∃ k∈L,∃ j,orf m k≤j∧j+1<osz m k∧i=k+1+j)∨((v=0∨v∈L)∧((∃ k∈L,∃ j,0≤j∧j<orf m k∧i=k+1+j)∨∃ r:Nat,(r:Int)<c.roots∧i=c.root r))):HM c m' a u L:=by
 have hf:=uY hc h.a01
 have hu:=h.u0
 have hr1:=hc.r1
 have hin:(∃ k∈L,∃ j,0≤j∧j+1<osz m k∧i=k+1+j)∨∃ r:Nat,(r:Int)<c.roots∧i=c.root r:=by
  rcases hi with ⟨k,hk,j,h1,h2,h3⟩ | ⟨_,⟨k,hk,j,h1,h2,h3⟩ | hr⟩
  ·exact .inl ⟨k,hk,j,by have:=ig m k;omega,h2,h3⟩
  ·exact .inl ⟨k,hk,j,h1,by have:=ig m k;omega,h3⟩
  ·exact .inr hr
 have hnh:∀ k∈L,k≠i:=fun k hk e=>by
  have h1:=h.tile.mem hk
  rcases hin with ⟨k',hk',j,h2,h3,h4⟩ | ⟨r,h2,h3⟩
  ·rcases Int.lt_trichotomy k k' with hl | he | hl
   ·omega
   ·omega
   ·have:=h.tile.disj hk' hk hl;omega
  ·simp only[Cfg.root] at h3;omega
 have hlow:c.active+2≤i:=by
  rcases hin with ⟨k',hk',j,h2,h3,h4⟩ | ⟨r,h2,h3⟩
  ·have h1:=h.tile.mem hk';omega
  ·simp only[Cfg.root] at h3;omega
 have hLa:∀ k∈L,c.active≤k:=fun k hk=>by have:=h.tile.mem hk;omega
 have e0:∀ k∈L,m' k=m k:=fun k hk=>by rw[hm k (hLa k hk),if_neg (hnh k hk)]
 have eo:∀ k∈L,orf m' k=orf m k:=fun k hk=>by unfold orf;rw[e0 k hk]
 refine⟨by rw[hm _ (Int.le_refl _),if_neg (by omega)];exact h.act,h.a01,by rw[hm _ (by omega),if_neg (by omega)];exact h.used,h.u0,h.tile.congr e0,fun k hk j h1 h2=> ?_,fun r hr=> ?_⟩
 ·rw[eo k hk] at h2
  have hka:=hLa k hk
  rw[hm _ (by omega)]
  by_cases hx:k+1+j=i
  ·rw[if_pos hx]
   rcases hi with ⟨k',hk',j',g1,g2,g3⟩ | ⟨hv,_⟩
   ·exfalso
    have hz:=ig m k;have hz':=ig m k'
    rcases Int.lt_trichotomy k k' with hl | he | hl
    ·have:=h.tile.disj hk hk' hl;omega
    ·subst he;omega
    ·have:=h.tile.disj hk' hk hl;omega
   ·exact hv
  ·rw[if_neg hx];exact h.names k hk j h1 h2
 ·rw[hm _ (by simp only[Cfg.root];omega)]
  by_cases hx:c.root r=i
  ·rw[if_pos hx]
   rcases hi with ⟨k',hk',j',g1,g2,g3⟩ | ⟨hv,_⟩
   ·exfalso
    have h1:=h.tile.mem hk'
    have hz':=ig m k'
    simp only[Cfg.root] at hx;omega
   ·exact hv
  ·rw[if_neg hx];exact h.roots r hr
theorem uQ{kp:Prop}{c:Cfg}{N:Nat}{old:Nat→Int}{js:List Nat}{S:bC}{s:Dev}(h:In kp c N old js S s)(hc:bx c){i:Nat}(v:Int)(hi:c.active≤i∧i<N)(hv:0≤v∧v<18446744073709551616)(hu:U64 s)(hr:(S.ff≤i∧(i:Int)<S.ft)∨i∈js∨(js.length:Int)<c.log):
 ∃ S' s' js',S.store s i v= .ok (0,S') s'∧In kp c N old js' S' s'∧U64 s'∧(S'.ff=S.ff∧S'.ft=S.ft∧S'.L.d=S.L.d∧S'.L.c=S.L.c)∧(js'=js∨(js'=js++[i]∧¬ (S.ff≤i∧(i:Int)<S.ft)))∧∀ j:Int,c.active≤j→s'.load j=if j=i then v else s.load j:=by
 have hA:=jl hc
 have hN:=h.hN
 have hn:=h.n
 have hsw:=wg h hc (by omega)
 have ldf:∀ s':Dev,s'.n=N→s'.now i=v→(∀ x:Nat,c.active≤x→x≠i→s'.now x=s.now x)→∀ j:Int,c.active≤j→s'.load j=if j=i then v else s.load j:=fun s' hn' h1 h2 j hj=>by
  by_cases hr:j<N
  ·rw[kb (s:=s') (k:=j.toNat) (by omega) (by omega),kb (s:=s) (k:=j.toNat) (by omega) (by omega)]
   by_cases e:j=i
   ·rw[if_pos e,show j.toNat=i by omega];exact h1
   ·rw[if_neg e];exact h2 _ (by omega) (by omega)
  ·have z:∀ t:Dev,t.n=N→t.load j=0:=fun t ht=>by
    unfold Dev.load Dev.has
    rw[if_neg (by simp;omega)]
   rw[z s' hn',z s hn,if_neg (by omega)]
 by_cases hno:i∈js∨(S.ff≤i∧(i:Int)<S.ft)
 ·obtain⟨e1,e2⟩:=zc h hc v hi hno
  have hu':=(ju hsw hu (by omega) hv e1).1
  refine⟨_,_,js,e1,e2,hu',⟨rfl,rfl,rfl,rfl⟩,.inl aa,ldf _ e2.n ?_ fun x _ hx=> ?_⟩
  ·rw[ef];unfold upd;rw[if_pos rfl]
  ·rw[ef];unfold upd;rw[if_neg hx]
 ·have hroom:(js.length:Int)<c.log:=by
   rcases hr with hr | hr | hr
   ·exact absurd (.inr hr) hno
   ·exact absurd (.inl hr) hno
   ·exact hr
  obtain⟨s',e1,e2,e3,e4⟩:=y9 h hc v hi (fun hx=>hno (.inl hx)) (fun hx=>hno (.inr hx)) hroom
  have hu':=(ju hsw hu (by omega) hv e1).1
  exact⟨_,s',_,e1,e2,hu',⟨rfl,rfl,rfl,rfl⟩,.inr ⟨rfl,fun hx=>hno (.inr hx)⟩,ldf s' e2.n e3 e4⟩
theorem wh{kp:Prop}{c:Cfg}{N:Nat}{old:Nat→Int}{js:List Nat}(hc:bx c){a h0:Int}(hh:0≤h0∧h0<18446744073709551616):∀ (f:Nat) (i:Int) (S:bC) (s:Dev),In kp c N old js S s→U64 s→0≤i→c.active≤a→a+i+f≤N→S.ff≤a→a+i+f≤S.ft→
 ∃ S' s',eW gh a h0 f i s S= .ok ((a,0),S') s'∧In kp c N old js S' s'∧U64 s'∧(S'.ff=S.ff∧S'.ft=S.ft∧S'.L.d=S.L.d∧S'.L.c=S.L.c)∧∀ j:Int,c.active≤j→s'.load j=if a+i≤j∧j<a+i+f then (if j=a then h0 else 0) else s.load j
 | 0,i,S,s,h,hu,hi,ha,hf,_,_=>⟨S,s,rfl,h,hu,⟨rfl,rfl,rfl,rfl⟩,fun j _=>by rw[if_neg (by omega)]⟩
 | f+1,i,S,s,h,hu,hi,ha,hf,h1,h2=>by
   have hA:=jl hc
   obtain⟨v,hvd⟩:∃ v,v=if i=0 then h0 else 0:=⟨_,rfl⟩
   have hv:0≤v∧v<18446744073709551616:=by rw[hvd];split<;>first | exact hh | decide
   obtain⟨S1,s1,js1,e1,e2,e3,e4,e5,e6⟩:=uQ h hc (i:=(a+i).toNat) v (by omega) hv hu (.inl (by omega))
   have hjs:js1=js:=by
    rcases e5 with e5 | ⟨_,e5⟩
    ·exact e5
    ·exact absurd (show S.ff≤((a+i).toNat:Int)∧((a+i).toNat:Int)<S.ft by omega) e5
   subst hjs
   obtain⟨S',s',g1,g2,g3,g4,g5⟩:=wh hc hh f (i+1) S1 s1 e2 e3 (by omega) ha (by omega) (by rw[e4.1];exact h1) (by rw[e4.2.1];omega)
   refine⟨S',s',?_,g2,g3,⟨g4.1.trans e4.1,g4.2.1.trans e4.2.1,g4.2.2.1.trans e4.2.2.1,g4.2.2.2.trans e4.2.2.2⟩,fun j hj=> ?_⟩
   ·unfold eW
    rw[←hvd,show gh (a+i) v s S= .ok (0,S1) s1 from by rw[show(a+i)=(((a+i).toNat:Nat):Int) by omega];exact e1]
    simp only[aR]
    rw[if_neg (by decide)]
    exact g1
   ·rw[g5 j hj]
    by_cases hj2:j=a+i
    ·rw[if_neg (by omega),e6 j hj,if_pos (by omega),if_pos (by omega),hvd]
     by_cases h0:i=0
     ·rw[if_pos h0,if_pos (by omega)]
     ·rw[if_neg h0,if_neg (by omega)]
    ·by_cases hr:a+(i+1)≤j∧j<a+(i+1)+f
     ·rw[if_pos hr,if_pos (c:=a+i≤j∧j<a+i+((f+1:Nat):Int)) (by omega)]
     ·rw[if_neg hr,if_neg (c:=a+i≤j∧j<a+i+((f+1:Nat):Int)) (by omega),e6 j hj,if_neg (by omega)]
theorem zb{kp:Prop}{c:Cfg}(hc:bx c){N:Nat}{old:Nat→Int}{js:List Nat}{S:bC}{s:Dev}(h:In kp c N old js S s)(hu:U64 s){a u:Int}{L:List Int}(hm:HM c s.load a u L){w r:Int}(hw:0≤r∧r≤w∧w≤64)(hroom:¬ c.space - u<w+1)(hff:S.ff≤c.frm a+u)(hft:S.ft=c.frm a+c.space)(hff2:c.frm a≤S.ff)
 (hr:(c.active+1).toNat∈js∨(js.length:Int)<c.log):
 ∃ S' s' js',cN gh c w r s S= .ok ((c.frm a+u,0),S') s'∧In kp c N old js' S' s'∧U64 s'∧(S'.ff=S.ff∧S'.ft=S.ft∧S'.L.d=S.L.d∧S'.L.c=S.L.c)∧js'.length≤js.length+1∧(js'=js∨js'=js++[(c.active+1).toNat])∧HM c s'.load a (u+(w+1)) (L++[c.frm a+u])∧
  ∀ j,c.active≤j→s'.load j=if c.frm a+u≤j∧j<c.frm a+u+(w+1) then (if j=c.frm a+u then et w r else 0) else if j=c.active+1 then u+(w+1) else s.load j:=by
 have hA:=jl hc
 have hf:=uY hc hm.a01
 have hu0:=hm.u0
 have hr1:=hc.r1
 have hN:=h.hN
 obtain⟨S1,s1,js1,e1,e2,e3,e4,e5,e6⟩:=uQ h hc (i:=(c.active+1).toNat) (u+(w+1)) (by omega) (by omega) hu (.inr hr)
 obtain⟨S',s',g1,g2,g3,g4,g5⟩:=wh hc (a:=c.frm a+u) (rj w r) (w+1).toNat 0 S1 s1 e2 e3 (Int.le_refl 0) (by omega) (by omega) (by rw[e4.1];omega) (by rw[e4.2.1];omega)
 have hld:∀ j,c.active≤j→s'.load j=if c.frm a+u≤j∧j<c.frm a+u+(w+1) then (if j=c.frm a+u then et w r else 0) else if j=c.active+1 then u+(w+1) else s.load j:=fun j hj=>by
  rw[g5 j hj,e6 j hj]
  by_cases hj2:c.frm a+u≤j∧j<c.frm a+u+(w+1)
  ·rw[if_pos hj2,if_pos (by omega)]
  ·rw[if_neg hj2,if_neg (by omega)]
   by_cases e:j=c.active+1
   ·rw[if_pos e,if_pos (by omega)]
   ·rw[if_neg e,if_neg (by omega)]
 refine⟨S',s',js1,?_,g2,g3,⟨g4.1.trans e4.1,g4.2.1.trans e4.2.1,g4.2.2.1.trans e4.2.2.1,g4.2.2.2.trans e4.2.2.2⟩,?_,e5.imp id And.left,hm.alloc hc hw hroom hld,hld⟩
 ·have hk:mo w r=0:=by unfold mo;rw[if_pos (by omega)]
  unfold cN
  rw[if_neg (by rw[hk];decide),hm.block,if_neg (by simp)]
  simp only
  rw[if_neg hroom,show gh (c.active+1) (u+(w+1)) s S= .ok (0,S1) s1 from by rw[show(c.active+1)=(((c.active+1).toNat:Nat):Int) by omega];exact e1]
  simp only[aR]
  rw[if_neg (by decide)]
  exact g1
 ·rcases e5 with e5 | ⟨e5,_⟩<;>rw[e5]<;>simp
theorem iy.len{m:Int→Int}:∀ {L:List Int} {a e:Int},iy m a L e→(L.length:Int)≤e - a
 | [],a,e,h=>by cases h;simp
 | x::t,a,e,h=>by have:=h.2.2.len;have:=ig m a;simp only[List.length_cons];omega
section
variable {c:Cfg} {b:Blk} {L:List Int} {s:Dev}
def AU(s:Dev)(k:Int):da:=(osz s.load k - 1,orf s.load k,k)
theorem qg(hc:bx c)(hb:gg c b)(h:pL c b s.load L):∀ (t:List Int) (a:Int) (f:Nat),iy s.load a t (b.place c b.used)→(∀ k∈t,k∈L)→t.length<f→s.objs c b f a=t.map fun k=>(AU s k,0)
 | [],a,f+1,ht,_,_=>by
   unfold Dev.objs
   rw[if_pos (by rw[show a=b.place c b.used from ht];exact Int.le_refl _)];rfl
 | k::t,a,f+1,ht,hl,hf=>by
   obtain⟨rfl,h2,h3⟩:=ht
   have hz:=ig s.load k
   have hle:=h3.le
   have ho:=(rx hc hb h (hl k (List.mem_cons_self ..))).1
   simp only[List.length_cons] at hf
   unfold Dev.objs
   rw[if_neg (by omega),ho,if_neg (by simp)]
   simp only[List.map_cons]
   rw[show k+(osz s.load k - 1+1)=k+osz s.load k by omega,qg hc hb h t _ f h3 (fun x hx=>hl x (List.mem_cons_of_mem _ hx)) (by omega)]
   rfl
 | _,_,0,_,_,hf=>absurd hf (Nat.not_lt_zero _)
theorem qD(hc:bx c)(hb:gg c b)(h:pL c b s.load L):s.objs c b (b.used.toNat+1) (b.place c 0)=L.map fun k=>(AU s k,0):=by
 have h1:=h.tile.len
 have h2:=hb.used
 exact qg hc hb h L _ _ h.tile (fun _ h=>h) (by unfold Blk.place at h1;omega)
theorem rq{α ι:Type}{st:α→ι→Bool×ι}{g:ι→α→ι}:∀ (l:List α) (x:ι),(∀ a∈l,∀ x,st a x=(true,g x a))→itl st l x=(true,l.foldl g x)
 | [],x,_=>rfl
 | a::t,x,h=>by
   have e:=h a (List.mem_cons_self ..) x
   unfold itl
   rw[if_pos (by rw[e]),e]
   exact rq t _ fun b hb=>h b (List.mem_cons_of_mem _ hb)
theorem qK{β:Type}(f:Int→β):∀ (l:List Int) (x:List (Int×β)×Int) (k:Int),(k∈l∨(bJ x.1 k).isSome=true)→(bJ (l.foldl (fun y k=>(mset y.1 k (f k),y.2)) x).1 k).isSome=true
 | [],x,k,h=>h.resolve_left (by simp)
 | a::t,x,k,h=>by
   refine qK f t _ k ?_
   by_cases e:k=a
   ·right;simp only;rw[iZ,if_pos e];rfl
   ·rcases h with h | h
    ·exact .inl ((List.mem_cons.1 h).resolve_left e)
    ·right;simp only;rw[iZ,if_neg e];exact h
theorem tE{β:Type}(f:Int→β):∀ (l:List Int) (x:List (Int×β)×Int),(l.foldl (fun y k=>(mset y.1 k (f k),y.2)) x).2=x.2
 | [],_=>rfl
 | a::t,x=>tE f t _
theorem tn(hc:bx c)(hb:gg c b)(h:pL c b s.load L):(s.starts c b).2=0∧∀ k∈L,(bJ (s.starts c b).1 k).isSome=true:=by
 have e:s.starts c b=L.foldl (fun y k=>(mset y.1 k (AU s k),y.2)) ([],0):=by
  unfold Dev.starts Dev.startsI
  rw[qD hc hb h,rq (g:=fun y (p:da×Int)=>(mset y.1 p.1.2.2 p.1,y.2)) _ _ (fun p hp x=>by
   obtain⟨k,_,rfl⟩:=List.mem_map.1 hp
   unfold stS
   rw[if_neg (by simp)]),List.foldl_map]
  rfl
 rw[e]
 exact⟨tE _ _ _,fun k hk=>qK _ _ _ _ (.inl hk)⟩
theorem pf(hc:bx c)(hu:U64 s)(hbl:s.block c=(b,0))(h:pL c b s.load L):s.check c=0:=by
 have hb0:b=(s.block c).1:=by rw[hbl]
 have hb:gg c b:=by rw[hb0];exact dA hc hu
 obtain⟨h1,h2⟩:=tn hc hb h
 have hn:∀ v,v=0∨v∈L→dj c b (s.starts c b).1 v=true:=fun v hv=>by
  unfold dj
  rcases hv with rfl | hv
  ·simp
  ·rw[(rx hc hb h hv).2,h2 v hv];simp
 unfold Dev.check
 rw[hbl]
 simp only
 rw[if_neg (by simp),if_neg (by rw[h1];simp),if_pos]
 ·rw[qD hc hb h,rq (g:=fun y _=>y)]
  ·have:∀ (l:List (da×Int)) (x:Int),l.foldl (fun y _=>y) x=x:=fun l=>by
    induction l with
    | nil=>intro x;rfl
    | cons a t ih=>intro x;exact ih x
   rw[this]
  ·intro p hp x
   obtain⟨k,hk,rfl⟩:=List.mem_map.1 hp
   unfold stC
   rw[if_pos]
   unfold sE
   rw[List.all_eq_true]
   intro j hj
   have:=List.mem_range.1 hj
   simp only[AU] at this ⊢
   exact hn _ (h.names k hk j (by omega) (by omega))
 ·rw[List.all_eq_true]
  exact fun v hv=>hn v (h.roots v hv)
end
theorem j0{L:bK}{s:Dev}(h:L.n=0):L.undo s= .ok L s:=by
 unfold bK.undo
 rw[show L.n.toNat=0 by omega]
 simp[kT,bK.truncate,h,Out.then]
theorem yK{c:Cfg}(hc:bx c){s:Dev}(hn:(s.n:Int)=c.words)(h0:s.load 0=gy)(h1:s.load 1=c.log)(h2:s.load 2=c.roots)(h3:s.load 3=c.space):s.readC=(c,0):=by
 have l1:=hc.l1;have l2:=hc.l2;have r1:=hc.r1;have r2:=hc.r2;have s1:=hc.s1;have s2:=hc.s2
 have e:∀ x:Int,0≤x∧x≤4096→IntKind.i64.wrap x=x:=fun x hx=>fN (by omega)
 have e1:ck s 0=c.log:=by unfold ck;rw[show(1+((0:Nat):Int))=1 from rfl,h1];exact e _ (by omega)
 have e2:ck s 1=c.roots:=by unfold ck;rw[show(1+((1:Nat):Int))=2 from rfl,h2];exact e _ (by omega)
 have e3:ck s 2=c.space:=by unfold ck;rw[show(1+((2:Nat):Int))=3 from rfl,h3];exact e _ (by omega)
 have hcc:(⟨c.log,c.roots,c.space⟩:Cfg)=c:=rfl
 unfold Dev.readC
 rw[if_neg (by rw[h0];simp),if_neg (by omega),e1,e2,e3,hcc,if_neg (by rintro(h | h);exact h hc;exact h hn)]
theorem oK{s t:Dev}(h:t.load=s.load)(c:Cfg)(e:Int):∀ f n,gM t c e f n=gM s c e f n
 | 0,_=>rfl
 | f+1,n=>by unfold gM;rw[h,oK h c e f]
theorem uK{s t:Dev}(h:t.load=s.load)(d:Nat)(c:Cfg):bU d c t=bU d c s:=by unfold bU;rw[h,oK h]
theorem wK(s:Dev)(pa:Nat):(cpD s pa).load=s.load:=by
 funext j
 unfold Dev.load Dev.has
 show(if (decide (0≤j)&&decide (j<(s.n:Int)))=true then (tab s.n s.now).getD j.toNat 0 else 0)=_
 split
 ·rename_i h
  simp only[Bool.and_eq_true,decide_eq_true_eq] at h
  have e:tab s.n s.now=(List.range s.n).map s.now:=rfl
  rw[e,List.getD_eq_getElem?_getD]
  simp[show j.toNat<s.n by omega]
 ·rfl
structure OkD(c:Cfg)(N:Nat)(s:Dev)(e:Int)(a u:Int)(L:List Int):Prop where
 n:s.n=N
 hN:(N:Int)=c.words
 uu:U64 s
 rc:s.readC=(c,0)
 lg:∀ d,bU d c s=⟨d,c,e,0⟩
 hm:HM c s.load a u L
theorem OkD.open_{c:Cfg}(hc:bx c){N:Nat}{s:Dev}{e a u:Int}{L:List Int}(h:OkD c N s e a u L){bd:Nat}{x:Int}(hx:sP bd s x):x=0:=by
 have e0:s.readC.2=0:=by rw[h.rc]
 have e1:s.readC.1=c:=by rw[h.rc]
 rcases hx with ⟨h1,_⟩ | ⟨_,h1,_⟩ | ⟨_,_,bc,pa,L1,t1,h2,h3⟩
 ·exact absurd e0 h1
 ·rw[e1,h.lg] at h1
  exact absurd h1 (show ¬ (0:Int)≤ -1 by decide)
 ·rw[e1,uK (wK s pa),h.lg,j0 rfl] at h2
  cases h2
  rw[h3,e1]
  have hm:HM c (cpD s pa).load a u L:=by rw[wK];exact h.hm
  exact pf hc (BS h.uu pa) hm.block hm.heap
theorem OkD.undo{c:Cfg}{N:Nat}{s:Dev}{e a u:Int}{L:List Int}(h:OkD c N s e a u L){bd:Nat}{L':bK}{s':Dev}(hx:(bU bd s.readC.1 s).undo s= .ok L' s'):s'=s:=by
 rw[show s.readC.1=c by rw[h.rc],h.lg,j0 rfl] at hx
 cases hx;rfl
theorem OkD.noff{c:Cfg}{N:Nat}{s:Dev}{e a u:Int}{L:List Int}(h:OkD c N s e a u L){bd:Nat}{s':Dev}(hx:(bU bd s.readC.1 s).undo s= .off s'):False:=by
 rw[show s.readC.1=c by rw[h.rc],h.lg,j0 rfl] at hx
 cases hx
structure HC(kp:Prop)(c:Cfg)(N bd:Nat)(h:HpS)(s:Dev)(a u:Int)(L:List Int):Prop where
 hbd:h.bd=bd
 hcc:h.c=c
 ho:h.o=false
 sk:SK c N bd h.S s
 hm:HM c s.load a u L
 rc:s.readC=(c,0)
 hw:dY h s
 hkp:kp→s.kept=s.now
theorem AW{c:Cfg}(hc:bx c){N:Nat}{s:Dev}{e a u:Int}{L:List Int}(h:OkD c N s e a u L)(hs:kE s)(he:0≤e∧e<4294967296)(hsh:s.now 8=e∧s.now 16≠gt e 0)(bd:Nat){kp:Prop}(hk:kp→s.kept=s.now):HC kp c N bd (iO bd c s) s a u L:=by
 have hA:=jl hc
 have hN:=h.hN
 have hlog:0≤c.log:=by have:=hc.l1;have:=hc.r1;omega
 have hlw:dE ⟨bd,c,e,0⟩:=⟨hc,he.1,he.2,Int.le_refl _,hlog⟩
 have hS:(iO bd c s).S=⟨⟨bd,c,e,0⟩,0,0,[],[]⟩:=by unfold iO;rw[h.lg]
 have hsk:SK c N bd (iO bd c s).S s:=by
  rw[hS]
  exact⟨hs,h.uu,h.n,h.hN,rfl,hlw,rfl,rfl,hsh⟩
 refine⟨rfl,rfl,rfl,hsk,h.hm,h.rc,⟨hc,hsk.secK hc,fun x=>(by cases x),h.uu,⟨Int.le_refl _,by show(0:Int)≤1000000000;decide⟩,Nat.zero_le _,fun p hp=>(by cases hp),fun X hX=>(by cases hX)⟩,hk⟩
theorem Fmt.okd{c:Cfg}(hc:bx c){N:Nat}{s:Dev}(h:Fmt c N s)(hN:(N:Int)=c.words)(hu:U64 s):OkD c N s 1 0 0 []:=by
 have hA:=jl hc
 have hld:∀ k:Nat,k<24→s.load k=s.now k:=fun k hk=>kb rfl (by rw[h.n];omega)
 have hF:=Cy hc hN h hu
 refine⟨h.n,hN,hu,yK hc (by rw[h.n];exact hN) ?_ ?_ ?_ ?_,h.log,⟨hF.act,by omega,hF.used,hF.u0,hF.tile,hF.names,hF.roots⟩⟩
 ·rw[show(0:Int)=((0:Nat):Int) from rfl,hld 0 (by omega)];exact h.st.magic
 ·rw[show(1:Int)=((1:Nat):Int) from rfl,hld 1 (by omega)];exact h.st.cfg.1
 ·rw[show(2:Int)=((2:Nat):Int) from rfl,hld 2 (by omega)];exact h.st.cfg.2.1
 ·rw[show(3:Int)=((3:Nat):Int) from rfl,hld 3 (by omega)];exact h.st.cfg.2.2
theorem Fmt.hc{c:Cfg}(hc:bx c){N:Nat}{s:Dev}(h:Fmt c N s)(hN:(N:Int)=c.words)(hu:U64 s)(bd:Nat):HC True c N bd (iO bd c s) s 0 0 []:=
 AW hc (h.okd hc hN hu) ⟨h.lim,h.calm.q⟩ ⟨by decide,by decide⟩ ⟨h.ep.1,by rw[h.ep.2];decide⟩ bd fun _=>h.calm.kept
structure K8(s s':Dev):Prop where
 n:s'.n=s.n
 now:∀ x:Nat,x<8→s'.now x=s.now x
theorem K8.refl{s:Dev}:K8 s s:=⟨rfl,fun _ _=>rfl⟩
theorem K8.trans{s s' s'':Dev}(h:K8 s s')(g:K8 s' s''):K8 s s'':=⟨g.n.trans h.n,fun x hx=>(g.now x hx).trans (h.now x hx)⟩
theorem ke{s s':Dev}{i v a:Int}(hi:8≤i)(e:s.store i v= .ok a s'):K8 s s':=by
 unfold Dev.store at e
 split at e
 ·cases e;exact .refl
 ·split at e
  ·cases e
  ·cases e
   exact⟨rfl,fun x hx=>by show upd s.now i.toNat v x=_;unfold upd;rw[if_neg (by omega)]⟩
theorem tg{s s':Dev}{i a:Int}(e:s.flush i= .ok a s'):K8 s s':=by
 unfold Dev.flush at e
 split at e
 ·cases e;exact .refl
 ·split at e
  ·cases e
  ·cases e;exact⟨rfl,fun _ _=>rfl⟩
theorem th{s s':Dev}{a:Unit}(e:s.fence= .ok a s'):K8 s s':=by
 unfold Dev.fence at e
 split at e
 ·cases e
 ·cases e;exact⟨rfl,fun _ _=>rfl⟩
theorem xt{L:bK}{s s':Dev}{i:Int}{r:Int×bK}(hL:dE L)(e:L.append s i= .ok r s'):K8 s s':=by
 unfold bK.append at e
 split at e
 ·cases e;exact .refl
 split at e
 ·cases e;exact .refl
 have hr:16≤L.c.record L.n:=by have:=hL.n1;simp only[Cfg.record];omega
 obtain⟨_,s1,e1,e⟩:=aH e
 obtain⟨_,s2,e2,e⟩:=aH e
 obtain⟨_,s3,e3,e⟩:=aH e
 obtain⟨_,s4,e4,e⟩:=aH e
 obtain⟨_,s5,e5,e⟩:=aH e
 obtain⟨_,s6,e6,e⟩:=aH e
 obtain⟨_,s7,e7,e⟩:=aH e
 cases e
 exact((((((ke (by omega) e1).trans (ke (by omega) e2)).trans (tg e3)).trans (th e4)).trans (ke (by omega) e5)).trans (tg e6)).trans (th e7)
theorem mH{S:bC}{s s':Dev}{i v:Int}{r:Int×bC}(hL:dE S.L)(e:S.store s i v= .ok r s'):K8 s s':=by
 have hA:=jl hL.c
 unfold bC.store at e
 split at e
 ·cases e;exact .refl
 rename_i hi
 split at e
 ·obtain⟨x,t,e1,e⟩:=aH e
  have h1:=xt hL e1
  split at e
  ·cases e;exact h1
  ·obtain⟨y,u,e2,e⟩:=aH e
   cases e;exact h1.trans (ke (by omega) e2)
 ·obtain⟨y,u,e2,e⟩:=aH e
  cases e;exact ke (by omega) e2
theorem wc{a h0:Int}:∀ (f:Nat) (i:Int) (S:bC) (s:Dev) (r:(Int×Int)×bC) (s':Dev),dE S.L→eW gh a h0 f i s S= .ok r s'→K8 s s'
 | 0,i,S,s,r,s',_,e=>by cases e;exact .refl
 | f+1,i,S,s,r,s',hL,e=>by
   unfold eW at e
   obtain⟨⟨x,S1⟩,s1,e1,e⟩:=aH e
   have h1:=mH hL e1
   split at e
   ·cases e;exact h1
   ·exact h1.trans (wc f _ _ _ _ _ (j2 hL e1) e)
theorem y7{c:Cfg}{w r:Int}{S:bC}{s:Dev}{x:(Int×Int)×bC}{s':Dev}(hL:dE S.L)(e:cN gh c w r s S= .ok x s'):K8 s s':=by
 unfold cN at e
 split at e
 ·cases e;exact .refl
 split at e
 ·cases e;exact .refl
 split at e
 ·cases e;exact .refl
 ·obtain⟨⟨y,S1⟩,s1,e1,e⟩:=aH e
  have h1:=mH hL e1
  split at e
  ·cases e;exact h1
  ·exact h1.trans (wc _ _ _ _ _ _ (j2 hL e1) e)
theorem K8.readC{c:Cfg}(hc:bx c){s s':Dev}(h:K8 s s')(hn:(s.n:Int)=c.words)(hr:s.readC=(c,0)):s'.readC=(c,0):=by
 have hA:=jl hc
 have hl:∀ k:Nat,k<8→s'.load k=s.load k:=fun k hk=>by
  rw[kb (k:=k) rfl (by rw[h.n];omega),kb (k:=k) rfl (by omega)];exact h.now k hk
 have hw:∀ k:Nat,k<3→ck s' k=ck s k:=fun k hk=>by
  have:=hl (1+k) (by omega)
  unfold ck
  rw[show(1+(k:Int))=((1+k:Nat):Int) by omega,this]
 have k0:s'.load 0=s.load 0:=hl 0 (by omega)
 have k1:s'.load 1=s.load 1:=hl 1 (by omega)
 have k2:s'.load 2=s.load 2:=hl 2 (by omega)
 have k3:s'.load 3=s.load 3:=hl 3 (by omega)
 rw[←hr]
 unfold Dev.readC
 rw[h.n,k0,k1,k2,k3,hw 0 (by omega),hw 1 (by omega),hw 2 (by omega)]
theorem B2{T:gG}{k:Int}(h1:0≤T.last∧T.last+1≤1000000000)(h2:T.at_.length+1≤800000)(h3:∀ p∈T.at_,0≤p.2∧p.2≤1000000)(hk:0≤k∧k≤1000000):
 (0≤(T.take k).2.last∧(T.take k).2.last≤1000000000)∧(T.take k).2.at_.length≤800000∧(∀ p∈(T.take k).2.at_,0≤p.2∧p.2≤1000000):=by
 unfold gG.take
 split
 ·exact⟨by simp only;omega,by simp only;omega,h3⟩
 split
 ·exact⟨by simp only;omega,by simp only;omega,h3⟩
 ·refine⟨by simp only;omega,?_,fun p hp=> ?_⟩
  ·have:=oT T.at_ (T.last+1) k
   simp only;omega
  ·rcases uL hp with e | e
   ·rw[e];exact hk
   ·exact h3 p e
structure HO(kp:Prop)(c:Cfg)(N bd:Nat)(old:Nat→Int)(js:List Nat)(h:HpS)(s:Dev)(a u u0:Int)(L:List Int):Prop where
 hbd:h.bd=bd
 hcc:h.c=c
 ho:h.o=true
 ss:In kp c N old js h.S s
 dd:h.S.L.d=bd
 hm:HM c s.load a u L
 rc:s.readC=(c,0)
 hw:dY h s
 ff:h.S.ff=c.frm a+u0
 ft:h.S.ft=c.frm a+c.space
 ule:0≤u0∧u0≤u
theorem mI{kp:Prop}{c:Cfg}(hc:bx c){N bd:Nat}{old:Nat→Int}{js:List Nat}{h:HpS}{s:Dev}(hcc:h.c=c)(hbd:h.bd=bd)(hi:In kp c N old js h.S s)(hd:h.S.L.d=bd)(hu:U64 s)(hx:h.X=none)(t1:0≤h.T.last∧h.T.last≤1000000000)(t2:h.T.at_.length≤800000)(t3:∀ p∈h.T.at_,0≤p.2∧p.2≤1000000):dY h s:=by
 have hA:=jl hc
 have hN:=hi.hN
 exact⟨by rw[hcc];exact hc,⟨hi.logw,by rw[hi.n];omega,by rw[hbd];exact hd,by rw[hcc];exact hi.hc⟩,fun _=>⟨wg hi hc (by omega),xI hi hc (by omega)⟩,hu,t1,t2,t3,fun X hX=>by rw[hx] at hX;cases hX⟩
theorem HC.blk{kp:Prop}{c:Cfg}{N bd:Nat}{h:HpS}{s:Dev}{a u:Int}{L:List Int}(H:HC kp c N bd h s a u L):h.blk s=Ag c s.load a u:=by
 show(s.block h.c).1=_
 rw[H.hcc,H.hm.block]
theorem HO.blk{kp:Prop}{c:Cfg}{N bd:Nat}{old:Nat→Int}{js:List Nat}{h:HpS}{s:Dev}{a u u0:Int}{L:List Int}(H:HO kp c N bd old js h s a u u0 L):h.blk s=Ag c s.load a u:=by
 show(s.block h.c).1=_
 rw[H.hcc,H.hm.block]
theorem HC.bok{kp:Prop}{c:Cfg}{N bd:Nat}{h:HpS}{s:Dev}{a u:Int}{L:List Int}(H:HC kp c N bd h s a u L):(s.block h.c).2=0:=by rw[H.hcc,H.hm.block]
theorem HC.begin{kp:Prop}{c:Cfg}(hc:bx c){N bd:Nat}{h:HpS}{s:Dev}{a u:Int}{L:List Int}(H:HC kp c N bd h s a u L){room:Int}(h0:0≤room)(hr:¬ c.space - u<room){x:Int}{h':HpS}{s':Dev}(hb:h.begR s room x h' s'):
 x=0∧s'=s∧h'.T=h.T∧HO kp c N bd s.now [] h' s a u u L:=by
 have hbl:=H.blk
 rcases hb with ⟨h1,_⟩ | ⟨_,h1,_⟩ | ⟨_,_,a1,h1,s1,hor,hor2⟩
 ·rw[H.ho] at h1;cases h1
 ·omega
 rcases hor with ⟨h2,_⟩ | ⟨h2,rfl,rfl,rfl⟩
 ·rw[hbl,H.hcc] at h2;exact absurd h2 hr
 rcases hor2 with ⟨h3,_⟩ | ⟨_,h3,_⟩ | ⟨_,h3,rfl,rfl,rfl⟩
 ·exact absurd aa h3
 ·rw[show HpS.blk {h with X:=none} s1=h.blk s1 from rfl,hbl,H.hcc] at h3;exact absurd h3 hr
 have hS:=H.sk
 have hi:In kp c N s'.now [] (h.S.fresh ((h.blk s').place h.c (h.blk s').used) ((h.blk s').place h.c h.c.space)) s':=za hS.still H.hkp hS.n hS.hN hS.lc hS.lw hS.ln hS.sh
 refine⟨rfl,rfl,rfl,⟨H.hbd,H.hcc,rfl,hi,?_,H.hm,H.rc,mI hc H.hcc H.hbd hi ?_ hS.u aa H.hw.t1 H.hw.tl H.hw.tp,?_,?_,H.hm.u0.1,Int.le_refl _⟩⟩
 ·exact hS.ld
 ·exact hS.ld
 ·show(h.blk s').place h.c (h.blk s').used=_
  rw[hbl,H.hcc];rfl
 ·show(h.blk s').place h.c h.c.space=_
  rw[hbl,H.hcc];rfl
section
variable {kp:Prop} {c:Cfg} {N bd:Nat} {old:Nat→Int} {js:List Nat} {h:HpS} {s:Dev} {a u u0:Int} {L:List Int}
theorem HO.uu(H:HO kp c N bd old js h s a u u0 L):U64 s:=H.hw.u
theorem HO.nc(H:HO kp c N bd old js h s a u u0 L):(s.n:Int)=c.words:=by rw[H.ss.n];exact H.ss.hN
theorem HO.put(hc:bx c)(H:HO kp c N bd old js h s a u u0 L)(hx:h.X=none){i v:Int}(hv:0≤v∧v<18446744073709551616)(hi:c.active≤i∧i<N)
 (hk:(∃ k∈L,∃ j,orf s.load k≤j∧j+1<osz s.load k∧i=k+1+j)∨((v=0∨v∈L)∧((∃ k∈L,∃ j,0≤j∧j<orf s.load k∧i=k+1+j)∨∃ r:Nat,(r:Int)<c.roots∧i=c.root r)))
 (hr:(h.S.ff≤i∧i<h.S.ft)∨i.toNat∈js∨(js.length:Int)<c.log):
 ∃ S' s' js',h.S.store s i v= .ok (0,S') s'∧HO kp c N bd old js' {h with S:=S'} s' a u u0 L∧(∀ x∈js,x∈js')∧js'.length≤js.length+1∧(¬ (h.S.ff≤i∧i<h.S.ft)∨js'=js)∧∀ j:Int,c.active≤j→s'.load j=if j=i then v else s.load j:=by
 have hA:=jl hc
 have hN:=H.ss.hN
 obtain⟨S',s',js',e1,e2,e3,e4,e5,e6⟩:=uQ H.ss hc (i:=i.toNat) v (by omega) hv H.uu (hr.imp (fun h=>by omega) id)
 rw[show((i.toNat:Nat):Int)=i by omega] at e1 e5 e6
 have hm':=H.hm.set hc e6 hk
 refine⟨S',s',js',e1,⟨H.hbd,H.hcc,H.ho,e2,e4.2.2.1.trans H.dd,hm',(mH H.ss.logw e1).readC hc H.nc H.rc,mI hc H.hcc H.hbd e2 (e4.2.2.1.trans H.dd) e3 hx H.hw.t1 H.hw.tl H.hw.tp,e4.1.trans H.ff,e4.2.1.trans H.ft,H.ule⟩,fun x hx=> ?_,?_,?_,e6⟩
 ·rcases e5 with e5 | ⟨e5,_⟩<;>rw[e5]
  ·exact hx
  ·exact List.mem_append_left _ hx
 ·rcases e5 with e5 | ⟨e5,_⟩<;>rw[e5]<;>simp
 ·rcases e5 with e5 | ⟨_,e5⟩
  ·exact .inr e5
  ·exact .inl (by simpa using e5)
theorem HO.alloc(hc:bx c)(H:HO kp c N bd old js h s a u u0 L)(hx:h.X=none){w r:Int}(hw:0≤r∧r≤w∧w≤64)(hroom:¬ c.space - u<w+1)(hr:(c.active+1).toNat∈js∨(js.length:Int)<c.log)(hl:h.T.last+1≤1000000000)(htl:h.T.at_.length+1≤800000):
 ∃ h' s' js',h.alloc s w r= .ok (((h.T.take (c.frm a+u)).1,0),h') s'∧HO kp c N bd old js' h' s' a (u+(w+1)) u0 (L++[c.frm a+u])∧h'.X=none∧h'.T=(h.T.take (c.frm a+u)).2∧(js'=js∨js'=js++[(c.active+1).toNat])∧js'.length≤js.length+1∧
  ∀ j,c.active≤j→s'.load j=if c.frm a+u≤j∧j<c.frm a+u+(w+1) then (if j=c.frm a+u then et w r else 0) else if j=c.active+1 then u+(w+1) else s.load j:=by
 have hu0:=H.hm.u0
 have hf:=uY hc H.hm.a01
 have hr1':=hc.r1
 have hle:=H.ule
 obtain⟨S',s',js',e1,e2,e3,e4,e5,e5',e6,e7⟩:=zb hc H.ss H.uu H.hm hw hroom (by rw[H.ff];omega) H.ft (by rw[H.ff];omega) hr
 have hT:=B2 (T:=h.T) (k:=c.frm a+u) ⟨H.hw.t1.1,hl⟩ htl H.hw.tp (by omega)
 refine⟨{h with S:=S',T:=(h.T.take (c.frm a+u)).2},s',js',?_,⟨H.hbd,H.hcc,H.ho,e2,e4.2.2.1.trans H.dd,e6,(y7 H.ss.logw e1).readC hc H.nc H.rc,mI hc H.hcc H.hbd e2 (e4.2.2.1.trans H.dd) e3 hx hT.1 hT.2.1 hT.2.2,e4.1.trans H.ff,e4.2.1.trans H.ft,by omega⟩,hx,rfl,e5',e5,e7⟩
 unfold HpS.alloc
 rw[if_pos H.ho,H.hcc,e1]
 simp only[aR]
 rw[if_neg (by simp)]
theorem HO.obj(hc:bx c)(H:HO kp c N bd old js h s a u u0 L){n k:Int}(hn:bJ h.T.at_ n=some k)(hk:k∈L):h.obj s n=((osz s.load k - 1,orf s.load k,k),0):=by
 unfold HpS.obj
 rw[hn,if_pos (show(some k).isSome=true from rfl),H.blk,H.hcc]
 show s.objOf c _ k=_
 exact(rx hc H.hm.bw H.hm.heap hk).1
theorem HO.write(hc:bx c)(H:HO kp c N bd old js h s a u u0 L)(hx:h.X=none){n k i v:Int}(hn:bJ h.T.at_ n=some k)(hk:k∈L)(hi:orf s.load k≤i∧i+1<osz s.load k)(hv:0≤v∧v<18446744073709551616)(hr:(h.S.ff≤k+1+i∧k+1+i<h.S.ft)∨(k+1+i).toNat∈js∨(js.length:Int)<c.log):
 ∃ h' s' js',h.write s n i v= .ok (0,h') s'∧HO kp c N bd old js' h' s' a u u0 L∧h'.X=none∧h'.T=h.T∧(∀ x∈js,x∈js')∧js'.length≤js.length+1∧(¬ (h.S.ff≤k+1+i∧k+1+i<h.S.ft)∨js'=js)∧∀ j:Int,c.active≤j→s'.load j=if j=k+1+i then v else s.load j:=by
 have hz:=ig s.load k
 have hf:=uY hc H.hm.a01
 have hr1':=hc.r1
 have ht:=H.hm.tile.mem hk
 have hu0:=H.hm.u0
 have hN:=H.ss.hN
 obtain⟨S',s',js',e1,e2,e3,e4,e5,e6⟩:=H.put hc hx (i:=k+1+i) hv (by omega) (.inl ⟨k,hk,i,hi.1,hi.2,rfl⟩) hr
 refine⟨_,s',js',?_,e2,hx,rfl,e3,e4,e5,e6⟩
 have ho:cm (osz s.load k - 1,orf s.load k,k) i false=(k+1+i,0):=by
  unfold cm
  rw[if_neg (by simp only;omega),if_neg (by simp;omega)]
 unfold HpS.write
 rw[if_pos H.ho,H.obj hc hn hk,if_neg (by simp)]
 unfold iM
 simp only
 rw[ho,if_neg (by simp),show gh (k+1+i) v s h.S= .ok (0,S') s' from e1]
 rfl
theorem HO.commit(hc:bx c)(H:HO kp c N bd old js h s a u u0 L)(hx:h.X=none):
 ∃ h' s',h.commit s= .ok (0,h') s'∧HC kp c N bd h' s' a u L∧h'.X=none∧h'.T=h.T∧(kp→Aq s')∧∀ j:Int,c.active≤j→s'.load j=s.load j:=by
 have hA:=jl hc
 have hN:=H.ss.hN
 obtain⟨s',e1,e2,e3,e4,e5,e6⟩:=xx H.ss hc
 have hk:=B6 H.ss.logw
 have hck:=tV H.ss.logw e1
 have hu':=hck.1 H.uu
 have hld:∀ j:Int,c.active≤j→s'.load j=s.load j:=fun j hj=>by
  unfold Dev.load Dev.has
  rw[e3,H.ss.n]
  split
  ·rw[e4,oe (by omega)]
  ·rfl
 have h8:K8 s s':=⟨by rw[e3,H.ss.n],fun x hx=>by rw[e4,oe (by omega)]⟩
 have hsk:SK c N bd {h.S with L:=h.S.L.shut} s':=⟨e2,hu',e3,hN,hk.2.2.1.trans H.ss.hc,hk.1,hk.2.1,hk.2.2.2.trans H.dd,e6⟩
 refine⟨{h with o:=false,S:={h.S with L:=h.S.L.shut}},s',?_,⟨H.hbd,H.hcc,rfl,hsk,H.hm.congr hc hld,h8.readC hc H.nc H.rc,⟨H.hw.c,⟨hsk.lw,by rw[e3];omega,by rw[H.hbd];exact hsk.ld,by rw[H.hcc];exact hsk.lc⟩,fun x=>(by cases x),hu',H.hw.t1,H.hw.tl,H.hw.tp,fun X hX=>by rw[show h.X=some X from hX] at hx;cases hx⟩,fun hp=>(e5 hp).kept⟩,hx,rfl,e5,hld⟩
 unfold HpS.commit
 rw[if_pos H.ho,e1]
 rfl
end
theorem xf(B:World)(Fr:List HP)(x0 x1 x2:Int)(hx:0≤x0∧0≤x1∧0≤x2)(c:Cfg)(hcm:c=mkC x0 x1 x2):
 ∀ w,Holds B Fr w→Calls Tryz.prog 44 [.agg #[u16 x0,u16 x1,u16 x2],.slice none 0 0].toArray w (Ret B (fun rv H'=>∃ (bd bh bm br N:Nat) (s:Dev),(N:Int)=c.words∧HC True c N bd (iO bd c s) s 0 0 []∧rv= .tuple #[ptr bd,ptr bh,ptr bm]∧H'=dB bh (iO bd c s)::aB bd s::eD bm br c.roots.toNat c::eC br c.roots.toNat::Fr) (fun _ _=>False)):=by
 refine ap func44 aa ntmps44 aa ?_
 have hc:bx c:=by rw[hcm];exact vW hx.1 hx.2.1 hx.2.2
 have hA:=jl hc
 have hr1:=hc.r1
 refine ac (ab (kPb (aY aa) aa fun b2=>(kPa aa aa (kPa aa aa (kPa aa aa (ad (ac (ab (kPv (ah isAgg96 sizeOf96 aa aa) aa ?_)))))))))
 refine aw aa (ar call73 aa) (vX _ _ x0 x1 x2 hx.1 hx.2.1 hx.2.2) .free aa aa ?_
 refine kPb (aD zeroValue134 aa) aa fun b7=>(kPs (az (vs:=_) sizeOf134 aa aa aa aa aa) aa (ad (ac ?_)))
 rw[←hcm]
 refine ab (kPv (ah isAgg134 sizeOf134 aa aa) aa ?_)
 refine kPm aa aa (aJ aa (ar call74 aa) (dQ _ _ c hc none 0 [] (by decide) (fun _ h=>absurd h (Nat.not_lt_zero _)) SlR.nil) .free aa aa ?_)
 rintro _ _ ⟨bd,pa,N,s0,hN,hf,rfl,rfl⟩
 have hfm:=pl hc hN hf
 have hu0:=im (kx pa N) hc hf
 have hOk:=hfm.okd hc hN hu0
 have hHC:=hfm.hc hc hN hu0 bd
 have hsn:=hfm.n
 refine kPm aa aa (kPv (aA aa aa) aa (kPv (aA aa aa) aa (kPa aa aa (kPa aa aa (ad (am [9,8,7,6,5,4] rfl (ac (ac (ab (kPm aa aa (kPv (bj aa) aa ?_)))))))))))
 refine ad (bG aa (rfl) (aq (ac (ab (kPm aa aa ?_)))))
 refine aU aa (ar call75 aa) (xz B _ bd s0 hu0 (by omega)) .free aa aa ?_ ?_
 rotate_left
 ·rintro _ _ ⟨s9,hE,hun,rfl,rfl⟩
  exact(hOk.noff hun).elim
 rintro _ _ hor
 rcases hor with ⟨e,he,hE,_,_⟩ | ⟨bh,L',s',hE,hun,rfl,rfl⟩
 ·exact absurd (hOk.open_ hc hE) he
 obtain rfl:=hOk.undo hun
 rw[show s'.readC.1=c by rw[hOk.rc]]
 refine kPm aa aa (kPv (aA aa aa) aa (kPv (aA aa aa) aa (kPa aa aa (kPa aa aa (ad (am [11,10,8,7,6,5,4] rfl (ac (ac (ab (kPm aa aa (kPv (al aa aa aa) aa ?_)))))))))))
 refine kPm aa aa ?_
 apply fS (tp:=32) (t:=29) (σ1:=[(29,_),(10,_),(8,_),(7,_),(6,_),(5,_),(4,_)]) 3 rfl (aC rfl)
 ·intro hg1
  refine ak aa (aj aa) (.on aa aa (ae hg1)) aa aa (ak aa (du runUnderlying91 aa aa aa) (.on aa aa (ae hg1)) aa aa (kPv (aG aa hg1 aa) aa ?_))
  exact aV aa (aC aa) (eV hg1)
 ·intro hg1
  refine ao aa (.on aa aa (ag hg1)) aa (ao aa (.on aa aa (ag hg1)) aa (kPv (ax aa hg1 aa) aa ?_))
  exact aV aa (aC aa) (eU hg1)
 refine ad (bG aa (rfl) (aq (ac (ab (kPm aa aa (kPm aa aa (kPv (ah isAgg134 sizeOf134 aa aa) aa ?_)))))))
 refine aJ aa (ar call76 aa) (AO B _ c hc c.roots.toNat (by omega)) .free aa aa ?_
 rintro _ _ ⟨bm,br,rfl,rfl⟩
 refine kPa aa aa (kPa aa aa (kPa aa aa (ad (am [6,5,4] rfl (ay ?_)))))
 exact kX results44 (.tmp aa) (.tmp aa) (.tmp aa) (fun w hw=>⟨_,⟨bd,bh,bm,br,N,_,hN,hHC,rfl,rfl⟩,((hw.dp [4,4]).pk [2,2])⟩)
theorem mR{B:World}{P:Program}{f:FuncId}{vs:Array Value}{bh bd:Nat}{Fr:List HP}{α:Type}{m:Out (α×HpS)}{enc:α→Value}{a:α}{h':HpS}{s':Dev}(e:m= .ok (a,h') s'){w:World}(h:Calls P f vs w (Ret B (fun rv H'=>∃ a h' s',m= .ok (a,h') s'∧rv=enc a∧H'=dB bh h'::aB bd s'::Fr) (fun ch H'=>∃ s',m= .off s'∧ch=dP∧H'=aB bd s'::Fr))):
 Calls P f vs w (Ret B (fun rv H'=>rv=enc a∧H'=dB bh h'::aB bd s'::Fr) (fun _ _=>False)):=
 h.mono (Ret.mono (fun rv H' ⟨a1,h1,s1,e1,e2,e3⟩=>by rw[e] at e1;cases e1;exact⟨e2,e3⟩) (fun ch H' ⟨s1,e1,_⟩=>by rw[e] at e1;cases e1))
theorem Bx{h h':HpS}{s s':Dev}{room:Int}(ho:h.o=false)(hb:h.begR s room 0 h' s'):h'.X=none:=by
 rcases hb with ⟨h1,_⟩ | ⟨_,_,h1,_⟩ | ⟨_,_,a1,h1,s1,hor,hor2⟩
 ·rw[ho] at h1;cases h1
 ·cases h1
 rcases hor2 with ⟨h3,h4,_⟩ | ⟨_,_,h4,_⟩ | ⟨rfl,_,_,rfl,_⟩
 ·exact absurd h4.symm h3
 ·cases h4
 ·rcases hor with ⟨_,h2⟩ | ⟨_,_,rfl,_⟩
  ·rcases h2 with ⟨h5,_⟩ | ⟨_,X,s2,_,S',_,hor3⟩
   ·rw[show h.o=true from h5] at ho;cases ho
   ·rcases hor3 with ⟨_,rfl⟩ | ⟨_,ord,_,rfl⟩<;>rfl
  ·rfl
section
variable {B:World} {Fr:List HP} {bh bd:Nat} {h h':HpS} {s s':Dev}
theorem BY(hW:dY h s)(hb:h.bd=bd){n i v x:Int}(hv:0≤v∧v<18446744073709551616)(e:h.write s n i v= .ok (x,h') s'):∀ w,Holds B (dB bh h::aB bd s::Fr) w→Calls Tryz.prog 48 [ptr bh,i64 n,i64 i,w64 v].toArray w (Ret B (fun rv H'=>rv=i64 x∧H'=dB bh h'::aB bd s'::Fr) (fun _ _=>False)):=by
 subst hb;exact fun w hw=>mR e (xy B Fr bh h s hW n i v hv w hw)
theorem Bs(hW:dY h s)(hb:h.bd=bd){x:Int}(e:h.commit s= .ok (x,h') s'):∀ w,Holds B (dB bh h::aB bd s::Fr) w→Calls Tryz.prog 49 [ptr bh].toArray w (Ret B (fun rv H'=>rv=i64 x∧H'=dB bh h'::aB bd s'::Fr) (fun _ _=>False)):=by
 subst hb;exact fun w hw=>mR e (uV B Fr bh h s hW w hw)
theorem CU(hW:dY h s)(hb:h.bd=bd){w_ r at_ x:Int}(e:h.alloc s w_ r= .ok ((at_,x),h') s'):∀ w,Holds B (dB bh h::aB bd s::Fr) w→Calls Tryz.prog 47 [ptr bh,.agg #[i64 w_,i64 r]].toArray w (Ret B (fun rv H'=>rv= .tuple #[i64 at_,i64 x]∧H'=dB bh h'::aB bd s'::Fr) (fun _ _=>False)):=by
 subst hb;exact fun w hw=>mR (enc:=fun a:Int×Int=> .tuple #[i64 a.1,i64 a.2]) e (uS B Fr bh h s hW w_ r w hw)
theorem B3(hW:dY h s)(hb:h.bd=bd):∀ w,Holds B (dB bh h::aB bd s::Fr) w→Calls Tryz.prog 50 [ptr bh].toArray w (a8 B (dB bh h::aB bd s::Fr) (BI (h.stats s))):=by
 subst hb;exact qx B Fr bh h s hW
theorem CN{kp:Prop}{c:Cfg}(hc:bx c){N:Nat}{a u:Int}{L:List Int}(H:HC kp c N bd h s a u L){room:Int}(h0:0≤room)(hr:¬ c.space - u<room):∀ w,Holds B (dB bh h::aB bd s::Fr) w→Calls Tryz.prog 46 [ptr bh,i64 room].toArray w (Ret B (fun rv H'=>∃ h',h'.X=none∧h'.T=h.T∧HO kp c N bd s.now [] h' s a u u L∧rv=i64 0∧H'=dB bh h'::aB bd s::Fr) (fun _ _=>False)):=by
 have hb:=H.hbd
 subst hb
 refine fun w hw=>(xC B Fr bh h s H.hw H.bok room w hw).mono (Ret.mono ?_ ?_)
 ·rintro rv H' ⟨x,h',s',hb,rfl,rfl⟩
  obtain⟨rfl,rfl,hT,HO'⟩:=H.begin hc h0 hr hb
  have hx:h'.X=none:=Bx H.ho hb
  exact⟨h',hx,hT,HO',rfl,rfl⟩
 ·rintro ch H' ⟨s',⟨_,h1,_⟩,_⟩
  rw[H.blk,H.hcc] at h1
  exact absurd h1 hr
end
theorem C2{s:Dev}{c:Cfg}{b:Blk}(h0:b.has c 0=false):∀ (ws:List Int) (x:gX),(∀ v∈ws,v=0)→ws.foldl (s.see c b) x=x
 | [],_,_=>rfl
 | v::t,x,h=>by
   have hv:=h v (List.mem_cons_self ..)
   subst hv
   simp only[List.foldl_cons]
   rw[show s.see c b x 0=x from by unfold Dev.see;rw[if_pos (.inr h0)]]
   exact C2 h0 t x fun v hv=>h v (List.mem_cons_of_mem _ hv)
theorem rg{s:Dev}{c:Cfg}(hc:bx c){b:Blk}(hb:gg c b){ws:List Int}(h:∀ v∈ws,v=0):s.reachSize c b ws=0:=by
 have h1:=hb.act
 have h4:=iE hc (k:=b.act) (by omega)
 have h0:b.has c 0=false:=by unfold Blk.has;simp;omega
 unfold Dev.reachSize Dev.reach
 rw[C2 h0 ws _ h]
 unfold Dev.reachL
 rfl
theorem xB{kp:Prop}{c:Cfg}(hc:bx c){N bd:Nat}{h:HpS}{s:Dev}{a:Int}(H:HC kp c N bd h s a 0 [])(hT:h.T.at_=[]):h.stats s=⟨0,0,0,0,false⟩:=by
 have hz:∀ v∈h.words++(h.blk s).rts,v=0:=fun v hv=>by
  rcases List.mem_append.1 hv with hv | hv
  ·unfold HpS.words at hv
   rw[hT] at hv
   simp[cf] at hv
  ·rw[H.blk] at hv
   exact(H.hm.heap.roots v hv).resolve_right fun h=>by cases h
 unfold HpS.stats
 rw[hT,H.sk.ln,H.ho,rg H.hw.c (dA H.hw.c H.hw.u) hz,H.blk]
 rfl
theorem isW{B:World}{Fr:List HP}{bm br n bh bd:Nat}{c:Cfg}{h:HpS}{s:Dev}(hn:n≤1000)(hW:dY h s)(hb:h.bd=bd)(hst:h.stats s=⟨0,0,0,0,false⟩)(hck:s.check h.c=0):∀ w,Holds B (dB bh h::aB bd s::eD bm br n c::eC br n::Fr) w→Calls Tryz.prog 45 [ptr bm,ptr bh].toArray w (a8 B (dB bh h::aB bd s::eD bm br n c::eC br n::Fr) (.bool true)):=by
 subst hb;exact AP B Fr bm br n c hn bh h s hW hst hck
theorem HC.check{kp:Prop}{c:Cfg}(hc:bx c){N bd:Nat}{h:HpS}{s:Dev}{a u:Int}{L:List Int}(H:HC kp c N bd h s a u L):s.check h.c=0:=by
 rw[H.hcc];exact pf hc H.hw.u H.hm.block H.hm.heap
theorem um{p:Int}(hp:p≠0):(⟨[],[],0⟩:gG).take p=(1,⟨[(1,p)],[(p,1)],1⟩):=by
 unfold gG.take
 rw[if_neg hp,if_neg (by simp[bJ])]
 rfl
theorem AL{m:Int→Int}{k w r:Int}(h:0≤r∧r≤w∧w≤64)(e:m k=et w r):orf m k=r∧osz m k=w+1:=by
 unfold orf osz
 rw[e,r7 h];exact⟨rfl,rfl⟩
theorem vi(B:World)(Fr:List HP):
 ∀ w,Holds B Fr w→Calls Tryz.prog 24 [].toArray w (a8 B Fr (.bool true)):=by
 refine ap func24 aa ntmps24 aa ?_
 obtain⟨c,hcm,hcs,hcl,hcr⟩:∃ c,c=mkC 0 0 40∧c.space=48∧c.log=3∧c.roots=1:=⟨_,rfl,rfl,rfl,rfl⟩
 have hc:bx c:=by rw[hcm];exact vW (by decide) (by decide) (by decide)
 have hA:=jl hc
 have hf0:=uY hc (a:=0) (by decide)
 refine ac (ab (kPa aa aa (ad (ac (ac (ab (aw aa (ar call43 aa) (vj _ _) .free aa aa ?_)))))))
 refine kPv (bj aa) aa (ad (bG aa (rfl) (aq (ac (ab (kPv (aQ aa (jk _ aa)) aa (aJ aa (ar call44 aa) (xf B _ 0 0 40 (by decide) c hcm) .free aa aa ?_)))))))
 rintro _ _ ⟨bd,bh,bm,br,N,s,hN,H0,rfl,rfl⟩
 obtain⟨h0,hh0⟩:∃ h0:HpS,h0=iO bd c s:=⟨_,rfl⟩
 rw[←hh0] at H0 ⊢
 have hT0:h0.T=⟨[],[],0⟩:=by rw[hh0];rfl
 refine kPm aa aa (kPv (aA aa aa) aa (kPv (aA aa aa) aa (kPv (aA aa aa) aa (kPa aa aa (kPa aa aa (kPa aa aa (ad (am [3,2,0] rfl (ac (ac (ab ?_)))))))))))
 refine kPm aa aa (kPv (du runUnderlying91 aa aa aa) aa (kPm aa aa (ak aa (aj aa) (.on aa aa (ae aa)) aa aa (ak aa (aj aa) (.on aa aa (ae aa)) aa aa (aw aa (ar call45 aa) (isW (by omega) H0.hw H0.hbd (xB hc H0 (by rw[hT0])) (H0.check hc)) (.on aa aa (ae aa)) aa aa ?_)))))
 refine ak aa (bj aa) (.on aa aa (ae aa)) aa aa (kPv (aG aa aa aa) aa (ad (am [22,2,0] rfl (bG aa (rfl) (aq (ac (ab (kPm aa aa (aJ aa (ar call46 aa) (CN hc H0 (by decide) (by omega)) .free aa aa ?_)))))))))
 rintro _ _ ⟨h1,hx1,hT1,H1,rfl,rfl⟩
 have hk1:h1.T.take (c.frm 0+0)=(1,⟨[(1,c.frm 0+0)],[(c.frm 0+0,1)],1⟩):=by rw[hT1,hT0];exact um (by omega)
 obtain⟨h2,s2,js2,e2,H2,hx2,hT2,_,hjl2,hl2⟩:=H1.alloc hc hx1 (w:=2) (r:=1) ⟨by decide,by decide,by decide⟩ (by omega) (.inr (by simp;omega)) (by rw[hT1,hT0];decide) (by rw[hT1,hT0];decide)
 rw[hk1] at e2 hT2
 have hk2:=AL (m:=s2.load) (k:=c.frm 0+0) (w:=2) (r:=1) ⟨by decide,by decide,by decide⟩ (by rw[hl2 _ (by omega),if_pos (by omega),if_pos rfl])
 obtain⟨h3,s3,js3,e3,H3,hx3,hT3,_⟩:=H2.write hc hx2 (n:=1) (k:=c.frm 0+0) (i:=1) (v:=7) (by rw[hT2];rfl) (by simp) (by omega) (by decide) (.inl (by rw[H2.ff,H2.ft];omega))
 obtain⟨h4,s4,e4,H4,hx4,hT4,_⟩:=H3.commit hc hx3
 have hu4:(h4.stats s4).used=3:=by
  show(h4.blk s4).used=3
  rw[H4.blk];rfl
 refine kPa aa aa (ad (ac (ab (kPm aa aa (kPv (aQ aa (kC _ _ aa aa)) aa (dO aa (ar call47 aa) (CU H1.hw H1.hbd e2) .free aa aa ?_))))))
 refine kPm aa aa (kPv (aA aa aa) aa (kPv (aA aa aa) aa (kPa aa aa (kPa aa aa (ad (am [6,5,4,2,0] rfl (ac (ab (kPm aa aa (kPv (al aa aa aa) aa (kPm aa aa ?_)))))))))))
 refine ak aa (aj aa) (.on aa aa (ae aa)) aa aa (ak aa (al aa aa aa) (.on aa aa (ae aa)) aa aa (kPv (ax aa aa aa) aa (kPm aa aa (ak aa (aj aa) (.on aa aa (ae aa)) aa aa (ak aa (al aa aa aa) (.on aa aa (ae aa)) aa aa (kPv (ax aa aa aa) aa (kPm aa aa (ak aa (aj aa) (.on aa aa (ae aa)) aa aa (dO aa (ar call48 aa) (BY H2.hw H2.hbd (by decide) e3) (.on aa aa (ae aa)) aa aa ?_)))))))))
 refine ak aa (al aa aa aa) (.on aa aa (ae aa)) aa aa (kPv (ax aa aa aa) aa (kPm aa aa (ak aa (aj aa) (.on aa aa (ae aa)) aa aa (dO aa (ar call49 aa) (Bs H3.hw H3.hbd e4) (.on aa aa (ae aa)) aa aa ?_))))
 refine ak aa (al aa aa aa) (.on aa aa (ae aa)) aa aa (kPv (ax aa aa aa) aa (kPm aa aa (ak aa (aj aa) (.on aa aa (ae aa)) aa aa (aw aa (ar call50 aa) (B3 H4.hw H4.hbd) (.on aa aa (ae aa)) aa aa ?_))))
 refine ak aa (hO runUnderlying106 (t:=3) (off:=0) aa isAgg3 aa aa) (.on aa aa (ae aa)) aa aa (ak aa (al aa aa aa) (.on aa aa (ae aa)) aa aa (kPv (ax aa aa aa) aa (kPa aa aa (ad (am [0] rfl (ay ?_))))))
 exact au results24 aa (fun w hw=>⟨by simp[hu4],(hw.dp [0,0,0,0])⟩)
def awS:List UInt8:=[97,108,108,111,99,32,49,32,50,32,35,32,97,32,110,111,100,101]
theorem Dz:num [49]=some 1:=by rw[←nM];rfl
theorem Dy:num [50]=some 2:=by rw[←nM];rfl
theorem Ai:cG awS=([(3,[1,2])],0,0):=by
 have h1:spl 10 awS=[awS]:=by decide
 have h2:tok (bR awS) none=[[97,108,108,111,99],[49],[50]]:=by decide
 have h3:cH [[97,108,108,111,99],[49],[50]]=((3,[1,2]),0):=rp (ws:=[[97,108,108,111,99],[49],[50]]) (k:=3) (by decide) rfl (by simp[fC,Dz,Dy])
 have h4:stP awS p0=(true,1,[(3,[1,2])],[],0,0):=by
  unfold stP p0
  simp only
  rw[h2,h3]
  rfl
 exact qd (by decide) (by rw[h1,uP (by rw[h4]),h4];rfl)
theorem z8{rs:List CR}(h:pS rs [(3,[1,2])]):∃ q c,rs=[(3,(q,2,c),[1,2])]:=by
 obtain⟨h1,h2⟩:=h
 match rs,h1 with
 | [(k,(q,n,c),l)],h1=>
   simp only[List.map_cons,List.map_nil,crC,List.cons.injEq,Prod.mk.injEq,and_true] at h1
   obtain⟨rfl,rfl⟩:=h1
   have h3:n=2:=h2 _ (List.mem_cons_self ..)
   subst h3
   exact⟨q,c,rfl⟩
theorem mN{B:World}{P:Program}{σ:Env}{H:List HP}{d:Option Tmp}{ty:TypeId}{p:String}{af:Array Edge}{g:Option (Nat×Bool)}{t:TypeId}{x:Operand}{b off k i j m cap:Nat}{cs:List (List Value)}{c:List Value}{v:Value}(ht:∀ w,(isAgg t).run P w= .ok false w)(hr:SlN B H (.slice (some ⟨b,off,none⟩) k cap) m cs)(hx:evO σ x=some (.pointer (some ⟨b,off+i*m+j,none⟩)))(hi:cs[i]? =some c)(hj:c[j]? =some v):
 Evs P B σ H ⟨d,.load t x,ty,p,af,g⟩ v:=by
 intro a w kn hh
 obtain⟨q,cp,e,hc⟩:=hr.ex
 obtain⟨b',off',e',hl,h2⟩:=hc w hh i c hi
 cases e
 cases e'
 have h3:=h2 j (by rw[←hl];exact(List.getElem?_eq_some_iff.1 hj).1)
 rw[hj, ←Nat.add_assoc] at h3
 simp[execOp,kn.eval hx,Instr.loadAt,Instr.sureAddr,loadVar,ht,load,Sem.run,h3]
theorem CF{B:World}{H:List HP}{q:Option Addr}{c b:Nat}(h:SlR B H (.slice q 2 c) [w64 1,w64 2])(g:SlR B H (.slice (some ⟨b,0,none⟩) 2 2) [w64 1,w64 2]):
 ∀ w,Holds B H w→Calls Tryz.prog 25 [.slice q 2 c,.slice (some ⟨b,0,none⟩) 2 2].toArray w (a8 B H (.bool true)):=fun w hw=>
 tM B H q (some ⟨b,0,none⟩) c 2 [1,2] [1,2] (by decide) (by decide) (fun i hi=>vF h hw i hi) (fun _ _=>⟨_,_,rfl⟩) h g w hw
theorem Bz:o7 (3,[1,2])=[97,108,108,111,99,32,49,32,50]:=by
 unfold o7
 rw[if_neg (by decide)]
 show([97,108,108,111,99]++([32]++Lib.decDigits 1))++([32]++Lib.decDigits 2)=_
 rw[ky (by decide),ky (by decide)]
 rfl
theorem CQ{B:World}{H:List HP}[cV H B](gl:GL B)(fg:FG B){q:Option Addr}{c:Nat}(h:SlR B H (.slice q 2 c) [w64 1,w64 2]):
 ∀ w,Holds B H w→Calls Tryz.prog 13 [.agg #[i64 3,.slice q 2 c]].toArray w (a8 B H (str [97,108,108,111,99,32,49,32,50])):=fun w hw=>by
 rw[←Bz]
 exact z7 B H gl fg 3 q c [1,2] (by decide) (by decide) h (fun i hi=>vF h hw i hi) w hw
theorem vh(B:World)(Fr:List HP)[cV Fr B](gl:GL B)(fg:FG B):
 ∀ w,Holds B Fr w→Calls Tryz.prog 11 [].toArray w (a8 B Fr (.bool true)):=by
 refine ap func11 aa ntmps11 aa (ac (ab (kPa aa aa (ad (ac (ac (ab (aw aa (ar call24 aa) (vi _ _) .free aa aa ?_))))))))
 refine kPv (bj aa) aa (ad (bG aa (rfl) (aq (ac (ab (aJ aa (ar call14 aa) (sK B Fr gl fg awS) .free aa aa ?_))))))
 rintro _ _ ⟨sv,hsv,rfl,rfl⟩
 rw[Ai]
 refine kPm aa aa (kPv (aA aa aa) aa (kPv (aA aa aa) aa (kPv (aA aa aa) aa (kPa aa aa (kPa aa aa (kPa aa aa (ad (am [3,2,1,0] rfl (ac (rB fun rs hrs=> ?_))))))))))
 obtain⟨qa,ca,hrs1⟩:=z8 hrs
 subst hrs1
 refine lY fun q4 cap4 hq4 hqi4=> ?_
 subst hq4
 obtain⟨b4,o4,rfl⟩:=hqi4 0 (Nat.zero_lt_succ _)
 refine ab (kPm aa aa (kPv (al aa aa aa) aa (kPm aa aa (ak aa (aj aa) (.on aa aa (ae aa)) aa aa (ak aa (al aa aa aa) (.on aa aa (ae aa)) aa aa (kPv (ax aa aa aa) aa (kPm aa aa (ak aa (aj aa) (.on aa aa (ae aa)) aa aa (ak aa (bB aa runUnderlying24 ⟨_,rfl⟩ rfl) (.on aa aa (ae aa)) aa aa (ak aa (al aa aa aa) (.on aa aa (ae aa)) aa aa (kPv (ax aa aa aa) aa ?_)))))))))))
 refine kPm aa aa (ak aa (aj aa) (.on aa aa (ae aa)) aa aa (ak aa (la (sz:=2) (m:=o4+0*2) runUnderlying24 sizeOf32 aa aa (by decide) (by simp) aa) (.on aa aa (ae aa)) aa aa (ak aa (aE (m:=_) iG aa aa) (.on aa aa (ae aa)) aa aa (ak aa (mN (i:=0) (j:=0) (c:=crE (3,(qa,2,ca),[1,2])) (v:=i64 3) isAgg29 (jY nn 0 aa) aa aa aa) (.on aa aa (ae aa)) aa aa (ak aa (al aa aa aa) (.on aa aa (ae aa)) aa aa (kPv (ax aa aa aa) aa (kPm aa aa (ak aa (aj aa) (.on aa aa (ae aa)) aa aa (ak aa (la (sz:=2) (m:=o4+0*2) runUnderlying24 sizeOf32 aa aa (by decide) (by simp) aa) (.on aa aa (ae aa)) aa aa (ak aa (aE (m:=_) iF aa aa) (.on aa aa (ae aa)) aa aa (ak aa (mN (i:=0) (j:=1) (c:=crE (3,(qa,2,ca),[1,2])) (v:= .slice qa 2 ca) isAgg30 (jY nn 0 aa) aa aa aa) (.on aa aa (ae aa)) aa aa ?_)))))))))))
 refine cK aa (ve runUnderlying30 sizeOf25 zeroValue25 aa aa aa aa aa) (.on aa aa (ae aa)) aa aa ?_
 rintro _ _ ⟨b34,rfl,rfl⟩
 refine aw aa (ar call25 aa) (CF (oM 2 aa (t:=(3,(qa,2,ca),[1,2])) (List.mem_cons_self ..) aa) (SlR.row (b:=b34) (n:=2) (cap:=2) (off:=0) (cs:=[w64 1,w64 2]) aa aa)) (.on aa aa (ae aa)) aa aa ?_
 refine kPv (ax aa aa aa) aa (kPm aa aa (ak aa (aj aa) (.on aa aa (ae aa)) aa aa (ak aa (la (sz:=2) (m:=o4+0*2) runUnderlying24 sizeOf32 aa aa (by decide) (by simp) aa) (.on aa aa (ae aa)) aa aa (ak aa (ix (i:=0) (c:=crE (3,(qa,2,ca),[1,2])) isAgg32 sizeOf32 (jY nn 1 aa) aa aa) (.on aa aa (ae aa)) aa aa (aw aa (ar call13 aa) (CQ gl fg (oM 2 aa (t:=(3,(qa,2,ca),[1,2])) (List.mem_cons_self ..) aa)) (.on aa aa (ae aa)) aa aa ?_)))))
 refine ak aa (mO aa aa aa) (.on aa aa (ae aa)) aa aa (kPv (ax aa aa aa) aa (kPa aa aa (ad (am [0] rfl (ay ?_)))))
 exact au results11 aa (fun w hw=>⟨by rfl,(hw.dp [0,0,0])⟩)
theorem mG{P:Program}{n:String}{d:DataW Unit}{r:List (String×DataW Unit)}{W:World}{g:Nat}{t:TypeId}(h:laidMet P ((n,d)::r) W)(hg:P.globalNamed n=some g)(ht:(P.globals[g]?).map (·.type)=some t):
 ∃ cs fuel p,W.var? P n=some cs∧DataW.trod (fun _=>()) P W 0 (fun _=>true) false fuel t cs.toList=some (d,p):=by
 obtain⟨ps,⟨g',t',cs,fuel,p,q,hg',ht',hv,hd,_⟩,_⟩:=h
 obtain rfl:=Option.some.inj (hg.symm.trans hg')
 obtain rfl:=Option.some.inj (ht.symm.trans ht')
 exact⟨cs,fuel,p,hv,hd⟩
theorem ym(s:ByteArray):str s.data.toList= .string s:=by
 show Value.string ⟨s.data.toList.toArray⟩=_
 rw[Array.toArray_toList]
theorem pj{H:Type}{enc:TypeId×Value→H}{P:Program}{W:World}{base fuel:Nat}{sp:Nat→Bool}{held:Bool}{TE:TypeId}{cs:List Value}{f0 f1:Field}{l:List UInt8}{n:Int}{p:List MemPlace}
 (ht:P.underlying TE=some (.struct #[f0,f1])) (o0:f0.offset=0) (o1:f1.offset=1) (c0:P.cellsOf f0.type=1) (c1:P.cellsOf f1.type=1) (cT:P.cellsOf TE=2) (h0:P.underlying f0.type=some .string) (h1:P.underlying f1.type=some (.int .i64))
 (h:DataW.trod enc P W base sp held fuel TE cs=some (.agg [.lit (.string l),.lit (.int .i64 n)],p)):cs=[str l,.int .i64 n]:=by
 obtain⟨y0,y1,m,e,hl,g0,g1⟩:=Go.ChangeShapes.trod_struct2 ht h
 rw[o0,c0] at g0
 rw[o1,c1] at g1
 rw[cT] at hl
 match cs,hl with
 | [u,v],_=>
   obtain⟨s,es,ey,_⟩:=DataW.trod_string h0 g0
   obtain⟨k,ek,ez,_⟩:=DataW.trod_int h1 g1
   have es:[u]=[Value.string s]:=es
   have ek:[v]=[Value.int .i64 k]:=ek
   cases es;cases ek
   rw[ey,ez] at e
   simp only[Prod.mk.injEq,DataW.agg.injEq,List.cons.injEq,DataW.lit.injEq,Lit.string.injEq,Lit.int.injEq,true_and,and_true] at e
   obtain⟨⟨rfl,rfl⟩,_⟩:=e
   rw[ym]
theorem q8{H:Type}{enc:TypeId×Value→H}{C:Checked}{os:Os}{f:FuncId}{fn:Func}{s:ChangeSpec}{conds:List PathCond}{apart fresh handsOn again:Bool}{laid:List (String×DataW Unit)}
 (own:ownKnob C.prog.godebug=none) (started:os.Started) (noInit:C.prog.inits.idxOf? f=none) (hfn:C.prog.funcs[f]? =some fn)
 (witness:∃ (w:World) (tape:Tape) (i:Input),w.os=os∧(w.forCall tape i).Shaped C.prog∧i.vars=[]∧Input.okWide C.prog (w.forCall tape i) .any w.heap.size f i∧
  ((s.pre enc C.prog fn conds apart (w.forCall tape i).memory i.args∧laidMetH C.prog laid (w.forCall tape i).memory)∧sizedMet enc C.prog fn (OpenSpec.ofChange s) apart (w.forCall tape i).memory i.args)∧({}:Assume).holds C.prog (lone (Frame.enter C.prog f i.args .normal) [] (w.forCall tape i)))
 (contract:∀ (W:World) (base:Nat) (args:Array Value) (ds gs:List (DataW H)) (before:List MemPlace),(∀ (j:Nat) t v,fn.params[j]? =some t→args[j]? =some v→Value.okWide C.prog W .any base t v)→
  DataW.Whole enc C.prog fn.params.toList s.vars apart W args.toList ds gs before→conds.all (PathCond.test C.prog ⟨fn.params.toList,ds,s.plain.varTypes C.prog,gs⟩)=true→laidMetH C.prog laid W→W.ShapedOpen C.prog→
  Calls C.prog f args W fun e W'=>∃ v,e= .returned v∧s.post enc C.prog fn apart fresh handsOn again W args v W'):
 ReturnsInHanded {} C os f .any (fun w args=>(s.pre enc C.prog fn conds apart w args∧laidMetH C.prog laid w)∧sizedMet enc C.prog fn (OpenSpec.ofChange s) apart w args) (s.post enc C.prog fn apart fresh handsOn again):=by
 refine returnsInHanded_of_calls own started noInit witness ?_
 intro w tape i _ hsh _ hok hpre _
 obtain⟨_,_,_,fn',hfn',_,_,_,_,hval⟩:=hok
 obtain rfl:fn'=fn:=Option.some.inj (hfn'.symm.trans hfn)
 obtain⟨⟨⟨ds,gs,before,hw,hc⟩,hx⟩,hz⟩:=hpre
 refine(contract (w.forCall tape i) w.heap.size i.args ds gs before hval (DataW.Whole.of_heap (w':=w.forCall tape i) (by rfl) hw) hc (laidMetH.of_heap (by rfl) hx) hsh).mono fun e W' ⟨v,he,hp⟩=> ?_
 subst he
 exact ChangeSpec.post_blind hp
def qI{H:Type}(k:Nat):DataW H:= .agg [.lit (.string (fw k)),.lit (.int .i64 (fm k))]
set_option maxRecDepth 100000 in
theorem Df{W:World}{r:List (String×DataW Unit)}(h:laidMet Tryz.prog (("tumulus/script.forms",Rows.laid_tumulus_script_forms)::r) W):FG W:=by
 obtain⟨cs,fuel,p,hv,hd⟩:=mG (g:=1) (t:=62) h (by kernel_rfl) (by kernel_rfl)
 obtain⟨xs,m,_,ex,_,hxl,hel⟩:=DataW.trod_array underlying62 hd
 have em:xs.map (·.1)=(List.range 18).map qI:=(DataW.agg.inj (Prod.mk.inj ex).1).symm.trans (by kernel_rfl)
 have c2:Tryz.prog.cellsOf 61=2:=by kernel_rfl
 have each:∀ i,i<18→(cs.toList.drop (i*2)).take 2=[str (fw i),i64 (fm i)]:=fun i hi=>by
  have h1:=hel i hi
  rw[c2,List.getElem?_eq_getElem (by omega)] at h1
  have h2:(xs[i]'(by omega)).1=qI i:=by
   have:=congrArg (fun l=>l[i]?) em
   simp only[List.getElem?_map,List.getElem?_eq_getElem (show i<xs.length by omega),List.getElem?_range hi,Option.map_some,Option.some.injEq] at this
   exact this
  rw[show xs[i]'(by omega)=(qI i,(xs[i]'(by omega)).2) from Prod.ext h2 rfl] at h1
  exact pj underlying61 aa aa (by kernel_rfl) (by kernel_rfl) (by kernel_rfl) underlying9 underlying3 h1
 refine⟨fun i hi=>⟨_,_,rfl,rfl,fun j hj=> ?_⟩⟩
 have h1:=each (j / 2) (by omega)
 have h2:=mK (j / 2) (by omega)
 have h3:=congrArg (fun l=>l[j%2]?) (h1.trans h2.symm)
 simp only[List.getElem?_take,List.getElem?_drop,if_pos (show j%2<2 by omega),show j / 2*2+j%2=j by omega] at h3
 rw[←h3,show 0+(i*36+j)=j by omega]
 exact(World.var?_cell (by kernel_rfl) hv j).trans (by simp)
set_option maxRecDepth 100000 in
theorem C6{W:World}{r:List (String×DataW Unit)}(h:laidMet Tryz.prog (("tumulus/tumuluslaw18.forms",Rows.laid_tumulus_tumuluslaw18_forms)::r) W):LF W:=by
 obtain⟨cs,fuel,p,hv,hd⟩:=mG (g:=0) (t:=56) h (by kernel_rfl) (by kernel_rfl)
 have e0:(Rows.laid_tumulus_tumuluslaw18_forms:DataW Unit)= .slice ((List.range 18).map qI) []:=by kernel_rfl
 rw[e0] at hd
 rcases Go.Deep.open_slice underlying56 hd with ⟨_,hx⟩ | ⟨y,len,cap,m,n,D,Pl,hcs,_,hl,hm,hmm,hx,hel⟩
 ·cases hx
 ·have hx1:(List.range 18).map qI=(List.range len).map D:=by injection hx with hx _;injection hx with hx _
  have hlen:len=18:=by have:=congrArg List.length hx1;simpa using this.symm
  subst hlen
  have hD:∀ i,i<18→D i=qI i:=fun i hi=>by
   have:=congrArg (fun l=>l[i]?) hx1
   simp only[List.getElem?_map,List.getElem?_range hi,Option.map_some,Option.some.injEq] at this
   exact this.symm
  have hm18:18≤m:=by rw[hmm];split<;>omega
  have c2:Tryz.prog.cellsOf 55=2:=by kernel_rfl
  have each:∀ i,i<18→W.cell? (y.add (i*2))=some (str (fw i))∧W.cell? ((y.add (i*2)).add 1)=some (i64 (fm i)):=fun i hi=>by
   obtain⟨cs',h1,h2⟩:=hel i (by omega)
   rw[c2] at h1
   rw[hD i hi] at h2
   have h3:=pj underlying55 rfl rfl (by kernel_rfl) (by kernel_rfl) (by kernel_rfl) underlying9 underlying3 h2
   subst h3
   have hs:=World.cells?_some h1
   exact⟨hs.2.2 0 (by decide),hs.2.2 1 (by decide)⟩
  obtain⟨b,o,s⟩:=y
  have hs:s=none:=by
   have h1:=(each 0 (by decide)).1
   have e0:(⟨b,o,s⟩:Addr).add (0*2)=⟨b,o,s⟩:=rfl
   rw[e0] at h1
   unfold World.cell? at h1
   split at h1
   ·cases s with
    | none=>rfl
    | some q=>simp at h1
   ·cases h1
  subst hs
  refine⟨b,o,cap,?_,⟨fun i hi=>⟨b,o,rfl,rfl,fun j hj=> ?_⟩⟩⟩
  ·have:=World.var?_cell (g:=0) (by kernel_rfl) hv 0
   rw[this, ←Array.getElem?_toList,hcs];rfl
  ·obtain⟨h1,h2⟩:=each i hi
   match j,hj with
   | 0,_=>exact(congrArg W.cell? (gE b o (i*2))).symm.trans h1
   | 1,_=>exact((congrArg (fun a:Addr=>W.cell? (a.add 1)) (gE b o (i*2))).trans (congrArg W.cell? (gE b (o+i*2) 1))).symm.trans h2
set_option maxRecDepth 100000 in
theorem C7{W:World}{r:List (String×DataW Unit)}(hs:W.ShapedOpen Tryz.prog)(h:laidMet Tryz.prog (("math/bits.deBruijn32tab",Rows.laid_math_bits_deBruijn32tab)::("math/bits.deBruijn64tab",Rows.laid_math_bits_deBruijn64tab)::("internal/strconv.uint64pow10",Rows.laid_internal_strconv_uint64pow10)::("unicode/utf8.acceptRanges",Rows.laid_unicode_utf8_acceptRanges)::("strconv.ErrRange",Rows.laid_strconv_ErrRange)::("strconv.ErrSyntax",Rows.laid_strconv_ErrSyntax)::r) W):GL W:=by
 have h2:=h.tail.tail
 have h4:=h2.tail.tail
 have cell:∀ {nm:String} {d d2:DataW Unit} {r:List (String×DataW Unit)} {g ti:Nat},laidMet Tryz.prog ((nm,.iface "*errors.errorString" d)::r) W→Tryz.prog.globalNamed nm=some g→(Tryz.prog.globals[g]?).map (·.type)=some ti→ti=76→∃ te pe,W.cell? ⟨g,0,none⟩=some (.iface te pe):=by
  intro nm d d2 r g ti h hg ht e
  subst e
  obtain⟨cs,fuel,p,hv,hd⟩:=mG h hg ht
  obtain⟨_,u,v,e,_⟩:=iface_of_trod underlying76 hd
  refine⟨u,v,?_⟩
  rw[World.var?_cell hg hv 0, ←Array.getElem?_toList,e];rfl
 refine⟨Lib.tabIs_of_head (g:=2) (by kernel_rfl) (by kernel_rfl) underlying181 underlying25 (by kernel_rfl) (by kernel_rfl) (show laidMet Tryz.prog (("internal/strconv.uint64pow10",Lib.tabData .u64 Lib.pow10Tab)::_) W from h2),?_,cell (g:=6) (d2:= .nil) h4.tail (by kernel_rfl) (by kernel_rfl) aa,cell (g:=7) (d2:= .nil) h4 (by kernel_rfl) (by kernel_rfl) aa⟩
 exact cell_of_shapedOpen_int (g:=3) (zero:= #[.int .i64 0]) hs (by decide+kernel) (by kernel_rfl) (by kernel_rfl) (by kernel_rfl) (by kernel_rfl) underlying3
theorem xN(s:ByteArray):∃ l:List UInt8,Value.string s=str l∧l.length=s.size:=⟨s.data.toList,(ym s).symm,Array.length_toList⟩
structure vx(c:Cmd):Prop where
 k:0≤c.1∧c.1<18
 n:c.2.length=fm c.1.toNat
 b:∀ n∈c.2,0≤n∧n<18446744073709551616
theorem Cm{s:List UInt8}{u:Nat}(h:num s=some u):u<18446744073709551616:=by
 unfold num at h
 split at h
 ·rename_i v hv
  split at h
  ·cases h;exact sM hv
  ·cases h
 ·cases h
theorem vT:∀ {l:List (List UInt8)} {ns:List Int},fC l=some ns→ns.length=l.length∧∀ n∈ns,0≤n∧n<18446744073709551616
 | [],ns,h=>by cases h;exact⟨rfl,fun n hn=>by cases hn⟩
 | s::t,ns,h=>by
   unfold fC at h
   cases hn:num s with
   | none=>rw[hn] at h;cases h
   | some u=>
     rw[hn] at h
     cases ht:fC t with
     | none=>simp[ht] at h
     | some m=>
       simp only[ht,Option.map_some,Option.some.injEq] at h
       subst h
       obtain⟨h1,h2⟩:=vT ht
       have hu:=Cm hn
       refine⟨by simp[h1],fun n hn=> ?_⟩
       rcases List.mem_cons.1 hn with rfl | hn
       ·omega
       ·exact h2 n hn
theorem AQ{ws:List (List UInt8)}(h:(cH ws).2=0):vx (cH ws).1:=by
 unfold cH at h ⊢
 cases hk:gz (ws.getD 0 []) with
 | none=>rw[hk] at h;cases h
 | some p=>
   obtain⟨k,m⟩:=p
   obtain⟨_,h2,_,rfl⟩:=iN hk
   rw[hk] at h
   simp only at h ⊢
   split at h
   ·cases h
   ·rename_i hl
    rw[if_neg hl]
    cases hn:fC (ws.drop 1) with
    | none=>rw[hn] at h;cases h
    | some ns=>
      obtain⟨h3,h4⟩:=vT hn
      refine⟨⟨by simp only;omega,by simp only;omega⟩,?_,h4⟩
      simp only[List.length_drop] at h3 ⊢
      rw[Int.toNat_natCast]
      omega
theorem BQ:∀ (l:List (List UInt8)) (x:PSt),x.2.1.length≤400→(∀ c∈x.2.1,vx c)→(itl stP l x).2.2.1.length≤400∧∀ c∈(itl stP l x).2.2.1,vx c
 | [],x,h1,h2=>⟨h1,h2⟩
 | a::t,x,h1,h2=>by
   have key:(stP a x).2.2.1.length≤400∧∀ c∈(stP a x).2.2.1,vx c:=by
    unfold stP
    simp only
    split
    ·exact⟨h1,h2⟩
    ·split
     ·exact⟨h1,h2⟩
     ·rename_i h3
      split
      ·exact⟨h1,h2⟩
      ·rename_i h4
       refine⟨by simp only[List.length_append,List.length_cons,List.length_nil];omega,fun c hc=> ?_⟩
       rcases List.mem_append.1 hc with hc | hc
       ·exact h2 c hc
       ·rw[List.mem_singleton.1 hc];exact AQ (by simpa using h4)
   unfold itl
   split
   ·exact BQ t _ key.1 key.2
   ·exact key
theorem yO(s:List UInt8):(cG s).1.length≤400∧∀ c∈(cG s).1,vx c:=by
 unfold cG
 split
 ·exact⟨by simp,fun c hc=>by cases hc⟩
 ·split
  ·exact BQ _ p0 (by decide) fun c hc=>by cases hc
  ·rename_i h
   have:=qY (spl 10 s) p0 (by simpa using h)
   rw[this]
   exact⟨by simp,fun c hc=>by cases hc⟩
theorem vx.len{c:Cmd}(h:vx c):c.2.length≤3:=by
 rw[h.n];exact zs _ (by have:=h.k;omega)
theorem Ab{B:World}{H:List HP}{q:Option Addr}{cap:Nat}{rs:List CR}{l:List Cmd}(hr:pS rs l)(hl:∀ c∈l,c.2.length≤1000000)(i j:Nat)(e:H[i]? =some (gF 32 2 crE 0 (.slice q rs.length cap,rs)))(e2:H[j]? =some (grp (rs.map jU))):CmR B H q cap rs:=by
 refine⟨jY nn i e,fun t ht=>⟨oM j e2 ht (hr.2 t ht),hr.2 t ht,hl (crC t) ?_⟩⟩
 rw[←hr.1];exact List.mem_map_of_mem ht
theorem tj{B:World}{Fr:List HP}{sv:Value}{rs:List CR}{w:World}(h:Holds B (gF 32 2 crE 0 (sv,rs)::Fr) w):∃ q cap,sv= .slice q rs.length cap:=by
 rcases eG h with ⟨e1,e2,_⟩ | ⟨bd,pre,rest,k,_,e,_⟩
 ·exact⟨none,0,by rw[e2,e1];rfl⟩
 ·exact⟨_,_,e⟩
theorem w7{B:World}{Fr:List HP}{s1 s2:Value}{l1 l2:List Cmd}(h1:∀ c∈l1,c.2.length≤1000000)(h2:∀ c∈l2,c.2.length≤1000000)(n1:l1.length≤1000000)(n2:l2.length≤1000000):
 ∀ w,Holds B (ge 0 (s1,l1)::ge 0 (s2,l2)::Fr) w→Calls Tryz.prog 15 [s1,s2].toArray w (a8 B (ge 0 (s1,l1)::ge 0 (s2,l2)::Fr) (.bool (decide (l1=l2)))):=fun w hw=>by
 obtain⟨r1,k1,g1⟩:=lq hw
 have g2:=g1.front 2 rfl
 obtain⟨r2,k2,g3⟩:=lq g2
 obtain⟨q2,c2,rfl⟩:=tj g3
 obtain⟨q1,c1,rfl⟩:=tj (g3.front 2 rfl)
 have e1:r1.length=l1.length:=by rw[←k1.1,List.length_map]
 have e2:r2.length=l2.length:=by rw[←k2.1,List.length_map]
 have g4:=AE B _ q1 q2 c1 c2 r1 r2 (by omega) (by omega) (Ab k1 h1 2 3 rfl rfl) (Ab k2 h2 0 1 rfl rfl) w g3
 rw[k1.1,k2.1] at g4
 refine g4.mono fun e w' h=> ?_
 have back:∀ w',Holds B (gF 32 2 crE 0 (.slice q2 r2.length c2,r2)::grp (r2.map jU)::gF 32 2 crE 0 (.slice q1 r1.length c1,r1)::grp (r1.map jU)::Fr) w'→Holds B (ge 0 (.slice q1 r1.length c1,l1)::ge 0 (.slice q2 r2.length c2,l2)::Fr) w':=fun w' h=>
  fx k1 ((fx k2 h).pk [1,1])
 exact⟨h.1,back _ h.2⟩
set_option maxRecDepth 100000 in
theorem uf{H:Type}{enc:TypeId×Value→H}{W:World}{r:Reach}{base b1:Nat}{held:Bool}{sp:Nat→Bool}{v:Value}{x:DataW H×List MemPlace}
 (hv:Value.okWide Tryz.prog W r b1 53 v) (h:∃ fuel,DataW.trod enc Tryz.prog W base sp held fuel 53 v.cells.toList=some x):
 ∃ z:Int×Int×Int×Int,v= .agg #[w64 z.1,w64 z.2.1,w64 z.2.2.1,w64 z.2.2.2]∧∀ n∈[z.1,z.2.1,z.2.2.1,z.2.2.2],0≤n∧n<18446744073709551616:=by
 obtain⟨fuel,hf⟩:=h
 simp only[Value.okWide,underlying53] at hv
 obtain⟨cs,rfl,hsz,_⟩:=hv
 have hsz:cs.size=4:=hsz
 obtain⟨xs,m,_,_,_,hxl,hel⟩:=DataW.trod_array underlying53 hf
 have c1:Tryz.prog.cellsOf 25=1:=by kernel_rfl
 obtain⟨l⟩:=cs
 match l,hsz with
 | [p,q,s,t],_=>
   have each:∀ i,(hi:i<4)→∃ a,[p,q,s,t][i]? =some (w64 a)∧0≤a∧a<18446744073709551616:=fun i hi=>by
    have h1:=hel i hi
    rw[c1,List.getElem?_eq_getElem (by omega),Nat.mul_one] at h1
    obtain⟨a,e,_,wa⟩:=DataW.trod_int underlying25 h1
    have e2:(([p,q,s,t].drop i).take 1)[0]? =some (w64 a):=by
     have:=congrArg (fun l=>l[0]?) e
     exact this
    have hw:=bounds_u64 wa
    exact⟨a,by simpa using e2,by omega,by omega⟩
   obtain⟨a,ea,ha⟩:=each 0 (by decide)
   obtain⟨b,eb,hb⟩:=each 1 (by decide)
   obtain⟨c,ec,hc⟩:=each 2 (by decide)
   obtain⟨d,ed,hd⟩:=each 3 (by decide)
   cases ea;cases eb;cases ec;cases ed
   refine⟨(a,b,c,d),rfl,fun n hn=> ?_⟩
   simp only[List.mem_cons,List.not_mem_nil,or_false] at hn
   rcases hn with rfl | rfl | rfl | rfl
   ·exact ha
   ·exact hb
   ·exact hc
   ·exact hd
namespace scriptWords
theorem Dk:(Rows.scriptWordsRow.inPlace==Tryz.pinned.checked.prog.inPlace 9)=true:=by kernel_rfl
theorem Dj:(Rows.scriptWordsRow.unfollowed==Tryz.pinned.checked.prog.unfollowed 9)=true:=by kernel_rfl
theorem Di:(Rows.scriptWordsRow.recurses==Tryz.pinned.checked.prog.recurses 9)=true:=by kernel_rfl
theorem Dh:(Rows.scriptWordsRow.named==Tryz.pinned.checked.prog.varsNamed 9)=true:=by kernel_rfl
theorem Dg:joinedFacts Tryz.pinned.checked.prog 9 Tryz.f9 Rows.scriptWordsSpec Rows.scriptWordsRow=true:=by
 unfold joinedFacts
 rw[Dk,Dj,Di,Dh]
 kernel_rfl
theorem named:Tryz.pinned.checked.prog.funcNamed Rows.scriptWordsRow.func=some 9:=by kernel_rfl
theorem DB:Tryz.f9.isInstance Tryz.pinned.checked.prog Rows.scriptWordsRow.origin Rows.scriptWordsRow.targs:=of_decide_eq_true (by kernel_rfl)
theorem wrap:Tryz.f9.isWrapper Tryz.pinned.checked.prog Rows.scriptWordsRow.wrapper Rows.scriptWordsRow.mainSum:=by unfold Func.isWrapper;first | (rw[if_pos (by decide+kernel)];kernel_rfl) | (rw[if_neg (by decide+kernel)];exact⟨rfl,rfl⟩)
end scriptWords
end Go.Proofs.YtoakdoeajpjgkaaGreatDoor
