/- Part of a law's texts. Conditions: none. -/
import Derived.Test.YtlcibdhmgclfjaaGreatQL17Rr
open Go.Proofs.Tryz
set_option linter.all false
namespace Go.Proofs.YtlcibdhmgclfjaaGreat
open Go
theorem MdW.free{M:Md}{K:Nat}(W:MdW M K){l t:Int}(hl: -1≤l∧l≤10000000)(ht:0≤t∧t≤100000000)(o:Bool):MdW {M with left:=l,used:=t,o:=o,seen:=[],fresh:=[],undo:=[]} K:=
 {W with lf:=hl,us:=ht,fi:=InL.nil _,si:=fun k h=>(by cases h),sl:=(by have:=W.c.l1;have:=W.c.r1;show(0:Int)≤M.c.log;omega),uw:=fun u h=>(by cases h),fl:=Nat.zero_le _,ul:=Nat.zero_le _}
theorem MdW.left1{M:Md}{K:Nat}(W:MdW M K):MdW {M with left:= -1} K:=
 {W with lf:=(show(-1:Int)≤ -1∧(-1:Int)≤10000000 by decide),uw:=fun u hu=>(W.uw u hu).congr (fun _ e=>e) rfl fun _ _=>⟨rfl,rfl⟩}
section
variable {c:Cfg} {N bd:Nat} {h:HpS} {s:Dev} {M:Md} {D:List Nat} {f:Nat→Int} {a u:Int} {L:List Int} {K:Nat}
theorem eQ.noX(S:eQ c N bd h s M D f a u L K):eQ c N bd {h with X:=none} s {M with left:= -1} D f a u L K:=
 ⟨⟨S.hc,S.hm,S.hcc,S.H.noX.hw,S.G,S.T,S.W.left1,S.cc,S.di⟩,S.H.noX,S.us,S.mo,S.se,rfl⟩
theorem eQ.open_(S:eQ c N bd h s M D f a u L K)(hX:h.X=none){room:Int}(h0:0≤room)(hr:¬ c.space - u<room):et c N bd (h.opened s) s {M with left:= -1,o:=true,seen:=[],fresh:=[],undo:=[]} D f a u L K s.now [] u s.load L D:=by
 have e:({h with X:=none}:HpS)=h:=by cases h;simp only at hX;subst hX;rfl
 have hru:¬ h.c.space - (h.blk s).used<room:=by rw[S.H.blk,S.H.hcc];exact hr
 have hb:h.begR s room 0 (h.opened s) s:= .inr (.inr ⟨S.H.ho,h0,0,h,s,.inr ⟨hru,rfl,e.symm,rfl⟩,.inr (.inr ⟨rfl,hru,rfl,rfl,rfl⟩)⟩)
 obtain⟨_,_,hT,HO1⟩:=S.H.begin S.hc h0 hr hb
 have hW:MdW {M with left:= -1,used:=M.used,o:=true,seen:=[],fresh:=[],undo:=[]} K:=S.W.free (by decide) S.W.us true
 have htm:=fun k hk=>S.hm.tile.mem (k:=k) hk
 refine⟨⟨S.hc,S.hm,HO1.hcc,HO1.hw,S.G,by rw[hT];exact S.T,hW,S.cc,S.di⟩,HO1,hX,S.us,rfl,rfl,rfl,fun x=>by simp,fun k hk=>(by cases hk),fun b hb=> ?_,fun k hk=> .inl (htm k hk).2.1,fun x h1 h2=> ?_,S.hm,fun b=> ?_,S.G,S.us⟩
 ·have h2:=htm _ (S.G.inL b hb)
  have h3:=cu s.load (f b)
  exact⟨fun h=>(by cases h),fun h=>by omega⟩
 ·exact(ef aa (by rw[S.H.sk.n];omega)).symm
 ·refine⟨fun hb=>⟨hb,?_⟩,And.left⟩
  have h2:=htm _ (S.G.inL b hb)
  have h3:=cu s.load (f b)
  omega
theorem eQ.begin(S:eQ c N bd h s M D f a u L K)(room:Int):(∀ s',¬ h.cuts s s' (.begin room))∧∀ x h' s',h.begR s room x h' s'→x=(M.begin room).1∧Sim c N bd h' s' (M.begin room).2 K:=by
 have hcu:h.c.space - (h.blk s).used=c.space - u:=by rw[S.H.blk,S.H.hcc]
 have hbn:∀ r,¬ r<0→M.begin r=if c.space - u<r then (if c.space - M.size<r then (4,{M with left:= -1,used:=M.size}) else (0,{M with left:= -1,used:=M.size,o:=true,seen:=[],fresh:=[],undo:=[]})) else (0,{M with left:= -1,o:=true,seen:=[],fresh:=[],undo:=[]}):=fun r hr=>by
  unfold Md.begin;rw[if_neg (by rw[S.mo];decide),if_neg hr,S.cc,S.us]
 obtain⟨g1,g2⟩:=S.noX.collect
 refine⟨fun s' h9=>g1 s' h9.2.2,fun x h' s' h9=> ?_⟩
 rcases h9 with ⟨h1,_⟩ | ⟨_,h1,rfl,rfl,rfl⟩ | ⟨_,h1,a1,h2,s2,hor,hor2⟩
 ·rw[S.H.ho] at h1;cases h1
 ·have e:M.begin room=(1,M):=by unfold Md.begin;rw[if_neg (by rw[S.mo];decide),if_pos h1]
  rw[e];exact⟨rfl,.inl ⟨D,f,a,u,L,S⟩⟩
 rw[hbn room (by omega)]
 rcases hor with ⟨h3,h4⟩ | ⟨h3,rfl,rfl,rfl⟩
 ·rw[hcu] at h3
  rw[if_pos h3]
  obtain⟨k1,k2,D',f',a',u',L',S2⟩:=g2 _ _ _ h4
  have hmc:({M with left:= -1}:Md).collect=(0,{M with left:= -1,used:=M.size}):=by
   unfold Md.collect;rw[if_neg (by show ¬ M.o=true;rw[S.mo];decide)];rfl
  rw[hmc] at k1 S2
  have hu2:M.size=u':=S2.us
  have hcu2:h.c.space - (h2.blk s2).used=c.space - u':=by rw[S2.H.blk,S.H.hcc]
  rw[hcu2] at hor2
  rcases hor2 with ⟨h5,_⟩ | ⟨_,h5,rfl,rfl,rfl⟩ | ⟨_,h5,rfl,rfl,rfl⟩
  ·exact absurd k1 h5
  ·rw[hu2,if_pos h5]
   rw[hu2] at S2
   exact⟨rfl,.inl ⟨_,_,_,_,_,S2⟩⟩
  ·have S3:=S2.open_ k2 h1 h5
   rw[hu2,if_neg h5]
   rw[hu2] at S3
   exact⟨rfl,.inr ⟨_,_,_,_,_,_,_,_,_,_,_,S3⟩⟩
 ·rw[hcu] at h3
  rw[if_neg h3]
  have hcu2:h.c.space - (HpS.blk {h with X:=none} s2).used=c.space - u:=hcu
  rw[hcu2] at hor2
  rcases hor2 with ⟨h5,_⟩ | ⟨_,h5,_⟩ | ⟨_,h5,rfl,rfl,rfl⟩
  ·exact absurd aa h5
  ·exact absurd h5 h3
  ·exact⟨rfl,.inr ⟨_,_,_,_,_,_,_,_,_,_,_,S.noX.open_ aa h1 h5⟩⟩
def Cal.ok:Cal→Prop
 | .write _ _ v=>0≤v∧v<18446744073709551616
 | _=>True
theorem eQ.does(S:eQ c N bd h s M D f a u L K)(hK:K+1≤1000)(cl:Cal):(∀ s',¬ h.cuts s s' cl)∧∀ x h' s' y M',h.does s x h' s' cl→M.does y M' cl→x=y∧Sim c N bd h' s' M' (K+1):=by
 have ho:¬ h.o=true:=by rw[S.H.ho];decide
 have mo:¬ M.o=true:=by rw[S.mo];decide
 have same:Sim c N bd h s M (K+1):= .inl ⟨D,f,a,u,L,S.grow hK⟩
 have up:∀ {h' s' M'},Sim c N bd h' s' M' K→Sim c N bd h' s' M' (K+1):=fun H=>by
  rcases H with ⟨D,f,a,u,L,S⟩ | ⟨D,f,a,u,L,old,js,u0,m0,L0,D0,S⟩
  ·exact .inl ⟨_,_,_,_,_,S.grow hK⟩
  ·exact .inr ⟨_,_,_,_,_,_,_,_,_,_,_,S.grow hK⟩
 cases cl with
 | begin r=>
   obtain⟨h1,h2⟩:=S.begin r
   refine⟨h1,fun x h' s' y M' ⟨b,g1,g2⟩ ⟨g3,g4⟩=> ?_⟩
   obtain⟨k1,k2⟩:=h2 _ _ _ g1
   rw[g2,g3,g4,k1];exact⟨rfl,up k2⟩
 | commit=>
   refine⟨fun s' h9=> ?_,fun x h' s' y M' ⟨b,g1,g2⟩ ⟨g3,g4⟩=> ?_⟩
   ·have h8:h.commit s= .off s':=h9
    unfold HpS.commit at h8;rw[if_neg ho] at h8;cases h8
   ·unfold HpS.commit at g1;rw[if_neg ho] at g1;cases g1
    unfold Md.commit at g3 g4;rw[if_neg mo] at g3 g4
    rw[g2,g3,g4];exact⟨rfl,same⟩
 | abort=>
   refine⟨fun s' h9=> ?_,fun x h' s' y M' ⟨b,g1,g2⟩ ⟨g3,g4⟩=> ?_⟩
   ·have h8:h.S.abort s= .off s':=h9
    have hln:=S.H.sk.ln
    unfold bG.abort at h8
    rw[jD hln,aX] at h8
    cases h8
   ·rcases g1 with ⟨_,rfl,rfl,rfl⟩ | ⟨g1,_⟩
    ·unfold Md.abort at g3 g4;rw[if_pos mo] at g3 g4
     rw[g2,g3,g4];exact⟨rfl,same⟩
    ·exact absurd g1 ho
 | alloc w r=>
   refine⟨fun s' h9=> ?_,fun x h' s' y M' ⟨b,g1,g2⟩ ⟨b',c1,c2,nv,vv,_,g3,g4⟩=> ?_⟩
   ·have h8:h.alloc s w r= .off s':=h9
    unfold HpS.alloc at h8;rw[if_neg ho] at h8;cases h8
   ·unfold HpS.alloc at g1;rw[if_neg ho] at g1;cases g1
    have e:M.allocE w r=2:=by unfold Md.allocE;rw[if_pos mo]
    rw[ee e (by decide)] at g3 g4
    rw[g2,g3,g4];exact⟨rfl,same⟩
 | head n=>
   refine⟨fun s' h9=>h9,fun x h' s' y M' ⟨g1,g2,g3⟩ ⟨g4,g5⟩=> ?_⟩
   rw[g1,g2,g3,g4,g5,S.toSB.head];exact⟨rfl,same⟩
 | read n i=>
   refine⟨fun s' h9=>h9,fun x h' s' y M' ⟨g1,g2,g3⟩ ⟨g4,g5⟩=> ?_⟩
   rw[g1,g2,g3,g4,g5,S.toSB.read];exact⟨rfl,same⟩
 | write n i v=>
   refine⟨fun s' h9=> ?_,fun x h' s' y M' ⟨b,g1,g2⟩ ⟨c1,c2,c3,g3,g4⟩=> ?_⟩
   ·have h8:h.write s n i v= .off s':=h9
    unfold HpS.write at h8;rw[if_neg ho] at h8;cases h8
   ·unfold HpS.write at g1;rw[if_neg ho] at g1;cases g1
    unfold Md.write at g3 g4;rw[if_pos mo] at g3 g4
    rw[g2,g3,g4];exact⟨rfl,same⟩
 | ref n i=>
   refine⟨fun s' h9=>h9,fun x h' s' y M' ⟨g1,g2,g3⟩ ⟨g4,g5⟩=> ?_⟩
   obtain⟨k1,k2⟩:=S.ref hK n i
   rw[g1,g2,g3,g4,g5,k1];exact⟨rfl,.inl ⟨_,_,_,_,_,k2⟩⟩
 | point n i t=>
   refine⟨fun s' h9=> ?_,fun x h' s' y M' ⟨b,g1,g2⟩ ⟨c1,c2,c3,g3,g4⟩=> ?_⟩
   ·have h8:h.point s n i t= .off s':=h9
    unfold HpS.point at h8;rw[if_neg ho] at h8;cases h8
   ·unfold HpS.point at g1;rw[if_neg ho] at g1;cases g1
    unfold Md.point at g3 g4;rw[if_pos mo] at g3 g4
    rw[g2,g3,g4];exact⟨rfl,same⟩
 | root i=>
   refine⟨fun s' h9=>h9,fun x h' s' y M' ⟨g1,g2,g3⟩ ⟨g4,g5⟩=> ?_⟩
   obtain⟨k1,k2⟩:=S.root hK i
   rw[g1,g2,g3,g4,g5,k1];exact⟨rfl,.inl ⟨_,_,_,_,_,k2⟩⟩
 | set i t=>
   refine⟨fun s' h9=> ?_,fun x h' s' y M' ⟨b,g1,g2⟩ ⟨c1,c2,c3,g3,g4⟩=> ?_⟩
   ·have h8:h.setRoot s i t= .off s':=h9
    unfold HpS.setRoot at h8;rw[if_neg ho] at h8;cases h8
   ·unfold HpS.setRoot at g1;rw[if_neg ho] at g1;cases g1
    unfold Md.set at g3 g4;rw[if_pos mo] at g3 g4
    rw[g2,g3,g4];exact⟨rfl,same⟩
 | drop n=>
   refine⟨fun s' h9=>h9,fun x h' s' y M' ⟨g1,g2,g3⟩ ⟨g4,g5⟩=> ?_⟩
   obtain⟨k1,k2⟩:=S.drop hK n
   rw[g1,g2,g3,g4,g5,k1];exact⟨rfl,.inl ⟨_,_,_,_,_,k2⟩⟩
 | step n=>
   obtain⟨h1,h2⟩:=S.step n
   refine⟨h1,fun x h' s' y M' ⟨d,b,g1,g2⟩ ⟨g3,g4⟩=> ?_⟩
   obtain⟨k1,k2,D',f',a',u',L',k3⟩:=h2 _ _ _ _ g1
   rw[g2,g3,g4,k1,k2];exact⟨rfl,.inl ⟨_,_,_,_,_,k3.grow hK⟩⟩
 | collect=>
   obtain⟨h1,h2⟩:=S.collect
   refine⟨h1,fun x h' s' y M' ⟨b,g1,g2⟩ ⟨g3,g4⟩=> ?_⟩
   obtain⟨k1,_,D',f',a',u',L',k3⟩:=h2 _ _ _ g1
   rw[g2,g3,g4,k1];exact⟨rfl,.inl ⟨_,_,_,_,_,k3.grow hK⟩⟩
end
def MEq(I:List Nat)(A B:Md):Prop:=(∀ k∈I,A.g k=B.g k)∧A.roots=B.roots∧A.used=B.used
theorem MEq.run{I:List Nat}{A B:Md}(h:MEq I A B)(u:Un):MEq I (u.run A) (u.run B):=by
 obtain⟨h1,h2,h3⟩:=h
 have key:∀ (n:Nat) (F:Nd→Nd),∀ k∈I,dE A.g n (F (A.g n)) k=dE B.g n (F (B.g n)) k:=fun n F k hk=>by
  unfold dE;split
  ·rename_i e;subst e;rw[h1 _ hk]
  ·exact h1 k hk
 cases u with
 | used=>exact⟨h1,h2,rfl⟩
 | num a b c n i was=>exact⟨key n fun x=>{x with nums:=x.nums.set i.toNat was},h2,h3⟩
 | name a b c n i was=>exact⟨key n fun x=>{x with names:=x.names.set i.toNat was},h2,h3⟩
 | root a b c i was=>exact⟨h1,by show A.roots.set _ _=B.roots.set _ _;rw[h2],h3⟩
theorem MEq.foldr{I:List Nat}{A B:Md}(h:MEq I A B):∀ us:List Un,MEq I (us.foldr (fun u m=>u.run m) A) (us.foldr (fun u m=>u.run m) B)
 | []=>h
 | u::us=>(h.foldr us).run u
theorem tJ{I:List Nat}{A B:Md}{u:Un}(e:A.undo=B.undo++[u])(h:MEq I (u.run A) B):MEq I (A.back 0) (B.back 0):=by
 unfold Md.back
 rw[e,List.drop_zero,List.drop_zero,List.foldr_append]
 exact h.foldr _
theorem sD(g:Nat→Nd)(b:Nat)(x y:Nd)(h:y=g b):dE (dE g b x) b y=g:=by
 funext k;unfold dE;split
 ·rename_i e;rw[e,h]
 ·rfl
theorem qB{α:Type}(l:List α)(i:Nat)(v d:α):(l.set i v).set i (l.getD i d)=l:=by
 rw[List.set_set]
 refine List.ext_getElem (by simp) fun k h1 h2=> ?_
 rw[List.getElem_set]
 split
 ·rename_i e;subst e;rw[List.getD_eq_getElem?_getD,List.getElem?_eq_getElem h2];rfl
 ·rfl
theorem GR.congrF{c:Cfg}{m:Int→Int}{L:List Int}{g g':Nat→Nd}{rts:List (Option Nat)}{D:List Nat}{f f':Nat→Int}(G:GR c m L g rts D f)(hg:∀ b∈D,g' b=g b)(hf:∀ b∈D,f' b=f b):GR c m L g' rts D f':=
 ⟨fun b hb=>by rw[hf b hb];exact G.inL b hb,fun a ha b hb e=>G.inj a ha b hb (by rwa [hf a ha,hf b hb] at e),fun b hb=>by rw[hf b hb,hg b hb];exact G.hd b hb,
  fun b hb i hi=>by rw[hg b hb] at hi ⊢;rw[hf b hb];exact(G.nm b hb i hi).congr hf,fun b hb i h1 h2=>by rw[hg b hb] at h1 h2 ⊢;rw[hf b hb];exact G.nu b hb i h1 h2,fun i hi=>(G.rt i hi).congr hf⟩
def wz(D:List Nat)(f:Nat→Int)(g g':Nat→Nd)(rts':List (Option Nat))(v:Int):Option Nat×Int→Prop
 | (none,i)=>0≤i∧jx D f (rts'.getD i.toNat none) v
 | (some b,i)=>if i<(g b).rf then jx D f ((g' b).names.getD i.toNat none) v else v=(g' b).nums.getD i.toNat 0
section
variable {c:Cfg} {m m':Int→Int} {a u:Int} {L:List Int} {g g':Nat→Nd} {rts rts':List (Option Nat)} {D:List Nat} {f:Nat→Int}
theorem GR.place(hc:bC c)(G:GR c m L g rts D f)(hm:HM c m a u L){b:Nat}(hb:b∈D):c.active+2+c.roots≤f b∧c.frm a≤f b∧f b+(g b).wd+1≤c.frm a+u:=by
 have hf:=jq hc hm.a01
 have h2:=hm.tile.mem (G.inL b hb)
 have h3:=(G.hd b hb).1
 omega
theorem GR.disj(G:GR c m L g rts D f)(hm:HM c m a u L){b b':Nat}(hb:b∈D)(hb':b'∈D)(h:b≠b'):f b+(g b).wd+1≤f b'∨f b'+(g b').wd+1≤f b:=by
 have h3:=(G.hd b hb).1;have h4:=(G.hd b' hb').1
 rcases Int.lt_trichotomy (f b) (f b') with hl | he | hl
 ·have:=hm.tile.disj (G.inL b hb) (G.inL b' hb') hl;omega
 ·exact absurd (G.inj b hb b' hb' he) h
 ·have:=hm.tile.disj (G.inL b' hb') (G.inL b hb) hl;omega
theorem Bd(hc:bC c)(G:GR c m L g rts D f)(hm:HM c m a u L){k k':Option Nat×Int}(hk:jz c g D k)(hk':jz c g D k')(e:kw c f k=kw c f k'):k=k':=by
 obtain⟨x,i⟩:=k
 obtain⟨x',i'⟩:=k'
 unfold jz at hk hk'
 unfold kw at e
 cases x with
 | none=>cases x' with
   | none=>simp only[Cfg.root] at e;rw[show i=i' by omega]
   | some b'=>have:=G.place hc hm hk'.1;simp only[Cfg.root] at e hk hk';omega
 | some b=>cases x' with
   | none=>have:=G.place hc hm hk.1;simp only[Cfg.root] at e hk hk';omega
   | some b'=>
     simp only at e hk hk'
     by_cases hb:b=b'
     ·subst hb;rw[show i=i' by omega]
     ·have:=G.disj hm hk.1 hk'.1 hb;omega
theorem Er(hc:bC c)(G:GR c m L g rts D f)(hm:HM c m a u L){k:Option Nat×Int}(hk:jz c g D k):c.active<kw c f k∧kw c f k<c.frm a+c.space:=by
 obtain⟨x,i⟩:=k
 have hf:=jq hc hm.a01
 have hu:=hm.u0
 have hr:=hc.r1
 unfold jz at hk
 unfold kw
 cases x with
 | none=>simp only[Cfg.root] at hk ⊢;have:=hc.s1;omega
 | some b=>have:=G.place hc hm hk.1;simp only at hk ⊢;omega
theorem GR.upd(hc:bC c)(G:GR c m L g rts D f)(hm:HM c m a u L)(hnh:∀ b∈D,(g b).wd=(g' b).wd∧(g b).rf=(g' b).rf)(hrf:∀ b∈D,(g b).rf≤(g b).wd){k:Option Nat×Int}(hk:jz c g D k){v:Int}(e:∀ j,c.active≤j→m' j=if j=kw c f k then v else m j)
 (hn:∀ b∈D,∀ i:Nat,(some b,(i:Int))≠k→(g' b).names.getD i none=(g b).names.getD i none∧(g' b).nums.getD i 0=(g b).nums.getD i 0) (hr:∀ i:Nat,(none,(i:Int))≠k→rts'.getD i none=rts.getD i none)
 (h0:wz D f g g' rts' v k):GR c m' L g' rts' D f:=by
 have hfr:=jq hc hm.a01
 have hroots:=hc.r1
 have ne:∀ k',jz c g D k'→k'≠k→m' (kw c f k')=m (kw c f k'):=fun k' hk' hne=>by
  have:=Er hc G hm hk'
  rw[e _ (by omega),if_neg fun e2=>hne (Bd hc G hm hk' hk e2)]
 have hh:∀ b∈D,m' (f b)=m (f b):=fun b hb=>by
  have h1:=G.place hc hm hb
  have h2:=(G.hd b hb).1
  have h3:=cu m (f b)
  rw[e _ (by omega),if_neg]
  intro e2
  obtain⟨x,i⟩:=k
  unfold jz at hk
  unfold kw at e2
  cases x with
  | none=>simp only[Cfg.root] at e2 hk;omega
  | some b'=>
    simp only at e2 hk
    by_cases hbb:b=b'
    ·subst hbb;omega
    ·have:=G.disj hm hb hk.1 hbb;have:=G.place hc hm hk.1;omega
 refine⟨G.inL,G.inj,fun b hb=> ?_,fun b hb i hi=> ?_,fun b hb i h1 h2=> ?_,fun i hi=> ?_⟩
 ·have:=G.hd b hb
  rw[←(hnh b hb).1, ←(hnh b hb).2]
  unfold osz orf at this ⊢;rw[hh b hb];exact this
 ·rw[←(hnh b hb).2] at hi
  have hw:=hrf b hb
  have hkw:jz c g D (some b,(i:Int)):=⟨hb,by simp only;omega,by simp only;omega⟩
  by_cases hne:(some b,(i:Int))=k
  ·subst hne
   have h9:m' (f b+1+i)=v:=by rw[e _ (by have:=G.place hc hm hb;omega),if_pos (show f b+1+(i:Int)=kw c f (some b,(i:Int)) from rfl)]
   simp only[wz,if_pos hi,Int.toNat_natCast] at h0
   rw[h9];exact h0
  ·have h9:m' (f b+1+i)=m (f b+1+i):=ne _ hkw hne
   rw[h9,(hn b hb i hne).1];exact G.nm b hb i hi
 ·rw[←(hnh b hb).2] at h1
  rw[←(hnh b hb).1] at h2
  have hkw:jz c g D (some b,(i:Int)):=⟨hb,by simp only;omega,by simp only;omega⟩
  by_cases hne:(some b,(i:Int))=k
  ·subst hne
   have h9:m' (f b+1+i)=v:=by rw[e _ (by have:=G.place hc hm hb;omega),if_pos (show f b+1+(i:Int)=kw c f (some b,(i:Int)) from rfl)]
   simp only[wz,if_neg (show ¬ (i:Int)<(g b).rf by omega),Int.toNat_natCast] at h0
   rw[h9];exact h0
  ·have h9:m' (f b+1+i)=m (f b+1+i):=ne _ hkw hne
   rw[h9,(hn b hb i hne).2];exact G.nu b hb i h1 h2
 ·have hkw:jz c g D (none,(i:Int)):=⟨by simp only;omega,hi⟩
  by_cases hne:(none,(i:Int))=k
  ·subst hne
   have h9:m' (c.root i)=v:=by rw[e _ (by simp only[Cfg.root];omega),if_pos (show c.root (i:Int)=kw c f (none,(i:Int)) from rfl)]
   simp only[wz,Int.toNat_natCast] at h0
   rw[h9];exact h0.2
  ·have h9:m' (c.root i)=m (c.root i):=ne _ hkw hne
   rw[h9,hr i hne];exact G.rt i hi
end
section
variable {c:Cfg} {N bd:Nat} {h:HpS} {s:Dev} {M:Md} {D:List Nat} {f:Nat→Int} {a u:Int} {L:List Int} {K:Nat} {old:Nat→Int} {js:List Nat} {u0:Int} {m0:Int→Int} {L0:List Int} {D0:List Nat}
theorem et.kfr(S:et c N bd h s M D f a u L K old js u0 m0 L0 D0){k:Option Nat×Int}(hk:jz c M.g D k):(h.S.ff≤kw c f k∧kw c f k<h.S.ft)↔(k.1∈M.fresh∧k.1≠none):=by
 obtain⟨x,i⟩:=k
 have hf:=jq S.hc S.hm.a01
 have hu:=S.hm.u0
 have hle:=S.H.ule
 have hr:=S.hc.r1
 rw[S.H.ff,S.H.ft]
 unfold jz at hk
 unfold kw
 cases x with
 | none=>simp only[Cfg.root] at hk ⊢;exact⟨fun h=>by omega,fun h=>absurd aa h.2⟩
 | some b=>
   simp only at hk ⊢
   have h1:=S.G.place S.hc S.hm hk.1
   have h2:=S.fr b hk.1
   have h3:=S.sp _ (S.G.inL b hk.1)
   have h4:=(S.G.hd b hk.1).1
   rw[h2]
   refine⟨fun h=>⟨by omega,by simp⟩,fun h=>by omega⟩
theorem et.kjs(S:et c N bd h s M D f a u L K old js u0 m0 L0 D0){k:Option Nat×Int}(hk:jz c M.g D k):(kw c f k).toNat∈js↔k∈M.seen:=by
 have hb:=Er S.hc S.G S.hm hk
 have hA:=(ga S.hc).1
 have hr1:=S.hc.r1
 have hl1:=S.hc.act
 rw[S.jm]
 constructor
 ·rintro⟨k',h1,h2⟩
  have:=Bd S.hc S.G S.hm hk (S.sw k' h1) (by omega)
  rwa [this]
 ·exact fun h=>⟨k,h,by omega⟩
theorem et.store(S:et c N bd h s M D f a u L K old js u0 m0 L0 D0){k:Option Nat×Int}(hk:jz c M.g D k){v:Int}(hv:0≤v∧v<18446744073709551616):
 ∃ S' s',h.S.store s (kw c f k) v= .ok ((M.note k).1,S') s'∧((M.note k).1≠0→S'=h.S∧s'=s)∧((M.note k).1=0→∃ js',In False c N old js' S' s'∧U64 s'∧(S'.ff=h.S.ff∧S'.ft=h.S.ft∧S'.L.d=h.S.L.d)∧K8 s s'∧(∀ j:Int,c.active≤j→s'.load j=if j=kw c f k then v else s.load j)∧
  js'.length=(M.note k).2.seen.length∧(∀ x:Nat,x∈js'↔∃ k'∈(M.note k).2.seen,(x:Int)=kw c f k')∧(∀ k'∈(M.note k).2.seen,k'∈M.seen∨k'=k)∧((M.note k).2.seen.length:Int)≤c.log):=by
 have hb:=Er S.hc S.G S.hm hk
 have hA:=ga S.hc
 have hN:=S.H.ss.hN
 have hf:=jq S.hc S.hm.a01
 have hkf:=S.kfr hk
 have hkj:=S.kjs hk
 have hsl:=S.W.sl
 have hcc:=S.cc
 have hjl:=S.jl
 obtain⟨i,hi⟩:∃ i:Nat,(i:Int)=kw c f k:=⟨(kw c f k).toNat,by omega⟩
 have hit:(kw c f k).toNat=i:=by omega
 rw[hit] at hkj
 have hib:c.active≤i∧i<N:=by omega
 have ldf:∀ s':Dev,s'.n=N→s'.now i=v→(∀ x:Nat,c.active≤x→x≠i→s'.now x=s.now x)→∀ j:Int,c.active≤j→s'.load j=if j=kw c f k then v else s.load j:=fun s' hn' h1 h2 j hj=>by
  have hn:=S.H.ss.n
  by_cases hr:j<N
  ·rw[ef (s:=s') (k:=j.toNat) (by omega) (by omega),ef (s:=s) (k:=j.toNat) (by omega) (by omega)]
   by_cases e:j=i
   ·rw[if_pos (by omega),show j.toNat=i by omega];exact h1
   ·rw[if_neg (by omega)];exact h2 _ (by omega) (by omega)
  ·have z:∀ t:Dev,t.n=N→t.load j=0:=fun t ht=>by
    unfold Dev.load Dev.has
    rw[if_neg (by simp;omega)]
   rw[z s' hn',z s hn,if_neg (by omega)]
 have hsw:=uh S.H.ss S.hc (by omega)
 by_cases h1:(k.1∈M.fresh∧k.1≠none)∨k∈M.seen
 ·have en:M.note k=(0,M):=by unfold Md.note;rw[if_pos h1]
  rw[en]
  obtain⟨e1,e2⟩:=re S.H.ss S.hc v hib (i:=i) (h1.symm.imp hkj.2 fun h=>by have:=hkf.2 h;omega)
  refine⟨_,_,(by rw[←hi];exact e1),fun h=>absurd aa h,fun _=>⟨js,e2,(gZ hsw S.H.uu (by have:=S.H.ss.n;omega) hv e1).1,⟨rfl,rfl,rfl⟩,ja S.H.ss.logw e1,ldf _ e2.n ?_ fun x _ hx=> ?_,hjl,S.jm,fun k' h=> .inl h,by rw[←hcc];exact hsl⟩⟩
  ·rw[dx];unfold upd;rw[if_pos rfl]
  ·rw[dx];unfold upd;rw[if_neg hx]
 ·have hno:i∉js:=fun h=>h1 (.inr (hkj.1 h))
  have hnf:¬ (h.S.ff≤i∧(i:Int)<h.S.ft):=fun h=>h1 (.inl (hkf.1 (by omega)))
  by_cases h2:(M.seen.length:Int)=M.c.log
  ·have en:M.note k=(3,M):=by unfold Md.note;rw[if_neg h1,if_pos h2]
   rw[en]
   have e1:=CV S.H.ss v hib hno hnf (by rw[hcc] at h2;omega)
   exact⟨_,_,(by rw[←hi];exact e1),fun _=>⟨rfl,rfl⟩,fun h=>absurd h (by show ¬ (3:Int)=0;decide)⟩
  ·have en:M.note k=(0,{M with seen:=M.seen++[k]}):=by unfold Md.note;rw[if_neg h1,if_neg h2]
   rw[en]
   obtain⟨s',e1,e2,e3,e4⟩:=rb S.H.ss S.hc v hib hno hnf (by rw[hcc] at h2 hsl;omega)
   refine⟨_,s',(by rw[←hi];exact e1),fun h=>absurd aa h,fun _=>⟨_,e2,(gZ hsw S.H.uu (by have:=S.H.ss.n;omega) hv e1).1,⟨rfl,rfl,rfl⟩,ja S.H.ss.logw e1,ldf s' e2.n e3 e4,by simp[hjl],fun x=> ?_,fun k' h=>by simpa using h,by rw[hcc] at h2 hsl;show((M.seen++[k]).length:Int)≤_;simp;omega⟩⟩
   rw[List.mem_append,S.jm]
   simp only[List.mem_append,List.mem_singleton]
   constructor
   ·rintro(⟨k',h3,h4⟩ | h3)
    ·exact⟨k',.inl h3,h4⟩
    ·exact⟨k,.inr aa,by omega⟩
   ·rintro⟨k',h3 | rfl,h4⟩
    ·exact .inl ⟨k',h3,h4⟩
    ·exact .inr (by omega)
end
theorem MdW.undoS{M:Md}{K:Nat}(h:MdW M K)(hk:K+1≤1000000){u:Un}(hu:u.W M):MdW {M with undo:=M.undo++[u]} (K+1):=
 {h.mono (Nat.le_succ K) hk with
  ul:=by show(M.undo++[u]).length≤_;have:=h.ul;simp;omega
  uw:=fun x hx=>(show x.W M by
   rcases List.mem_append.1 hx with hx | hx
   ·exact h.uw x hx
   ·rw[List.mem_singleton.1 hx];exact hu).congr (fun _ e=>e) aa fun _ _=>⟨rfl,rfl⟩}
theorem MdW.rootsS{M:Md}{K:Nat}(h:MdW M K)(i:Nat){x:Option Nat}(hx:∀ b,x=some b→b∈M.ids):MdW {M with roots:=M.roots.set i x} K:=
 {h with ri:=h.ri.set hx i,rl:=(by show((M.roots.set i x).length:Int)=_;rw[List.length_set];exact h.rl),uw:=fun u hu=>(h.uw u hu).congr (fun _ e=>e) (by show(M.roots.set i x).length=_;rw[List.length_set]) fun _ _=>⟨rfl,rfl⟩}
theorem MdW.seenS{M:Md}{K:Nat}(h:MdW M K){ss:List (Option Nat×Int)}(h1:∀ k∈ss,∀ b,k.1=some b→b∈M.ids)(h2:(ss.length:Int)≤M.c.log):MdW {M with seen:=ss} K:=
 {h with si:=h1,sl:=h2,uw:=fun u hu=>(h.uw u hu).congr (fun _ e=>e) rfl fun _ _=>⟨rfl,rfl⟩}
theorem gq.same{m m':Int→Int}:∀ {L:List Int} {a e:Int},gq m a L e→gq m' a L e→∀ k∈L,osz m' k=osz m k
 | [],_,_,_,_,_,h=>by cases h
 | x::t,a,e,h,h',k,hk=>by
   obtain⟨rfl,_,h3⟩:=h
   obtain⟨_,_,h6⟩:=h'
   have key:osz m' x=osz m x:=by
    cases t with
    | nil=>have e1:_=e:=h3;have e2:_=e:=h6;omega
    | cons y t=>have e1:=h3.1;have e2:=h6.1;omega
   rcases List.mem_cons.1 hk with rfl | hk
   ·exact key
   ·rw[key] at h6;exact gq.same h3 h6 k hk
theorem Aq(g:Nat→Nd)(b i:Nat)(v:Int):dE (dE g b {g b with nums:=(g b).nums.set i v}) b {dE g b {g b with nums:=(g b).nums.set i v} b with nums:=(dE g b {g b with nums:=(g b).nums.set i v} b).nums.set i ((g b).nums.getD i 0)}=g:=
 sD _ _ _ _ (by rw[fI];simp only;rw[qB])
theorem zd(g:Nat→Nd)(b i:Nat)(v:Option Nat):dE (dE g b {g b with names:=(g b).names.set i v}) b {dE g b {g b with names:=(g b).names.set i v} b with names:=(dE g b {g b with names:=(g b).names.set i v} b).names.set i ((g b).names.getD i none)}=g:=
 sD _ _ _ _ (by rw[fI];simp only;rw[qB])
theorem GR.congrG{c:Cfg}{m:Int→Int}{L:List Int}{A B:Md}{D:List Nat}{f:Nat→Int}(G:GR c m L B.g B.roots D f)(h:MEq D A B):GR c m L A.g A.roots D f:=by
 rw[h.2.1];exact G.congrF h.1 fun _ _=>rfl
section
variable {c:Cfg} {N bd:Nat} {h:HpS} {s:Dev} {M:Md} {D:List Nat} {f:Nat→Int} {a u:Int} {L:List Int} {K:Nat} {old:Nat→Int} {js:List Nat} {u0:Int} {m0:Int→Int} {L0:List Int} {D0:List Nat}
theorem et.sim(S:et c N bd h s M D f a u L K old js u0 m0 L0 D0):Sim c N bd h s M K:= .inr ⟨D,f,a,u,L,old,js,u0,m0,L0,D0,S⟩
theorem et.stored(S:et c N bd h s M D f a u L K old js u0 m0 L0 D0)(hK:K+1≤1000){k:Option Nat×Int}(hk:jz c M.g D k){v:Int}(hv:0≤v∧v<18446744073709551616){un:Un}{g':Nat→Nd}{rts':List (Option Nat)}
 (hW:MdW {M with undo:=M.undo++[un],g:=g',roots:=rts'} (K+1))
 (hset:(∃ o∈L,∃ j,orf s.load o≤j∧j+1<osz s.load o∧kw c f k=o+1+j)∨((v=0∨v∈L)∧((∃ o∈L,∃ j,0≤j∧j<orf s.load o∧kw c f k=o+1+j)∨∃ r:Nat,(r:Int)<c.roots∧kw c f k=c.root r)))
 (hnh:∀ b∈D,(M.g b).wd=(g' b).wd∧(M.g b).rf=(g' b).rf)
 (hn:∀ b∈D,∀ i:Nat,(some b,(i:Int))≠k→(g' b).names.getD i none=(M.g b).names.getD i none∧(g' b).nums.getD i 0=(M.g b).nums.getD i 0) (hr:∀ i:Nat,(none,(i:Int))≠k→rts'.getD i none=M.roots.getD i none)
 (h0:wz D f M.g g' rts' v k) (hb:∀ ss,MEq D0 (un.run {M with seen:=ss,undo:=M.undo++[un],g:=g',roots:=rts'}) M) {M1:Md} (hM:M1={(M.note k).2 with undo:=M.undo++[un],g:=g',roots:=rts'}):
 ∃ x h' s',(ey (kw c f k) v s h.S).then (fun x s=>Out.ok (x.1,{h with S:=x.2}) s)= .ok (x,h') s'∧x=(if (M.note k).1≠0 then ((M.note k).1,M) else (0,M1)).1∧Sim c N bd h' s' (if (M.note k).1≠0 then ((M.note k).1,M) else (0,M1)).2 (K+1):=by
 obtain⟨S',s',e1,e2,e3⟩:=S.store hk hv
 rw[show ey (kw c f k) v s h.S= .ok ((M.note k).1,S') s' from e1,aX]
 by_cases he:(M.note k).1≠0
 ·obtain⟨rfl,rfl⟩:=e2 he
  rw[if_pos he]
  exact⟨_,_,_,rfl,rfl,(S.grow hK).sim⟩
 rw[if_neg he]
 have he:=Classical.not_not.1 he
 suffices hX:∃ js',et c N bd {h with S:=S'} s' M1 D f a u L (K+1) old js' u0 m0 L0 D0 from by
  obtain⟨js',hX⟩:=hX
  exact⟨_,_,_,rfl,he,hX.sim⟩
 subst hM
 obtain⟨js',i1,i2,i3,i4,i5,i6,i7,i8,i9⟩:=e3 he
 obtain⟨ss,hss⟩:=gz M k
 rw[hss] at i6 i7 i8 i9 ⊢
 simp only at i6 i7 i8 i9
 have hW1:MdW {M with seen:=ss,undo:=M.undo++[un],g:=g',roots:=rts'} (K+1):=hW.seenS (fun k' hk' b hb'=>by
  rcases i8 k' hk' with h1 | h1
  ·exact S.W.si k' h1 b hb'
  ·subst h1
   obtain⟨x,i⟩:=k'
   simp only at hb'
   subst hb'
   exact S.di b hk.1) (by show(ss.length:Int)≤M.c.log;rw[S.cc];exact i9)
 have hm':=S.hm.set S.hc i5 hset
 have hhw:dl {h with S:=S'} s':=mg S.hc S.H.hcc S.H.hbd i1 (i3.2.2.trans S.H.dd) i2 S.hx S.hw.t1 S.hw.tl S.hw.tp
 have hbk:({M with seen:=ss,undo:=M.undo++[un],g:=g',roots:=rts'}:Md).undo=M.undo++[un]:=rfl
 have hbs:=tJ hbk (hb ss)
 refine⟨js',⟨S.hc,hm',S.hcc,hhw,S.G.upd S.hc S.hm hnh (fun b hb=>by have:=(S.W.gw b (S.di b hb)).r0;omega) hk i5 hn hr h0,S.T,hW1,S.cc,S.di⟩,⟨S.H.hbd,S.H.hcc,S.H.ho,i1,i3.2.2.trans S.H.dd,hm',i4.readC S.hc S.H.nc S.H.rc,hhw,i3.1.trans S.H.ff,i3.2.1.trans S.H.ft,S.H.ule⟩,S.hx,S.us,S.mo,S.lf,i6,i7,fun k' hk'=> ?_,S.fr,fun o ho=> ?_,S.ol,S.hm0,S.d0,S.G0.congrG hbs,hbs.2.2.trans S.b0⟩
 ·have hkey:jz c M.g D k':=by
   rcases i8 k' hk' with h1 | h1
   ·exact S.sw k' h1
   ·rw[h1];exact hk
  obtain⟨x,i⟩:=k'
  cases x with
  | none=>exact hkey
  | some b=>exact⟨hkey.1,hkey.2.1,by show i<(g' b).wd;rw[←(hnh b hkey.1).1];exact hkey.2.2⟩
 ·rw[S.hm.tile.same hm'.tile o ho];exact S.sp o ho
theorem SB.keyF(S:SB c h s M D f a u L K){b:Nat}(hb:b∈D){i:Int}{nm:Bool}(hf:(M.g b).field i nm=0):jz c M.g D (some b,i)∧decide (i<(M.g b).rf)=nm∧(bS ((M.g b).wd,(M.g b).rf,f b) i nm)=(kw c f (some b,i),0):=by
 obtain⟨h1,h2⟩:=nO (k:=f b) rfl rfl i nm (x:=M.g b)
 obtain⟨h3,h4,h5,h6⟩:=h2 hf
 exact⟨⟨hb,h4,h5⟩,h6,Prod.ext h3 (by rw[h1,hf])⟩
theorem vT(S:SB c h s M D f a u L K){b:Nat}{i:Int}{nm:Bool}(hf:(M.g b).field i nm≠0):(bS ((M.g b).wd,(M.g b).rf,f b) i nm).2=(M.g b).field i nm:=(nO (k:=f b) rfl rfl i nm (x:=M.g b)).1
theorem et.write(S:et c N bd h s M D f a u L K old js u0 m0 L0 D0)(hK:K+1≤1000){n i v:Int}(hv:0≤v∧v<18446744073709551616)(c1 c2 c3:Nat):∃ x h' s',h.write s n i v= .ok (x,h') s'∧x=(M.write n i v c1 c2 c3).1∧Sim c N bd h' s' (M.write n i v c1 c2 c3).2 (K+1):=by
 have same:Sim c N bd h s M (K+1):= .inr ⟨_,_,_,_,_,_,_,_,_,_,_,S.grow hK⟩
 unfold HpS.write Md.write Md.nd
 rw[if_pos S.H.ho,if_neg (show ¬ ¬ M.o=true by rw[S.mo];simp)]
 rcases S.T.node n with ⟨b,hb,e1,e2⟩ | ⟨e1,e2⟩
 ·rw[S.G.obj S.hc S.hm S.hcc hb e2,e1]
  simp only[ne_eq,not_true_eq_false,if_false,Option.getD_some]
  unfold iC
  by_cases hf:(M.g b).field i false=0
  ·obtain⟨hk,hnm,ho⟩:=S.toSB.keyF hb hf
   have hri:=of_decide_eq_false hnm
   have hgw:=S.W.gw b (S.di b hb)
   have hd:=S.G.hd b hb
   have hvl:=hgw.vl
   have hki:=hk.2
   simp only at hki
   have hst:=S.stored hK hk hv (un:= .num c1 c2 c3 b i ((M.g b).nums.getD i.toNat 0)) (g':=dE M.g b {M.g b with nums:=(M.g b).nums.set i.toNat v}) (rts':=M.roots)
    (((S.W.undoS (by omega) (u:= .num c1 c2 c3 b i ((M.g b).nums.getD i.toNat 0)) ⟨S.di b hb,hki.1,hki.2,by
     have hl:i.toNat<(M.g b).nums.length:=by omega
     rw[List.getD_eq_getElem?_getD,List.getElem?_eq_getElem hl];exact hgw.vb _ (List.getElem_mem hl)⟩).upd (n:=b) (hgw.setNum i.toNat hv) ⟨rfl,rfl⟩))
    (.inl ⟨f b,S.G.inL b hb,i,by omega,by omega,rfl⟩) (fun b' _=>by have:=jZ (g:=M.g) (n:=b) (x:={M.g b with nums:=(M.g b).nums.set i.toNat v}) ⟨rfl,rfl⟩ b';exact⟨this.1.symm,this.2.symm⟩)
    (fun b' _ j hj=>by
     unfold dE;split
     ·rename_i e;subst e
      refine⟨rfl,?_⟩
      simp only[List.getD_eq_getElem?_getD]
      rw[List.getElem?_set_ne fun e=>hj (by rw[←e,show((i.toNat:Nat):Int)=i by omega])]
     ·exact⟨rfl,rfl⟩) (fun _ _=>rfl)
    (by
     show if i<(M.g b).rf then _ else v=(dE M.g b _ b).nums.getD i.toNat 0
     rw[if_neg hri,fI]
     simp only[List.getD_eq_getElem?_getD]
     rw[List.getElem?_set_self (by omega)];rfl)
    (fun ss=>⟨fun k _=>congrFun (Aq M.g b i.toNat v) k,rfl,rfl⟩) (M1:=(M.note (some b,i)).2.setNum b i v c1 c2 c3) (by obtain⟨ss,hss⟩:=gz M (some b,i);unfold Md.setNum;rw[hss])
   simp only[ho,hf,ne_eq,not_true_eq_false,if_false]
   exact hst
  ·rw[vT S.toSB hf]
   simp only[if_pos (show(M.g b).field i false≠0 from hf)]
   rw[aX]
   exact⟨_,_,_,rfl,rfl,same⟩
 ·unfold HpS.obj
  rw[e1,e2]
  exact⟨_,_,_,rfl,rfl,same⟩
theorem SB.refv(S:SB c h s M D f a u L K){x:Option Nat}{v:Int}(hx:jx D f x v):(0≤v∧v<18446744073709551616)∧(v=0∨v∈L)∧∀ b,x=some b→b∈M.ids:=by
 cases x with
 | none=>obtain rfl:v=0:=hx;exact⟨by decide,.inl aa,fun b h=>by cases h⟩
 | some b=>obtain⟨hb,rfl⟩:=hx;have:=S.fb hb;exact⟨by omega,.inr (S.G.inL b hb),fun b' h=>by cases h;exact S.di b hb⟩
theorem et.point(S:et c N bd h s M D f a u L K old js u0 m0 L0 D0)(hK:K+1≤1000){n i t:Int}(c1 c2 c3:Nat):∃ x h' s',h.point s n i t= .ok (x,h') s'∧x=(M.point n i t c1 c2 c3).1∧Sim c N bd h' s' (M.point n i t c1 c2 c3).2 (K+1):=by
 have same:Sim c N bd h s M (K+1):=(S.grow hK).sim
 unfold HpS.point Md.point Md.nd
 rw[if_pos S.H.ho,if_neg (show ¬ ¬ M.o=true by rw[S.mo];simp)]
 rcases S.T.node n with ⟨b,hb,e1,e2⟩ | ⟨e1,e2⟩
 ·rw[S.G.obj S.hc S.hm S.hcc hb e2,e1]
  simp only[ne_eq,not_true_eq_false,if_false,Option.getD_some]
  rcases S.T.other (hp:=h) rfl t with ⟨x,v,e3,e4,hx⟩ | ⟨e3,e4⟩
  ·rw[e3,e4]
   simp only[not_true_eq_false,if_false]
   unfold iC
   obtain⟨hv,hvL,hxi⟩:=S.toSB.refv hx
   by_cases hf:(M.g b).field i true=0
   ·obtain⟨hk,hnm,ho⟩:=S.toSB.keyF hb hf
    have hri:=of_decide_eq_true hnm
    have hgw:=S.W.gw b (S.di b hb)
    have hd:=S.G.hd b hb
    have hnl:=hgw.nl
    have hki:=hk.2
    simp only at hki
    have hl:i.toNat<(M.g b).names.length:=by omega
    have hst:=S.stored hK hk hv (un:= .name c1 c2 c3 b i ((M.g b).names.getD i.toNat none)) (g':=dE M.g b {M.g b with names:=(M.g b).names.set i.toNat x}) (rts':=M.roots)
     (((S.W.undoS (by omega) (u:= .name c1 c2 c3 b i ((M.g b).names.getD i.toNat none)) ⟨S.di b hb,hki.1,hri,fun b' h9=>hgw.ni b' (by
      rw[List.getD_eq_getElem?_getD,List.getElem?_eq_getElem hl] at h9;rw[←h9];exact List.getElem_mem hl)⟩).upd (n:=b) (hgw.setName i.toNat hxi) ⟨rfl,rfl⟩))
     (.inr ⟨hvL,.inl ⟨f b,S.G.inL b hb,i,hki.1,by omega,rfl⟩⟩) (fun b' _=>by have:=jZ (g:=M.g) (n:=b) (x:={M.g b with names:=(M.g b).names.set i.toNat x}) ⟨rfl,rfl⟩ b';exact⟨this.1.symm,this.2.symm⟩)
     (fun b' _ j hj=>by
      unfold dE;split
      ·rename_i e;subst e
       refine⟨?_,rfl⟩
       simp only[List.getD_eq_getElem?_getD]
       rw[List.getElem?_set_ne fun e=>hj (by rw[←e,show((i.toNat:Nat):Int)=i by omega])]
      ·exact⟨rfl,rfl⟩) (fun _ _=>rfl)
     (by
      show if i<(M.g b).rf then jx D f ((dE M.g b _ b).names.getD i.toNat none) v else _
      rw[if_pos hri,fI]
      simp only[List.getD_eq_getElem?_getD]
      rw[List.getElem?_set_self (by omega)];exact hx)
     (fun ss=>⟨fun k _=>congrFun (zd M.g b i.toNat x) k,rfl,rfl⟩) (M1:=(M.note (some b,i)).2.setName b i x c1 c2 c3) (by obtain⟨ss,hss⟩:=gz M (some b,i);unfold Md.setName;rw[hss])
    simp only[ho,hf,ne_eq,not_true_eq_false,if_false]
    exact hst
   ·rw[vT S.toSB hf]
    simp only[if_pos (show(M.g b).field i true≠0 from hf)]
    rw[aX]
    exact⟨_,_,_,rfl,rfl,same⟩
  ·rw[e3,e4]
   exact⟨_,_,_,rfl,rfl,same⟩
 ·unfold HpS.obj
  rw[e1,e2]
  exact⟨_,_,_,rfl,rfl,same⟩
theorem et.set(S:et c N bd h s M D f a u L K old js u0 m0 L0 D0)(hK:K+1≤1000){i t:Int}(c1 c2 c3:Nat):∃ x h' s',h.setRoot s i t= .ok (x,h') s'∧x=(M.set i t c1 c2 c3).1∧Sim c N bd h' s' (M.set i t c1 c2 c3).2 (K+1):=by
 have same:Sim c N bd h s M (K+1):=(S.grow hK).sim
 unfold HpS.setRoot Md.set
 obtain rfl:=S.hcc
 rw[if_pos S.H.ho,if_neg (show ¬ ¬ M.o=true by rw[S.mo];simp),S.cc]
 by_cases hi:i<0∨h.c.roots≤i
 ·rw[if_pos hi,if_pos hi]
  exact⟨_,_,_,rfl,rfl,same⟩
 rw[if_neg hi,if_neg hi]
 rcases S.T.other (hp:=h) rfl t with ⟨x,v,e3,e4,hx⟩ | ⟨e3,e4⟩
 ·rw[e3,e4]
  simp only[ne_eq,not_true_eq_false,if_false]
  obtain⟨hv,hvL,hxi⟩:=S.toSB.refv hx
  have hrl:=S.W.rl
  rw[S.cc] at hrl
  have hl:i.toNat<M.roots.length:=by omega
  have hst:=S.stored hK (k:=(none,i)) ⟨by simp only;omega,by simp only;omega⟩ hv (un:= .root c1 c2 c3 i (M.roots.getD i.toNat none)) (g':=M.g) (rts':=M.roots.set i.toNat x)
   ((S.W.undoS (by omega) (u:= .root c1 c2 c3 i (M.roots.getD i.toNat none)) ⟨by omega,by omega,fun b' h9=>S.W.ri b' (by
    rw[List.getD_eq_getElem?_getD,List.getElem?_eq_getElem hl] at h9;rw[←h9];exact List.getElem_mem hl)⟩).rootsS i.toNat hxi)
   (.inr ⟨hvL,.inr ⟨i.toNat,by omega,by show h.c.root i=_;rw[show((i.toNat:Nat):Int)=i by omega]⟩⟩) (fun _ _=>⟨rfl,rfl⟩) (fun _ _ _ _=>⟨rfl,rfl⟩)
   (fun j hj=>by
    simp only[List.getD_eq_getElem?_getD]
    rw[List.getElem?_set_ne fun e=>hj (by rw[←e,show((i.toNat:Nat):Int)=i by omega])])
   (by
    show 0≤i∧jx D f ((M.roots.set i.toNat x).getD i.toNat none) v
    simp only[List.getD_eq_getElem?_getD]
    rw[List.getElem?_set_self hl];exact⟨by omega,hx⟩)
   (fun ss=>⟨fun _ _=>rfl,by show(M.roots.set _ _).set _ _=_;rw[qB],rfl⟩) (M1:=(M.note (none,i)).2.setRoot i x c1 c2 c3) (by obtain⟨ss,hss⟩:=gz M (none,i);unfold Md.setRoot;rw[hss])
  simp only[ne_eq] at hst
  exact hst
 ·rw[e3,e4]
  exact⟨_,_,_,rfl,rfl,same⟩
end
section
variable {c:Cfg} {m m':Int→Int} {a u:Int} {L:List Int} {g:Nat→Nd} {rts:List (Option Nat)} {D:List Nat} {f:Nat→Int}
theorem GR.cons(G:GR c m L g rts D f){b:Nat}{p:Int}(hL:∀ k∈L,k≠p){w r:Int}(hw:0≤r∧r≤w∧w≤64)(h0:m p=eR w r)(hz:∀ j,p<j→j<p+(w+1)→m j=0)(hb:b∉D){nv vv:Value}{f':Nat→Int}(hf:∀ b'∈D,f' b'=f b')(hfb:f' b=p):
 GR c m (L++[p]) (dE g b ⟨w,r,List.replicate r.toNat none,List.replicate w.toNat 0,nv,vv⟩) rts (b::D) f':=by
 have hne:∀ b'∈D,b'≠b:=fun b' h e=>hb (e▸h)
 have hR:∀ {x v},jx D f x v→jx (b::D) f' x v:=fun h=>(h.congr hf).mono fun _ h=>List.mem_cons_of_mem _ h
 have hk:=yn hw h0
 refine⟨fun b' hb'=> ?_,fun x hx y hy e=> ?_,fun b' hb'=> ?_,fun b' hb' i hi=> ?_,fun b' hb' i h1 h2=> ?_,fun i hi=>hR (G.rt i hi)⟩
 ·rcases List.mem_cons.1 hb' with rfl | hb'
  ·rw[hfb];simp
  ·rw[hf b' hb'];exact List.mem_append_left _ (G.inL b' hb')
 ·rcases List.mem_cons.1 hx with h1 | h1<;>rcases List.mem_cons.1 hy with h2 | h2
  ·rw[h1,h2]
  ·rw[h1,hfb,hf y h2] at e;exact absurd e.symm (hL _ (G.inL y h2))
  ·rw[h2,hfb,hf x h1] at e;exact absurd e (hL _ (G.inL x h1))
  ·rw[hf x h1,hf y h2] at e;exact G.inj x h1 y h2 e
 ·rcases List.mem_cons.1 hb' with rfl | hb'
  ·rw[hfb,fI];exact⟨hk.2,hk.1⟩
  ·rw[hf b' hb',jC (hne b' hb')];exact G.hd b' hb'
 ·rcases List.mem_cons.1 hb' with rfl | hb'
  ·rw[hfb,fI] at*
   simp only at hi ⊢
   have e:(List.replicate r.toNat (none:Option Nat)).getD i none=none:=by
    rw[List.getD_eq_getElem?_getD,List.getElem?_replicate];split<;>rfl
   rw[e,hz _ (by omega) (by omega)];rfl
  ·rw[jC (hne b' hb')] at hi ⊢
   rw[hf b' hb'];exact hR (G.nm b' hb' i hi)
 ·rcases List.mem_cons.1 hb' with rfl | hb'
  ·rw[hfb,fI] at*
   simp only at h1 h2 ⊢
   have e:(List.replicate w.toNat (0:Int)).getD i 0=0:=by
    rw[List.getD_eq_getElem?_getD,List.getElem?_replicate];split<;>rfl
   rw[e,hz _ (by omega) (by omega)]
  ·rw[jC (hne b' hb')] at h1 h2 ⊢
   rw[hf b' hb'];exact G.nu b' hb' i h1 h2
end
theorem MdW.alloc2{M:Md}{K:Nat}(h:MdW M K)(hk:K+1≤1000000){w r:Int}(hw:0≤r∧r≤w∧w≤64){b c1 c2:Nat}(hb:b∉M.ids){nv vv:Value}(hu:M.used+(w+1)≤100000000):MdW (M.alloc2 w r b c1 c2 nv vv) (K+1):=by
 have hs:∀ x∈M.ids,x∈b::M.ids:=fun x hx=>List.mem_cons_of_mem _ hx
 have hus:=h.us
 refine {h.mono (Nat.le_succ K) hk with
  nd:=List.nodup_cons.2 ⟨hb,h.nd⟩
  gw:=fun b' hb'=> ?_
  ri:=h.ri.mono hs
  hi:=h.hi.mono hs
  fi:=(h.fi.mono hs).snoc fun x e=>by cases e;exact List.mem_cons_self ..
  si:=fun k hk x e=>hs x (h.si k hk x e)
  uw:=fun x hx=> ?_
  fl:= ?_,ul:= ?_,il:= ?_
  us:=⟨by show 0≤M.used+(w+1);omega,hu⟩}
 ·show NdW (b::M.ids) (dE M.g b _ b')
  unfold dE;split
  ·exact⟨hw,by simp;omega,by simp;omega,fun x hx=>by simp at hx,fun v hv=>by rw[(List.mem_replicate.1 hv).2];decide⟩
  ·rename_i hne
   have h1:=h.gw b' ((List.mem_cons.1 hb').resolve_left hne)
   exact⟨h1.r0,h1.nl,h1.vl,h1.ni.mono hs,h1.vb⟩
 ·rcases List.mem_append.1 hx with hx | hx
  ·refine(h.uw x hx).congr hs aa fun k hk=> ?_
   show(dE M.g b _ k).wd=_∧(dE M.g b _ k).rf=_
   rw[jC fun e=>hb (by rw[←e];exact hk)];exact⟨rfl,rfl⟩
  ·rw[List.mem_singleton.1 hx];exact hus
 ·show(M.fresh++[some b]).length≤_;have:=h.fl;simp;omega
 ·show(M.undo++[_]).length≤_;have:=h.ul;simp;omega
 ·show(b::M.ids).length≤_;have:=h.il;simp;omega
section
variable {c:Cfg} {N bd:Nat} {h:HpS} {s:Dev} {M:Md} {D:List Nat} {f:Nat→Int} {a u:Int} {L:List Int} {K:Nat} {old:Nat→Int} {js:List Nat} {u0:Int} {m0:Int→Int} {L0:List Int} {D0:List Nat}
theorem et.alloc(S:et c N bd h s M D f a u L K old js u0 m0 L0 D0)(hK:K+1≤1000){w r:Int}{b c1 c2:Nat}{nv vv:Value}(hb:M.allocE w r=0→b∉M.ids):∃ x h' s',h.alloc s w r= .ok (x,h') s'∧x=(M.alloc w r b c1 c2 nv vv).1∧Sim c N bd h' s' (M.alloc w r b c1 c2 nv vv).2 (K+1):=by
 have same:Sim c N bd h s M (K+1):=(S.grow hK).sim
 have hE:M.allocE w r=if w<0∨64<w∨r<0∨w<r then 5 else if c.space - u<w+1 then 4 else (M.note (none, -1)).1:=by
  unfold Md.allocE;rw[if_neg (show ¬ ¬ M.o=true by rw[S.mo];simp),S.cc,S.us]
 have hk:jz c M.g D (none, -1):=⟨by decide,by have:=S.hc.r1;simp only;omega⟩
 have hkw:kw c f (none, -1)=c.active+1:=by show c.active+2+ -1=_;omega
 have hu0:=S.hm.u0
 have hspc:=S.hc.s2
 by_cases hw:0≤r∧r≤w∧w≤64
 case neg=>
  have e:M.allocE w r=5:=by rw[hE,if_pos (by omega)]
  rw[ee e (by decide)]
  refine⟨(0,5),h,s,?_,rfl,same⟩
  have e5:lA w r=5:=by unfold lA;rw[if_neg (by omega)]
  unfold HpS.alloc db
  rw[if_pos S.H.ho,if_pos (by rw[e5];decide),aX,e5];rfl
 rw[if_neg (by omega)] at hE
 by_cases hroom:c.space - u<w+1
 ·rw[if_pos hroom] at hE
  rw[ee hE (by decide)]
  exact⟨_,_,_,S.H.noroom hw hroom,rfl,same⟩
 rw[if_neg hroom] at hE
 by_cases hn:(M.note (none, -1)).1=0
 case neg=>
  rw[ee hE hn]
  obtain⟨S',s',e1,e2,_⟩:=S.store hk (v:=u+(w+1)) (by omega)
  obtain⟨rfl,rfl⟩:=e2 hn
  refine⟨_,_,_,?_,rfl,same⟩
  rw[hkw] at e1
  obtain rfl:=S.hcc
  unfold HpS.alloc db
  rw[if_pos S.H.ho,if_neg (by unfold lA;rw[if_pos (by omega)];decide),S.hm.block,if_neg (by simp)]
  simp only
  rw[if_neg hroom,show ey (h.c.active+1) (u+(w+1)) s' h.S= .ok ((M.note (none, -1)).1,h.S) s' from e1,aX,if_pos (by exact hn),aX,if_pos (by exact hn)]
 have hbi:=hb (hE.trans hn)
 have hA:=ga S.hc
 have hact:=S.hc.act
 have hl1:=S.hc.l1
 have hr1:=S.hc.r1
 have hf:=jq S.hc S.hm.a01
 have hkj:=S.kjs hk
 rw[hkw] at hkj
 have hT:=S.T
 have hjl:=S.jl
 have hhl:=S.W.hl
 have hroomL:(c.active+1).toNat∈js∨(js.length:Int)<c.log:=by
  unfold Md.note at hn
  by_cases h1:((none, -1):Option Nat×Int)∈M.seen
  ·exact .inl (hkj.2 h1)
  ·rw[if_neg (by simp[h1])] at hn
   by_cases h2:(M.seen.length:Int)=M.c.log
   ·rw[if_pos h2] at hn;exact absurd hn (show ¬ (3:Int)=0 by decide)
   ·have:=S.W.sl;rw[S.cc] at h2 this;exact .inr (by omega)
 obtain⟨h',s',js',e1,H',hX',hT',hjs,_,hld⟩:=S.H.alloc S.hc S.hx hw hroom hroomL (by have:=hT.last;omega) (by have:=hT.w.len;have:=hT.last;omega)
 have halloc:M.alloc w r b c1 c2 nv vv=(((((M.note (none, -1)).2.alloc2 w r b c1 c2 nv vv).take (some b)).1,0),(((M.note (none, -1)).2.alloc2 w r b c1 c2 nv vv).take (some b)).2):=by
  unfold Md.alloc;rw[if_neg (by rw[hE,hn];simp)]
 rw[halloc]
 obtain⟨ss,hss,hsj,hsl,hsm⟩:∃ ss,(M.note (none, -1)).2={M with seen:=ss}∧((js'=js∧ss=M.seen∧((none, -1):Option Nat×Int)∈M.seen)∨(js'=js++[(c.active+1).toNat]∧ss=M.seen++[(none, -1)]))∧(ss.length:Int)≤c.log∧∀ k∈ss,k∈M.seen∨k=(none, -1):=by
  have hin:(c.active+1).toNat∈js':=Classical.byContradiction fun hno=>by
   have h1:=H'.ss.same _ hno (by omega) (by rw[H'.ff];have:=S.H.ule;omega)
   have h2:=hld (c.active+1) (by omega)
   rw[if_neg (by omega),if_pos rfl,ef (k:=(c.active+1).toNat) (by omega) (by rw[H'.ss.n];have:=H'.ss.hN;omega),h1,S.ol _ (by omega) (by have:=H'.ss.hN;omega)] at h2
   have h3:=S.hm0.used
   rw[show(((c.active+1).toNat:Nat):Int)=c.active+1 by omega,h3] at h2
   have:=S.H.ule;omega
  have hsl:=S.W.sl
  have hcc:=S.cc
  unfold Md.note at hn ⊢
  by_cases h1:((none, -1):Option Nat×Int)∈M.seen
  ·rw[if_pos (.inr h1)]
   refine⟨M.seen,rfl,.inl ⟨?_,rfl,h1⟩,by rw[←hcc];exact hsl,fun k hk=> .inl hk⟩
   rcases hjs with e | e
   ·exact e
   ·have hnd:=H'.ss.jnd
    rw[e,List.nodup_append] at hnd
    exact absurd aa (hnd.2.2 _ (hkj.2 h1) _ (by simp))
  ·rw[if_neg (by simp[h1])] at hn ⊢
   by_cases h2:(M.seen.length:Int)=M.c.log
   ·rw[if_pos h2] at hn;exact absurd hn (show ¬ (3:Int)=0 by decide)
   ·rw[if_neg h2]
    refine⟨_,rfl,.inr ⟨?_,rfl⟩,by rw[hcc] at h2 hsl;simp;omega,fun k hk=>by simpa using hk⟩
    rcases hjs with e | e
    ·rw[e] at hin;exact absurd (hkj.1 hin) h1
    ·exact e
 rw[hss]
 
 have hbD:b∉D:=fun h9=>hbi (S.di b h9)
 have hLp:∀ k∈L,k≠c.frm a+u:=fun k hk e=>by have:=S.hm.tile.mem hk;have:=cu s.load k;omega
 have hG1:=S.G.cong (m':=s'.load) S.hc S.hm fun j h2 hj=>by
  obtain⟨h3,h4⟩:=hj
  rw[hld j h3,if_neg (by omega),if_neg (by omega)]
 obtain⟨f',hfe,hfb⟩:∃ f':Nat→Int,(∀ b'∈D,f' b'=f b')∧f' b=c.frm a+u:=⟨fun k=>if k=b then c.frm a+u else f k,fun b' h9=>if_neg fun e=>hbD (by rw[←e];exact h9),if_pos aa⟩
 have hG:=hG1.cons (b:=b) (p:=c.frm a+u) (nv:=nv) (vv:=vv) hLp hw (by rw[hld _ (by omega),if_pos (by omega),if_pos rfl]) (fun j h1 h2=>by rw[hld j (by omega),if_pos (by omega),if_neg (by omega)]) hbD hfe hfb
 have hTR:TR h.T M.hs (b::D) f':=⟨hT.w,hT.last,fun n=>by
  rw[hT.get]
  cases hg:M.hs.getD n none with
  | none=>rfl
  | some b'=>exact congrArg some (hfe b' (hT.inD b' (List.mem_of_getElem? (getD_some hg)))).symm,fun b' hb'=>List.mem_cons_of_mem _ (hT.inD b' hb')⟩
 have hN2:MdW ({M with seen:=ss}:Md) K:=S.W.seenS (fun k hk=>by
  rcases hsm k hk with h1 | rfl
  ·exact S.W.si k h1
  ·exact fun b h=>by cases h) (by rw[S.cc];exact hsl)
 have hW2:=hN2.alloc2 (w:=w) (r:=r) (b:=b) (c1:=c1) (c2:=c2) (nv:=nv) (vv:=vv) (by omega) hw hbi (by show M.used+_≤_;rw[S.us];omega)
 have htk:=TR.take (M:=({M with seen:=ss}:Md).alloc2 w r b c1 c2 nv vv) hTR hG.inj (x:=some b) (v:=c.frm a+u) ⟨List.mem_cons_self ..,hfb.symm⟩ fun _=>by omega
 have hkf:∀ k,jz c M.g D k→kw c f' k=kw c f k:=fun k hk=>by
  obtain⟨x,i⟩:=k
  cases x with
  | none=>rfl
  | some b'=>show f' b'+1+i=f b'+1+i;rw[hfe b' hk.1]
 have hbs:MEq D0 (({(({M with seen:=ss}:Md).alloc2 w r b c1 c2 nv vv) with hs:=((({M with seen:=ss}:Md).alloc2 w r b c1 c2 nv vv).take (some b)).2.hs}:Md).back 0) (M.back 0):=
  tJ (u:= .used c1 c2 M.used) rfl ⟨fun k hk=>jC fun e=>hbD (by rw[←e];exact((S.d0 k).1 hk).1),rfl,rfl⟩
 rw[m9]
 refine⟨_,h',s',e1,by rw[htk.1],et.sim (D:=b::D) (f:=f') (js:=js') (D0:=D0) (old:=old) (u0:=u0) (m0:=m0) (L0:=L0) (L:=L++[c.frm a+u]) (a:=a) (u:=u+(w+1)) ⟨⟨S.hc,H'.hm,H'.hcc,H'.hw,hG,by rw[hT'];exact htk.2.1,hW2.withHs (fun b' hb'=> ?_) (Nat.le_trans htk.2.2 (by show M.hs.length+1≤_;omega)) (Nat.le_refl _) (by omega),S.cc,fun b' hb'=> ?_⟩,H',hX',by show M.used+_=_;rw[S.us],S.mo,S.lf,?_,fun x=> ?_,fun k hk=> ?_,fun b' hb'=> ?_,fun k hk=> ?_,S.ol,S.hm0,fun b'=> ?_,?_,?_⟩⟩
 ·have:=htk.2.1.inD b' hb'
  rcases List.mem_cons.1 this with rfl | h9
  ·exact List.mem_cons_self ..
  ·exact List.mem_cons_of_mem _ (S.di b' h9)
 ·rcases List.mem_cons.1 hb' with rfl | h9
  ·exact List.mem_cons_self ..
  ·exact List.mem_cons_of_mem _ (S.di b' h9)
 ·rcases hsj with ⟨h1,h2,_⟩ | ⟨h1,h2⟩
  ·rw[h1];show _=ss.length;rw[h2];exact hjl
  ·rw[h1];show _=ss.length;rw[h2];simp[hjl]
 ·show x∈js'↔∃ k∈ss,_
  rcases hsj with ⟨h1,h2,_⟩ | ⟨h1,h2⟩
  ·rw[h1,h2,S.jm]
   exact exists_congr fun k=>and_congr_right fun hk=>by rw[hkf k (S.sw k hk)]
  ·rw[h1,h2,List.mem_append,S.jm]
   simp only[List.mem_append,List.mem_singleton]
   constructor
   ·rintro(⟨k,h3,h4⟩ | h3)
    ·exact⟨k,.inl h3,by rw[hkf k (S.sw k h3)];exact h4⟩
    ·exact⟨_,.inr aa,by rw[hkf _ hk,hkw];omega⟩
   ·rintro⟨k,h3 | h3,h4⟩
    ·exact .inl ⟨k,h3,by rw[←hkf k (S.sw k h3)];exact h4⟩
    ·rw[h3,hkf _ hk,hkw] at h4;exact .inr (by omega)
 ·have hkey:jz c M.g D k:=by
   rcases hsm k hk with h1 | rfl
   ·exact S.sw k h1
   ·assumption
  obtain⟨x,i⟩:=k
  cases x with
  | none=>exact hkey
  | some b'=>exact⟨List.mem_cons_of_mem _ hkey.1,hkey.2.1,by show i<(dE M.g b _ b').wd;rw[jC fun e=>hbD (by rw[←e];exact hkey.1)];exact hkey.2.2⟩
 ·show some b'∈M.fresh++[some b]↔_
  rw[List.mem_append,List.mem_singleton]
  have hule:=S.H.ule
  rcases List.mem_cons.1 hb' with rfl | h9
  ·rw[hfb];exact⟨fun _=>by omega,fun _=> .inr aa⟩
  ·rw[hfe b' h9, ←S.fr b' h9]
   exact⟨fun h=>h.elim id fun e=>by cases e;exact absurd h9 hbD,.inl⟩
 ·have hule:=S.H.ule
  rcases List.mem_append.1 hk with hk | hk
  ·have h1:s'.load k=s.load k:=by
    have:=S.hm.tile.mem hk
    have:=cu s.load k
    rw[hld k (by omega),if_neg (by omega),if_neg (by omega)]
   have h2:=S.sp k hk
   unfold osz at h2 ⊢;rw[h1];exact h2
  ·rw[List.mem_singleton.1 hk];exact .inr (by omega)
 ·rw[S.d0,List.mem_cons]
  have hule:=S.H.ule
  constructor
  ·exact fun h=>⟨.inr h.1,by rw[hfe b' h.1];exact h.2⟩
  ·rintro⟨rfl | h1,h2⟩
   ·rw[hfb] at h2;omega
   ·exact⟨h1,by rw[←hfe b' h1];exact h2⟩
 ·exact(S.G0.congrG hbs).congrF (fun _ _=>rfl) fun b' hb'=>hfe b' ((S.d0 b').1 hb').1
 ·exact hbs.2.2.trans S.b0
end
theorem zJ{kp:Prop}{c:Cfg}{N:Nat}{old:Nat→Int}{js:List Nat}{S S':bG}{s s':Dev}(h:In kp c N old js S s)(hc:bC c)(e:S.abort s= .ok S' s'):K8 s s':=by
 have hact:=hc.act
 have hw:=words_b hc
 have hN:=h.hN
 have hn:=h.n
 have hcc:=h.hc
 have hal:=Cd hc
 have hl1:=hc.l1
 have hr1:=hc.r1
 have hget:∀ k (hk:k<js.length),js.getD k 0=js[k]:=fun k hk=>by simp[hk]
 have hlog:=h.logw.n2
 rw[hcc,h.ln] at hlog
 obtain⟨s2,e1,e2,e3,e4,e5⟩:=wy (S:=S) (s:=s) (js:=fun k=>js.getD k 0) (old:=old) (k:=js.length) (by rw[hcc];exact hc) h.still (by rw[hn];omega) h.ln.symm (by rw[hcc];exact hlog) (by rw[hcc];omega) (fun k hk=>by
  obtain⟨r1,r2,r3,r4⟩:=h.recs k hk
  simp only[hget k hk]
  rw[hcc,hn]
  exact⟨r1,r2,r3,r4⟩)
 rw[e1] at e;cases e
 refine⟨e3,fun x hx=> ?_⟩
 rw[e4,kK (by omega),if_neg]
 rintro⟨j,hj,e⟩
 have h1:=(h.recs j hj).2.2.1
 rw[hget j hj] at e
 omega
theorem vP(l:List Nat):∃ b,b∉l:=by
 have h:∀ l:List Nat,∃ n,∀ x∈l,x<n:=fun l=>by
  induction l with
  | nil=>exact⟨0,fun x h=>by cases h⟩
  | cons y l ih=>
    obtain⟨n,hn⟩:=ih
    refine⟨n+y+1,fun x h=> ?_⟩
    rcases List.mem_cons.1 h with rfl | h
    ·omega
    ·have:=hn x h;omega
 obtain⟨n,hn⟩:=h l
 exact⟨n,fun h=>Nat.lt_irrefl _ (hn n h)⟩
theorem B8(M:Md):(M.back 0).undo=M.undo∧(M.back 0).ids=M.ids∧(M.back 0).hs=M.hs∧(M.back 0).fresh=M.fresh∧(M.back 0).c=M.c∧(M.back 0).left=M.left∧(M.back 0).thn=M.thn:=by
 unfold Md.back
 suffices h:∀ us:List Un,let B:=us.foldr (fun u m=>u.run m) M;B.undo=M.undo∧B.ids=M.ids∧B.hs=M.hs∧B.fresh=M.fresh∧B.c=M.c∧B.left=M.left∧B.thn=M.thn from h _
 intro us
 induction us with
 | nil=>exact⟨rfl,rfl,rfl,rfl,rfl,rfl,rfl⟩
 | cons x us ih=>
   obtain⟨h1,h2,h3,h4,h5,h6,h7⟩:=ih
   obtain⟨k1,k2,k3,k4,k5,_,_,k8,k9,_⟩:=nk (us.foldr (fun u m=>u.run m) M) x
   exact⟨k1.trans h1,k2.trans h2,k3.trans h3,k4.trans h4,k5.trans h5,k8.trans h6,k9.trans h7⟩
theorem MdW.back{M:Md}{K:Nat}(W:MdW M K):MdW (M.back 0) K:=by
 unfold Md.back
 rw[List.drop_zero]
 suffices h:∀ us:List Un,(∀ u∈us,u.W M)→MdW (us.foldr (fun u m=>u.run m) M) K∧(us.foldr (fun u m=>u.run m) M).ids=M.ids∧(us.foldr (fun u m=>u.run m) M).roots.length=M.roots.length∧∀ b,((us.foldr (fun u m=>u.run m) M).g b).wd=(M.g b).wd∧((us.foldr (fun u m=>u.run m) M).g b).rf=(M.g b).rf from(h _ W.uw).1
 intro us
 induction us with
 | nil=>exact fun _=>⟨W,rfl,rfl,fun _=>⟨rfl,rfl⟩⟩
 | cons x us ih=>
   intro hu
   obtain⟨h1,h2,h3,h4⟩:=ih fun u h=>hu u (List.mem_cons_of_mem _ h)
   obtain⟨_,k2,_,_,_,_,_,_,_,k10,k11⟩:=nk (us.foldr (fun u m=>u.run m) M) x
   exact⟨h1.run ((hu x (List.mem_cons_self ..)).congr (fun b hb=>by rw[h2];exact hb) h3 fun b _=>h4 b),k2.trans h2,k10.trans h3,fun b=>⟨(k11 b).1.trans (h4 b).1,(k11 b).2.trans (h4 b).2⟩⟩
theorem MdW.shut{M:Md}{K:Nat}(W:MdW M K):MdW {M with o:=false,seen:=[]} K:=
 {W with si:=fun k h=>(by cases h),sl:=(by have:=W.c.l1;have:=W.c.r1;show(0:Int)≤M.c.log;omega),uw:=fun u hu=>(W.uw u hu).congr (fun _ e=>e) rfl fun _ _=>⟨rfl,rfl⟩}
section
variable {c:Cfg} {N bd:Nat} {h:HpS} {s:Dev} {M:Md} {D:List Nat} {f:Nat→Int} {a u:Int} {L:List Int} {K:Nat} {old:Nat→Int} {js:List Nat} {u0:Int} {m0:Int→Int} {L0:List Int} {D0:List Nat}
theorem eQ.sim(S:eQ c N bd h s M D f a u L K):Sim c N bd h s M K:= .inl ⟨D,f,a,u,L,S⟩
theorem et.commit(S:et c N bd h s M D f a u L K old js u0 m0 L0 D0):∃ h' s',h.commit s= .ok (0,h') s'∧eQ c N bd h' s' M.commit.2 D f a u L K:=by
 obtain⟨h',s',e1,H,hX,hT,_,hl⟩:=S.H.commit S.hc S.hx
 refine⟨h',s',e1,?_⟩
 have e:M.commit.2={M with o:=false,seen:=[]}:=by unfold Md.commit;rw[if_pos S.mo]
 rw[e]
 exact⟨⟨S.hc,H.hm,H.hcc,H.hw,S.G.cong S.hc S.hm fun j _ hj=>hl j hj.1,by rw[hT];exact S.T,S.W.shut,S.cc,S.di⟩,H,S.us,rfl,rfl,by rw[hX];exact S.lf⟩
theorem et.abort(S:et c N bd h s M D f a u L K old js u0 m0 L0 D0):(∀ s',¬ h.S.abort s= .off s')∧∀ x h' s',h.abortR s x h' s'→x=0∧eQ c N bd h' s' M.abort.2 D0 f a u0 L0 K:=by
 obtain⟨s1,e1,e2,e3,e4,_,e6⟩:=Bn S.H.ss S.hc
 refine⟨fun s' h9=>(by rw[e1] at h9;cases h9),?_⟩
 rintro x h' s' (⟨h9,_⟩ | ⟨_,rfl,S',h10,ord,hperm,rfl⟩)
 ·rw[S.H.ho] at h9;cases h9
 rw[e1] at h10;cases h10
 refine⟨rfl,?_⟩
 have hA:=ga S.hc
 have hN:=S.H.ss.hN
 have hf:=jq S.hc S.hm.a01
 have hu0:=S.hm0.u0
 have hr1:=S.hc.r1
 have hlog1:(c.active:Int)=c.active:=rfl
 have hld:∀ j,InB c a u0 j→s1.load j=m0 j:=fun j hj=>by
  obtain⟨h1,h2⟩:=hj
  have hs1:=S.hc.s1
  have:=S.hm.u0
  rw[ef (k:=j.toNat) (by omega) (by rw[e3];omega),e4 _ (by omega) (by rw[S.H.ff,S.H.ft];omega),S.ol _ (by omega) (by omega)]
  congr 1;omega
 have hm1:HM c s1.load a u0 L0:=S.hm0.cong S.hc hld
 have hk:=uJ S.H.ss.logw e1
 have hu1:=hk.1 S.H.uu
 have hsk:SK c N bd {h.S with L:=h.S.L.shut} s1:=⟨e2,hu1,e3,hN,hk.2.2.2.2.1.trans S.H.ss.hc,hk.2.2.1,hk.2.2.2.2.2,hk.2.2.2.1.trans S.H.dd,e6⟩
 have hbl:h.blk s1=fu c s1.load a u0:=by show(s1.block h.c).1=_;rw[S.hcc,hm1.block]
 have hto:∀ p,mp h.c (h.blk s1) p=if c.frm a≤p∧p<c.frm a+u0 then p else 0:=fun p=>by
  unfold mp Blk.has
  rw[hbl,S.hcc]
  simp only[Bool.and_eq_true,decide_eq_true_eq]
  by_cases h1:c.frm a≤p∧p<c.frm a+u0
  ·rw[if_pos h1,if_pos ⟨h1.1,by omega⟩]
  ·rw[if_neg h1,if_neg (by omega)]
 have hmw:=S.hw.moved (to_:=mp h.c (h.blk s1)) (fun p=>by rw[hto];split<;>omega) hperm hsk.lw (by rw[S.H.hbd];exact hsk.ld) (by rw[S.hcc];exact hsk.lc) hu1 (by rw[e3,S.H.ss.n])
 have eX:∀ T:cX,({h with X:=none,o:=false,S:={h.S with L:=h.S.L.shut},T:=T}:HpS)={h with o:=false,S:={h.S with L:=h.S.L.shut},T:=T}:=fun T=>by rw[←S.hx]
 rw[eX] at hmw
 have htb:=S.T.w.moved (to_:=mp h.c (h.blk s1)) (fun p hp q hq e hz=>by
  rw[hto] at e hz
  rw[hto] at e
  split at hz
  ·rename_i h1
   rw[if_pos h1] at e
   split at e
   ·exact e
   ·omega
  ·exact absurd aa hz) hperm
 have hba:=B8 M
 have hbW:=S.W.back
 have hhs:(M.hs.map (iU M.fresh)).length=M.hs.length:=List.length_map _
 have hdF:∀ b∈D,iU M.fresh (some b)=if f b<c.frm a+u0 then some b else none:=fun b hb=>by
  unfold iU
  by_cases h1:f b<c.frm a+u0
  ·rw[if_pos h1,if_neg]
   intro h2;have:=(S.fr b hb).1 h2.1;omega
  ·rw[if_neg h1,if_pos ⟨(S.fr b hb).2 (by omega),by simp⟩]
 have e:M.abort.2={{M.back 0 with hs:=M.hs.map (iU M.fresh)} with o:=false,seen:=[]}:=by unfold Md.abort;rw[if_neg (show ¬ ¬ M.o=true by rw[S.mo];simp)]
 rw[e]
 have hD0:∀ b∈D0,b∈M.ids:=fun b hb=>S.di b ((S.d0 b).1 hb).1
 have hin:∀ b,some b∈M.hs.map (iU M.fresh)→b∈D0:=fun b hb=>by
  obtain⟨x,hx,ex⟩:=List.mem_map.1 hb
  cases x with
  | none=>unfold iU at ex;split at ex<;>cases ex
  | some b'=>
    have h1:=S.T.inD b' hx
    rw[hdF b' h1] at ex
    split at ex
    ·cases ex;exact(S.d0 _).2 ⟨h1,by assumption⟩
    ·cases ex
 have hTR:TR (cX.moved (mp h.c (h.blk s1)) h.T.last ord) (M.hs.map (iU M.fresh)) D0 f:=by
  refine⟨htb.1,by rw[hhs];exact S.T.last,fun n=> ?_,hin⟩
  rw[htb.2.1,S.T.get]
  simp only[List.getD_eq_getElem?_getD,List.getElem?_map]
  cases hg:M.hs[n]? with
  | none=>rfl
  | some x=>cases x with
    | none=>
      have:iU M.fresh none=none:=by unfold iU;split<;>rfl
      simp[this]
    | some b=>
      have h1:=S.T.inD b (List.mem_of_getElem? hg)
      have h2:=S.toSB.fb h1
      have h3:=S.hm.tile.mem (S.G.inL b h1)
      simp only[Option.getD_some,Option.map_some,hdF b h1,hto]
      by_cases h4:f b<c.frm a+u0
      ·have h5:(if c.frm a≤f b∧f b<c.frm a+u0 then f b else 0)=f b:=if_pos ⟨h3.1,h4⟩
       rw[if_pos h4,h5,if_neg (by omega)];rfl
      ·have h5:(if c.frm a≤f b∧f b<c.frm a+u0 then f b else 0)=0:=if_neg fun h=>h4 h.2
       rw[if_neg h4,h5,if_pos rfl];rfl
 have hHC:HC False c N bd {h with o:=false,S:={h.S with L:=h.S.L.shut},T:=cX.moved (mp h.c (h.blk s1)) h.T.last ord} s1 a u0 L0:=⟨S.H.hbd,S.H.hcc,rfl,hsk,hm1,(zJ S.H.ss S.hc e1).readC S.hc S.H.nc S.H.rc,hmw,fun h=>h.elim⟩
 exact⟨⟨S.hc,hm1,S.hcc,hmw,S.G0.cong S.hc S.hm0 fun j _ hj=>hld j hj,hTR,(hbW.withHs (fun b hb=>by rw[hba.2.1];exact hD0 b (hin b hb)) (by rw[hhs];exact S.W.hl) (Nat.le_refl _) S.W.kl).shut,hba.2.2.2.2.1.trans S.cc,fun b hb=>by show b∈(M.back 0).ids;rw[hba.2.1];exact hD0 b hb⟩,hHC,S.b0,rfl,rfl,by show XR c s1 _ D0 f a u0 L0 h.X;rw[S.hx];exact hba.2.2.2.2.2.1.trans S.lf⟩
theorem et.does(S:et c N bd h s M D f a u L K old js u0 m0 L0 D0)(hK:K+1≤1000)(cl:Cal)(hok:cl.ok):(∀ s',¬ h.cuts s s' cl)∧∀ x h' s' y M',h.does s x h' s' cl→M.does y M' cl→x=y∧Sim c N bd h' s' M' (K+1):=by
 have ho:=S.H.ho
 have mo:=S.mo
 have hno:¬ h.o=false:=by rw[ho];decide
 have same:Sim c N bd h s M (K+1):=(S.grow hK).sim
 cases cl with
 | begin r=>
   refine⟨fun s' h9=>hno h9.1,fun x h' s' y M' ⟨b,g1,g2⟩ ⟨g3,g4⟩=> ?_⟩
   rcases g1 with ⟨_,rfl,rfl,rfl⟩ | ⟨g1,_⟩ | ⟨g1,_⟩
   ·unfold Md.begin at g3 g4;rw[if_pos mo] at g3 g4
    rw[g2,g3,g4];exact⟨rfl,same⟩
   ·exact absurd g1 hno
   ·exact absurd g1 hno
 | commit=>
   obtain⟨h1,s1,e1,S1⟩:=S.commit
   refine⟨fun s' h9=> ?_,fun x h' s' y M' ⟨b,g1,g2⟩ ⟨g3,g4⟩=> ?_⟩
   ·have h8:h.commit s= .off s':=h9
    rw[e1] at h8;cases h8
   ·rw[e1] at g1;cases g1
    rw[g2,g3,g4]
    refine⟨?_,(S1.grow hK).sim⟩
    unfold Md.commit;rw[if_pos mo]
 | abort=>
   obtain⟨h1,h2⟩:=S.abort
   refine⟨h1,fun x h' s' y M' ⟨b,g1,g2⟩ ⟨g3,g4⟩=> ?_⟩
   obtain⟨rfl,S1⟩:=h2 _ _ _ g1
   rw[g2,g3,g4]
   refine⟨?_,(S1.grow hK).sim⟩
   unfold Md.abort;rw[if_neg (show ¬ ¬ M.o=true by rw[mo];simp)]
 | alloc w r=>
   refine⟨fun s' h9=> ?_,fun x h' s' y M' ⟨b,g1,g2⟩ ⟨b',c1,c2,nv,vv,g0,g3,g4⟩=> ?_⟩
   ·have h8:h.alloc s w r= .off s':=h9
    obtain⟨b',hb'⟩:=vP M.ids
    obtain⟨_,_,_,e1,_⟩:=S.alloc hK (w:=w) (r:=r) (b:=b') (c1:=0) (c2:=0) (nv:= .pointer none) (vv:= .pointer none) fun _=>hb'
    rw[e1] at h8;cases h8
   ·obtain⟨_,_,_,e1,e2,e3⟩:=S.alloc hK (c1:=c1) (c2:=c2) (nv:=nv) (vv:=vv) g0
    rw[e1] at g1;cases g1
    rw[g2,g3,g4,e2];exact⟨rfl,e3⟩
 | head n=>
   refine⟨fun s' h9=>h9,fun x h' s' y M' ⟨g1,g2,g3⟩ ⟨g4,g5⟩=> ?_⟩
   rw[g1,g2,g3,g4,g5,S.toSB.head];exact⟨rfl,same⟩
 | read n i=>
   refine⟨fun s' h9=>h9,fun x h' s' y M' ⟨g1,g2,g3⟩ ⟨g4,g5⟩=> ?_⟩
   rw[g1,g2,g3,g4,g5,S.toSB.read];exact⟨rfl,same⟩
 | write n i v=>
   refine⟨fun s' h9=> ?_,fun x h' s' y M' ⟨b,g1,g2⟩ ⟨c1,c2,c3,g3,g4⟩=> ?_⟩
   ·have h8:h.write s n i v= .off s':=h9
    obtain⟨_,_,_,e1,_⟩:=S.write hK (n:=n) (i:=i) hok 0 0 0
    rw[e1] at h8;cases h8
   ·obtain⟨_,_,_,e1,e2,e3⟩:=S.write hK (n:=n) (i:=i) hok c1 c2 c3
    rw[e1] at g1;cases g1
    rw[g2,g3,g4,e2];exact⟨rfl,e3⟩
 | ref n i=>
   refine⟨fun s' h9=>h9,fun x h' s' y M' ⟨g1,g2,g3⟩ ⟨g4,g5⟩=> ?_⟩
   obtain⟨k1,k2⟩:=S.ref hK n i
   rw[g1,g2,g3,g4,g5,k1];exact⟨rfl,k2.sim⟩
 | point n i t=>
   refine⟨fun s' h9=> ?_,fun x h' s' y M' ⟨b,g1,g2⟩ ⟨c1,c2,c3,g3,g4⟩=> ?_⟩
   ·have h8:h.point s n i t= .off s':=h9
    obtain⟨_,_,_,e1,_⟩:=S.point hK (n:=n) (i:=i) (t:=t) 0 0 0
    rw[e1] at h8;cases h8
   ·obtain⟨_,_,_,e1,e2,e3⟩:=S.point hK (n:=n) (i:=i) (t:=t) c1 c2 c3
    rw[e1] at g1;cases g1
    rw[g2,g3,g4,e2];exact⟨rfl,e3⟩
 | root i=>
   refine⟨fun s' h9=>h9,fun x h' s' y M' ⟨g1,g2,g3⟩ ⟨g4,g5⟩=> ?_⟩
   obtain⟨k1,k2⟩:=S.root hK i
   rw[g1,g2,g3,g4,g5,k1];exact⟨rfl,k2.sim⟩
 | set i t=>
   refine⟨fun s' h9=> ?_,fun x h' s' y M' ⟨b,g1,g2⟩ ⟨c1,c2,c3,g3,g4⟩=> ?_⟩
   ·have h8:h.setRoot s i t= .off s':=h9
    obtain⟨_,_,_,e1,_⟩:=S.set hK (i:=i) (t:=t) 0 0 0
    rw[e1] at h8;cases h8
   ·obtain⟨_,_,_,e1,e2,e3⟩:=S.set hK (i:=i) (t:=t) c1 c2 c3
    rw[e1] at g1;cases g1
    rw[g2,g3,g4,e2];exact⟨rfl,e3⟩
 | drop n=>
   refine⟨fun s' h9=>h9,fun x h' s' y M' ⟨g1,g2,g3⟩ ⟨g4,g5⟩=> ?_⟩
   obtain⟨k1,k2⟩:=S.drop hK n
   rw[g1,g2,g3,g4,g5,k1];exact⟨rfl,k2.sim⟩
 | step n=>
   refine⟨fun s' h9=>hno h9.1,fun x h' s' y M' ⟨d,b,g1,g2⟩ ⟨g3,g4⟩=> ?_⟩
   rcases g1 with ⟨_,rfl,rfl,rfl,rfl⟩ | ⟨g1,_⟩
   ·unfold Md.step at g3 g4;rw[if_pos mo] at g3 g4
    rw[g2,g3,g4];exact⟨rfl,same⟩
   ·exact absurd g1 hno
 | collect=>
   refine⟨fun s' h9=>hno h9.1,fun x h' s' y M' ⟨b,g1,g2⟩ ⟨g3,g4⟩=> ?_⟩
   rcases g1 with ⟨_,rfl,rfl,rfl⟩ | ⟨g1,_⟩
   ·unfold Md.collect at g3 g4;rw[if_pos mo] at g3 g4
    rw[g2,g3,g4];exact⟨rfl,same⟩
   ·exact absurd g1 hno
theorem Sim.does(S:Sim c N bd h s M K)(hK:K+1≤1000)(cl:Cal)(hok:cl.ok):(∀ s',¬ h.cuts s s' cl)∧∀ x h' s' y M',h.does s x h' s' cl→M.does y M' cl→x=y∧Sim c N bd h' s' M' (K+1):=by
 rcases S with ⟨D,f,a,u,L,S⟩ | ⟨D,f,a,u,L,old,js,u0,m0,L0,D0,S⟩
 ·exact S.does hK cl
 ·exact S.does hK cl hok
end
abbrev xa(m:Int→Int)(k:Int):du:=(osz m k - 1,orf m k,k)
theorem lM(s:Dev)(o:du):∀ (f:Nat) (k:Int) (p:Int×Int),p∈s.objNames o f k↔∃ j,k≤j∧j<k+f∧IntKind.i64.wrap (s.load (o.2.2+1+j))≠0∧p=(j,IntKind.i64.wrap (s.load (o.2.2+1+j)))
 | 0,k,p=>⟨fun h=>(by cases h),fun ⟨j,h1,h2,_⟩=>by omega⟩
 | f+1,k,p=>by
   have ih:=lM s o f (k+1) p
   unfold Dev.objNames
   have key:(∃ j,k+1≤j∧j<k+1+f∧IntKind.i64.wrap (s.load (o.2.2+1+j))≠0∧p=(j,IntKind.i64.wrap (s.load (o.2.2+1+j))))∨(IntKind.i64.wrap (s.load (o.2.2+1+k))≠0∧p=(k,IntKind.i64.wrap (s.load (o.2.2+1+k))))↔∃ j,k≤j∧j<k+((f+1:Nat):Int)∧IntKind.i64.wrap (s.load (o.2.2+1+j))≠0∧p=(j,IntKind.i64.wrap (s.load (o.2.2+1+j))):=by
    constructor
    ·rintro(⟨j,h1,h2,h3⟩ | ⟨h1,h2⟩)
     ·exact⟨j,by omega,by omega,h3⟩
     ·exact⟨k,by omega,by omega,h1,h2⟩
    ·rintro⟨j,h1,h2,h3⟩
     by_cases hj:j=k
     ·subst hj;exact .inr h3
     ·exact .inl ⟨j,by omega,by omega,h3⟩
   rw[←key]
   split
   ·rename_i h
    rw[List.mem_cons,ih]
    exact⟨fun h1=>h1.elim (fun e=> .inr ⟨h,e⟩) .inl,fun h1=>h1.elim .inr fun e=> .inl e.2⟩
   ·rename_i h
    rw[ih]
    exact⟨.inl,fun h1=>h1.elim id fun e=>absurd e.1 h⟩
structure RI(m:Int→Int)(L ws P:List Int)(x:gJ):Prop where
 q:∃ Q:List Int,x.2=Q.map (xa m)∧x.1.map Prod.fst=P++Q
 nd:(x.1.map Prod.fst).Nodup
 inL:∀ k∈x.1.map Prod.fst,k∈L∧Rch m ws k
section
variable {c:Cfg} {b:Blk} {s:Dev} {L ws P:List Int} {x:gJ}
theorem RI.see(hc:bC c)(hb:fg c b)(hh:kD c b s.load L)(h:RI s.load L ws P x){v:Int}(hv:v=0∨(v∈L∧Rch s.load ws v)):RI s.load L ws P (s.see c b x v)∧(∀ k∈x.1.map Prod.fst,k∈(s.see c b x v).1.map Prod.fst)∧(v=0∨v∈(s.see c b x v).1.map Prod.fst):=by
 unfold Dev.see
 by_cases h1:(bi x.1 v).isSome=true∨b.has c v=false
 ·rw[if_pos h1]
  refine⟨h,fun _ h=>h,?_⟩
  rcases hv with hv | hv
  ·exact .inl hv
  ·right
   rcases h1 with h1 | h1
   ·cases hm:bi x.1 v with
    | none=>rw[hm] at h1;cases h1
    | some u=>exact List.mem_map.2 ⟨_,jJ hm,rfl⟩
   ·rw[(mh hc hb hh hv.1).2] at h1;cases h1
 ·rw[if_neg h1]
  have h2:b.has c v=true:=by cases hm:b.has c v with
   | true=>rfl
   | false=>exact absurd (.inr hm) h1
  have h3:bi x.1 v=none:=by cases hm:bi x.1 v with
   | none=>rfl
   | some _=>exact absurd (.inl (by rw[hm];rfl)) h1
  have hvL:v∈L∧Rch s.load ws v:=by
   rcases hv with rfl | hv
   ·have h4:=jX hc hb h2
    have hf:=gE hc (k:=b.act) (by have:=hb.act;omega)
    omega
   ·exact hv
  have ho:=(mh hc hb hh hvL.1).1
  rw[if_pos (by rw[ho]),dO h3,ho]
  simp only[List.map_append,List.map_cons,List.map_nil]
  obtain⟨Q,q1,q2⟩:=h.q
  refine⟨⟨⟨Q++[v],by rw[q1];simp,by simp only[List.map_append,List.map_cons,List.map_nil,q2,List.append_assoc]⟩,?_,fun k hk=> ?_⟩,fun k hk=>List.mem_append_left _ hk,.inr (by simp)⟩
  ·simp only[List.map_append,List.map_cons,List.map_nil]
   rw[List.nodup_append]
   exact⟨h.nd,by simp,fun a ha b' hb'=>by simp at hb';subst hb';intro e;subst e;exact i0 h3 ha⟩
  ·simp only[List.map_append,List.map_cons,List.map_nil,List.mem_append,List.mem_singleton] at hk
   rcases hk with hk | rfl
   ·exact h.inL k hk
   ·exact hvL
theorem RI.sees(hc:bC c)(hb:fg c b)(hh:kD c b s.load L):∀ (l:List Int) {x:gJ},RI s.load L ws P x→(∀ v∈l,v=0∨(v∈L∧Rch s.load ws v))→RI s.load L ws P (l.foldl (s.see c b) x)∧(∀ k∈x.1.map Prod.fst,k∈(l.foldl (s.see c b) x).1.map Prod.fst)∧∀ v∈l,v=0∨v∈(l.foldl (s.see c b) x).1.map Prod.fst
 | [],_,h,_=>⟨h,fun _ h=>h,fun v h=>(by cases h)⟩
 | v::t,x,h,hl=>by
   obtain⟨h1,h2,h3⟩:=h.see hc hb hh (hl v (List.mem_cons_self ..))
   obtain⟨g1,g2,g3⟩:=RI.sees hc hb hh t h1 fun v hv=>hl v (List.mem_cons_of_mem _ hv)
   refine⟨g1,fun k hk=>g2 k (h2 k hk),fun v' hv'=> ?_⟩
   rcases List.mem_cons.1 hv' with rfl | hv'
   ·exact h3.imp id (g2 _)
   ·exact g3 v' hv'
theorem sR(hc:bC c)(hb:fg c b)(hh:kD c b s.load L):∀ (n:Nat) (x:gJ) (P:List Int),RI s.load L ws P x→(∀ k∈P,∀ i,0≤i→i<orf s.load k→s.load (k+1+i)=0∨s.load (k+1+i)∈x.1.map Prod.fst)→(∀ w∈ws,w=0∨w∈x.1.map Prod.fst)→L.length<P.length+n→
 ∃ O:List Int,s.reachL c b n x=O.map (xa s.load)∧(P++O).Nodup∧∀ k,k∈P++O↔Rch s.load ws k
 | 0,x,P,h,_,_,hn=>by
   obtain⟨Q,q1,q2⟩:=h.q
   have h1:=h.nd
   rw[q2,List.nodup_append] at h1
   have h2:=gA h1.1 fun k hk=>(h.inL k (by rw[q2];exact List.mem_append_left _ hk)).1
   omega
 | n+1,x,P,h,hcl,hws,hn=>by
   obtain⟨Q,q1,q2⟩:=h.q
   unfold Dev.reachL
   cases Q with
   | nil=>
     rw[q1]
     rw[List.append_nil] at q2
     refine⟨[],rfl,by rw[List.append_nil, ←q2];exact h.nd,fun k=> ?_⟩
     rw[List.append_nil, ←q2]
     refine⟨fun hk=>(h.inL k hk).2,fun hr=> ?_⟩
     induction hr with
     | word h1 h2=>exact(hws _ h1).resolve_left h2
     | @name k i _ h1 h2 h3 ih=>exact(hcl k (by rw[←q2];exact ih) i h1 h2).resolve_left h3
   | cons k Q=>
     rw[q1]
     simp only[List.map_cons]
     have hkL:=h.inL k (by rw[q2];simp)
     have hnm:∀ i,0≤i→i<orf s.load k→s.load (k+1+i)=0∨(s.load (k+1+i)∈L∧Rch s.load ws (s.load (k+1+i))):=fun i h1 h2=>by
      rcases hh.names k hkL.1 i h1 h2 with h3 | h3
      ·exact .inl h3
      ·by_cases h4:s.load (k+1+i)=0
       ·exact .inl h4
       ·exact .inr ⟨h3,.name hkL.2 h1 h2 h4⟩
     have hwr:∀ i,0≤i→i<orf s.load k→IntKind.i64.wrap (s.load (k+1+i))=s.load (k+1+i)∧IntKind.u64.wrap (s.load (k+1+i))=s.load (k+1+i):=fun i h1 h2=>by
      have hb2:0≤s.load (k+1+i)∧s.load (k+1+i)<20000:=by
       rcases hnm i h1 h2 with h3 | ⟨h3,_⟩
       ·omega
       ·have:=oG hc hb hh h3;omega
      exact⟨gh (by omega),by simp only[IntKind.wrap,IntKind.bits,IntKind.signed];simp;omega⟩
     have h0:=cu s.load k
     have hno:∀ v,v∈s.namesOf (xa s.load k)↔∃ i,0≤i∧i<orf s.load k∧s.load (k+1+i)≠0∧v=s.load (k+1+i):=fun v=>by
      unfold Dev.namesOf
      constructor
      ·intro hv
       obtain⟨p,hp,rfl⟩:=List.mem_map.1 hv
       obtain⟨j,h1,h2,h3,rfl⟩:=(lM s _ _ _ _).1 hp
       simp only at h2 h3 ⊢
       have h5:=hwr j h1 (by omega)
       rw[h5.1] at h3 ⊢
       exact⟨j,h1,by omega,h3,h5.2⟩
      ·rintro⟨i,h1,h2,h3,rfl⟩
       have h5:=hwr i h1 h2
       refine List.mem_map.2 ⟨(i,s.load (k+1+i)),(lM s _ _ _ _).2 ⟨i,h1,by simp only;omega,by simp only;rw[h5.1];exact h3,by simp only;rw[h5.1]⟩,h5.2⟩
     have hx1:RI s.load L ws (P++[k]) (x.1,Q.map (xa s.load)):=⟨⟨Q,rfl,by rw[q2];simp⟩,h.nd,h.inL⟩
     obtain⟨g1,g2,g3⟩:=hx1.sees hc hb hh (s.namesOf (xa s.load k)) fun v hv=>by
      obtain⟨i,h1,h2,h3,rfl⟩:=(hno v).1 hv
      exact hnm i h1 h2
     obtain⟨O,o1,o2,o3⟩:=sR hc hb hh n _ (P++[k]) g1 (fun k' hk' i h1 h2=>by
      rcases List.mem_append.1 hk' with hk' | hk'
      ·exact(hcl k' hk' i h1 h2).imp id (g2 _)
      ·rw[List.mem_singleton.1 hk'] at h2 ⊢
       by_cases h4:s.load (k+1+i)=0
       ·exact .inl h4
       ·exact g3 _ ((hno _).2 ⟨i,h1,h2,h4,rfl⟩)) (fun w hw=>(hws w hw).imp id (g2 _)) (by simp;omega)
     refine⟨k::O,by rw[o1];rfl,by rw[List.append_assoc] at o2;exact o2,fun k'=> ?_⟩
     rw[←o3,List.append_assoc];rfl
theorem Rch.sub{m:Int→Int}{ws ws':List Int}(h:∀ w∈ws,w∈ws'){k:Int}(r:Rch m ws k):Rch m ws' k:=by
 induction r with
 | word h1 h2=>exact .word (h _ h1) h2
 | name _ h1 h2 h3 ih=>exact .name ih h1 h2 h3
theorem sK(m:Int→Int):∀ (O:List Int) (n:Int),0≤n→n+65*O.length≤1000000000→(O.map (xa m)).foldl qy n=n+iz (osz m) O
 | [],n,_,_=>by simp[iz]
 | k::O,n,h0,h=>by
   have hz:=cu m k
   simp only[List.map_cons,List.foldl_cons,List.length_cons] at h ⊢
   have e:qy n (xa m k)=n+osz m k:=by unfold qy;rw[gh (by simp only;omega)];simp only;omega
   rw[e,sK m O _ (by omega) (by omega)]
   simp only[iz,List.map_cons,List.sum_cons];omega
end
section
variable {c:Cfg} {h:HpS} {s:Dev} {M:Md} {D:List Nat} {f:Nat→Int} {a u:Int} {L:List Int} {K:Nat}
theorem SB.size(S:SB c h s M D f a u L K):s.reachSize h.c (h.blk s) (h.words++(h.blk s).rts)=M.size:=by
 have hbl:h.blk s=fu c s.load a u:=by show(s.block h.c).1=_;rw[S.hcc,S.hm.block]
 rw[hbl,S.hcc]
 have hb:=S.hm.bw
 have hh:=S.hm.heap
 have hsub:∀ k,Rch s.load (h.words++(fu c s.load a u).rts) k↔∃ b∈M.R,k=f b:=fun k=>by
  rw[←S.reach]
  exact⟨Rch.sub fun w hw=>by rw[List.mem_append] at hw ⊢;exact hw.symm,Rch.sub fun w hw=>by rw[List.mem_append] at hw ⊢;exact hw.symm⟩
 have hws:∀ w∈h.words++(fu c s.load a u).rts,w=0∨(w∈L∧Rch s.load (h.words++(fu c s.load a u).rts) w):=fun w hw=>by
  by_cases h0:w=0
  ·exact .inl h0
  ·have hr:Rch s.load (h.words++(fu c s.load a u).rts) w:= .word hw h0
   obtain⟨b,hb,e⟩:=(hsub w).1 hr
   exact .inr ⟨by rw[e];exact S.G.inL b (S.R_D b hb),hr⟩
 obtain⟨g1,g2,g3⟩:=RI.sees (P:=[]) S.hc hb hh _ (x:=([],[])) ⟨⟨[],rfl,rfl⟩,List.nodup_nil,fun k h=>(by cases h)⟩ hws
 have hlen:=hh.tile.len
 have hu:=S.hm.u0
 obtain⟨O,o1,o2,o3⟩:=sR S.hc hb hh (u.toNat+1) _ [] g1 (fun k h=>(by cases h)) g3 (by
  unfold Blk.place at hlen
  simp only[List.length_nil] at hlen ⊢
  omega)
 simp only[List.nil_append] at o2 o3
 have hOL:O.length≤L.length:=gA o2 fun k hk=>by
  obtain⟨b,hb,rfl⟩:=(hsub k).1 ((o3 k).1 hk)
  exact S.G.inL b (S.R_D b hb)
 unfold Dev.reachSize Dev.reach
 show(s.reachL c (fu c s.load a u) (u.toNat+1) _).foldl qy 0=_
 rw[o1,sK _ _ _ (Int.le_refl 0) (by
  have:=S.hc.s2
  unfold Blk.place at hlen
  simp only at hlen
  omega),Int.zero_add,S.W.R_size, ←tQ M.g f s.load M.R fun b hb=>(S.G.hd b (S.R_D b hb)).1]
 refine sG (fun x=>by have:=cu s.load x;omega) o2 ?_ fun x=> ?_
 ·exact List.pairwise_map.2 (S.W.R_nd.imp_of_mem fun {p q} hp hq (hne:p≠q) e=>hne (S.G.inj p (S.R_D p hp) q (S.R_D q hq) e))
 ·rw[o3,hsub,List.mem_map]
  exact⟨fun ⟨b,h1,h2⟩=>⟨b,h1,h2.symm⟩,fun ⟨b,h1,h2⟩=>⟨b,h1,h2.symm⟩⟩
theorem Sim.stats{N bd:Nat}(S:Sim c N bd h s M K):h.stats s=⟨M.used,M.size,M.live,M.seen.length,M.o⟩:=by
 unfold HpS.stats
 rcases S with ⟨D,f,a,u,L,S⟩ | ⟨D,f,a,u,L,old,js,u0,m0,L0,D0,S⟩
 ·rw[S.toSB.size,S.T.live,S.H.blk,S.H.ho,S.mo,S.se,S.us,S.H.sk.ln];rfl
 ·rw[S.toSB.size,S.T.live,S.H.blk,S.H.ho,S.mo,S.us,S.H.ss.ln,S.jl]
end
def Md.new(c:Cfg):Md:=⟨c,List.replicate c.roots.toNat none,0,[],false,[],[],[], -1,0,[],fun _=>⟨0,0,[],[],.pointer none,.pointer none⟩⟩
theorem CQ{B:World}{Fr:List HP}{w:World}{bm br:Nat}{c:Cfg}(hh:Holds B (eI bm br c.roots.toNat c::fa br c.roots.toNat::Fr) w):Holds B (dI bm (Md.new c)::Fr) w:=by
 refine bj (M:=Md.new c) (rv:= .slice (some ⟨br,0,none⟩) c.roots.toNat c.roots.toNat) (hv:= .slice none 0 0) (sv:= .slice none 0 0) (fv:= .slice none 0 0) (uv:= .slice none 0 0) ?_
 have h1:Holds B (VN (.slice (some ⟨br,0,none⟩) c.roots.toNat c.roots.toNat) (List.replicate c.roots.toNat none)::eI bm br c.roots.toNat c::Fr) w:=fH (T:=136) (m:=1) (enc:=pnE) (bd:=br) (q:=c.roots.toNat) (c:=c.roots.toNat) (k:=0) (pre:=[]) (rest:=[]) (xs:=List.replicate c.roots.toNat none) (by simp) rfl (by simp) rfl (by rw[AH];simpa using hh.front 1 rfl)
 have h2:=xY (bm:=bm) (fX (α:=Un) (T:=1) (m:=1) (enc:=unE) (fX (α:=Option Nat) (T:=136) (m:=1) (enc:=pnE) (fX (α:=Option Nat×Int) (T:=198) (m:=2) (enc:=mP) (fX (α:=Option Nat) (T:=136) (m:=1) (enc:=pnE) h1))))
 have h3:Holds B (cB [] (Md.new c).g::_) w:=Holds.ungrp (l:=[]) h2
 exact h3.pk [7,6,5,4,3,2]
theorem CO{c:Cfg}(hc:bC c):MdW (Md.new c) 0 where
 c:=hc
 nd:=List.nodup_nil
 gw:=fun b h=>by cases h
 ri:=fun b h=>by have:=(List.mem_replicate.1 h).2;cases this
 rl:=by show((List.replicate c.roots.toNat (none:Option Nat)).length:Int)=c.roots;have:=hc.r1;simp;omega
 hi:=InL.nil _
 fi:=InL.nil _
 si:=fun k h=>by cases h
 sl:=by have:=hc.l1;have:=hc.r1;show(0:Int)≤c.log;omega
 uw:=fun u h=>by cases h
 hl:=Nat.le_refl _
 fl:=Nat.le_refl _
 ul:=Nat.le_refl _
 il:=Nat.le_refl _
 kl:=Nat.zero_le _
 us:=by show(0:Int)≤0∧(0:Int)≤100000000;decide
 lf:=by show(-1:Int)≤ -1∧(-1:Int)≤10000000;decide
 th:=by show(0:Int)≤0∧(0:Int)≤100000000;decide
theorem HC.mono{kp kp':Prop}{c:Cfg}{N bd:Nat}{h:HpS}{s:Dev}{a u:Int}{L:List Int}(H:HC kp c N bd h s a u L)(f:kp'→kp):HC kp' c N bd h s a u L:=⟨H.hbd,H.hcc,H.ho,H.sk,H.hm,H.rc,H.hw,fun p=>H.hkp (f p)⟩
theorem Cs{c:Cfg}(hc:bC c){N bd:Nat}{s:Dev}(H:HC True c N bd (ik bd c s) s 0 0 []):Sim c N bd (ik bd c s) s (Md.new c) 0:=by
 have e:∀ i:Nat,(Md.new c).roots.getD i none=none:=fun i=>by
  show(List.replicate c.roots.toNat (none:Option Nat)).getD i none=none
  rw[List.getD_eq_getElem?_getD,List.getElem?_replicate];split<;>rfl
 refine eQ.sim (D:=[]) (f:=fun _=>0) (a:=0) (u:=0) (L:=[]) ⟨⟨hc,H.hm,H.hcc,H.hw,⟨fun b h=>(by cases h),fun b h=>(by cases h),fun b h=>(by cases h),fun b h=>(by cases h),fun b h=>(by cases h),fun i hi=> ?_⟩,TR.new _ _,CO hc,rfl,fun b h=>(by cases h)⟩,H.mono fun h=>h.elim,rfl,rfl,rfl,rfl⟩
 rw[e]
 rcases H.hm.roots i hi with h | h
 ·exact h
 ·cases h
section
variable {c:Cfg} {N bd:Nat} {h:HpS} {s:Dev} {M:Md} {K:Nat} {B:World} {Fr:List HP} {bh bm:Nat}
theorem Sim.facts(S:Sim c N bd h s M K):bC c∧dl h s∧h.bd=bd∧(s.block h.c).2=0∧MdW M K∧M.c=c∧h.c=c:=by
 rcases S with ⟨D,f,a,u,L,S⟩ | ⟨D,f,a,u,L,old,js,u0,m0,L0,D0,S⟩
 ·exact⟨S.hc,S.hw,S.H.hbd,S.H.bok,S.W,S.cc,S.hcc⟩
 ·exact⟨S.hc,S.hw,S.H.hbd,by rw[S.hcc,S.hm.block],S.W,S.cc,S.hcc⟩
theorem Sim.commit(S:Sim c N bd h s M K)(ho:M.o=true):∃ h' s',h.commit s= .ok (0,h') s'∧Sim c N bd h' s' M.commit.2 K:=by
 rcases S with ⟨D,f,a,u,L,S⟩ | ⟨D,f,a,u,L,old,js,u0,m0,L0,D0,S⟩
 ·have:=S.mo;rw[ho] at this;cases this
 ·obtain⟨h',s',e,S'⟩:=S.commit
  exact⟨h',s',e,S'.sim⟩
theorem Ev{p:Prop}[Decidable p]{x y:Prop}(hx:x)(hy:y):if p then x else y:=by split<;>assumption
theorem Dv(A:DoW)(M:Md):(A.call M).ok:=by
 simp only[DoW.call,apply_ite Cal.ok]
 repeat' first | exact trivial | exact A.vw | refine Ev ?_ ?_
theorem doS(S:Sim c N bd h s M K)(hK:K+1≤1000)(A:DoW):∀ w,Holds B (cy bh h::aG bd s::dI bm M::Fr) w→Calls Tryz.prog 28 [ptr bm,ptr bh,.agg #[.int .u8 A.k,.int .u8 A.a,.int .u8 A.b,.int .u8 A.c,w64 A.v]].toArray w (Ret B (fun rv H'=>∃ h' s' M',Sim c N bd h' s' M' (K+1)∧rv= .bool true∧H'=cy bh h'::aG bd s'::dI bm M'::Fr) (fun _ _=>False)):=by
 obtain⟨_,hW,hb,hbk,hM,_,_⟩:=S.facts
 subst hb
 obtain⟨g1,g2⟩:=S.does hK (A.call M) (Dv A M)
 refine fun w hw=>(CP B Fr bh bm h s M hW hbk (hM.mono (by omega) (by omega)) A w hw).mono (Ret.mono ?_ ?_)
 ·rintro rv H' ⟨x,y,h',s',M',k1,k2,rfl,rfl⟩
  obtain⟨rfl,k3⟩:=g2 _ _ _ _ _ k1 k2
  exact⟨h',s',M',k3,by simp,rfl⟩
 ·rintro ch H' ⟨s',k1,_⟩
  exact(g1 _ k1).elim
theorem wJ(S:Sim c N bd h s M K):∀ w,Holds B (cy bh h::aG bd s::Fr) w→Calls Tryz.prog 22 [ptr bh].toArray w (bB B (cy bh h::aG bd s::Fr) (Ax ⟨M.used,M.size,M.live,M.seen.length,M.o⟩)):=by
 obtain⟨_,hW,hb,hbk,hM,_,_⟩:=S.facts
 subst hb
 have:=oE B Fr bh h s hW
 rw[S.stats] at this
 exact this
theorem EK(S:Sim c N bd h s M K)(hK:K+1≤1000)(r:Int):∀ w,Holds B (cy bh h::aG bd s::Fr) w→Calls Tryz.prog 11 [ptr bh,i64 r].toArray w (Ret B (fun rv H'=>∃ h' s',Sim c N bd h' s' (M.begin r).2 (K+1)∧rv=i64 (M.begin r).1∧H'=cy bh h'::aG bd s'::Fr) (fun _ _=>False)):=by
 obtain⟨_,hW,hb,hbk,hM,_,_⟩:=S.facts
 subst hb
 obtain⟨g1,g2⟩:=S.does hK (.begin r) trivial
 refine fun w hw=>(oH B Fr bh h s hW hbk r w hw).mono (Ret.mono ?_ ?_)
 ·rintro rv H' ⟨x,h',s',k1,rfl,rfl⟩
  obtain⟨k2,k3⟩:=g2 [x] _ _ _ _ ⟨x,k1,rfl⟩ ⟨rfl,rfl⟩
  obtain rfl:x=(M.begin r).1:=List.head_eq_of_cons_eq k2
  exact⟨h',s',k3,rfl,rfl⟩
 ·rintro ch H' ⟨s',k1,_⟩
  exact(g1 _ k1).elim
theorem Sim.alloc(S:Sim c N bd h s M K)(hK:K+1≤1000){w r:Int}(hw:M.allocE w r=0):∃ n h' s',h.alloc s w r= .ok ((n,0),h') s':=by
 rcases S with ⟨D,f,a,u,L,S⟩ | ⟨D,f,a,u,L,old,js,u0,m0,L0,D0,S⟩
 ·unfold Md.allocE at hw
  rw[if_pos (by rw[S.mo];decide)] at hw
  exact absurd hw (by decide)
 ·obtain⟨b,hb⟩:=vP M.ids
  obtain⟨x,h',s',e,e2,_⟩:=S.alloc hK (w:=w) (r:=r) (b:=b) (c1:=0) (c2:=0) (nv:= .pointer none) (vv:= .pointer none) fun _=>hb
  have e3:x.2=0:=by rw[e2];unfold Md.alloc;rw[if_neg (by rw[hw];simp)]
  exact⟨x.1,h',s',by rw[e, ←e3]⟩
end
instance:Inhabited DoW:=⟨⟨0,0,0,0,0,by decide,by decide,by decide,by decide,by decide⟩⟩
abbrev doE(A:DoW):List Value:=[.int .u8 A.k,.int .u8 A.a,.int .u8 A.b,.int .u8 A.c,w64 A.v]
theorem xD{x:Int}(h:(Lit.int .u64 x).wf=true):0≤x∧x<18446744073709551616:=by
 simp[Lit.wf,IntKind.min,IntKind.max,IntKind.bits,IntKind.signed] at h
 omega
set_option maxRecDepth 100000 in
theorem jy{H:Type}{enc:TypeId×Value→H}{W:World}{base:Nat}{held:Bool}{a:Option Addr}{len cap:Nat}{x:DataW H×List MemPlace}
 (h:∃ fuel,DataW.trod enc Tryz.prog W base (fun _=>true) held fuel 66 (Value.slice a len cap).cells.toList=some x):∃ f:Nat→DoW,len≤9223372036854775807∧xW W a len 5 (fun i=>doE (f i)):=by
 obtain⟨fuel,hf⟩:=h
 rcases Go.Deep.open_slice underlying66 hf with ⟨hcs,_⟩ | ⟨y,l,c,m,n,D,Pl,hcs,_,hl,hm,hmm,_,hx⟩
 ·simp[Value.cells] at hcs
  obtain⟨rfl,rfl,rfl⟩:=hcs
  exact⟨fun _=>default,by omega,⟨fun i hi=>by omega⟩⟩
 ·simp[Value.cells] at hcs
  obtain⟨rfl,rfl,rfl⟩:=hcs
  unfold maxLen at hm
  simp only[if_true] at hmm
  have hc2:Tryz.prog.cellsOf 68=5:=by kernel_rfl
  have each:∀ i,i<len→∃ p:DoW,∀ j,j<5→W.cell? ((y.add (i*5)).add j)=(doE p)[j]? :=fun i hi=>by
   obtain⟨cs,h1,h2⟩:=hx i (by omega)
   rw[hc2] at h1
   obtain⟨xs,n,_,_,hlen,hl2,hf⟩:=DataW.trod_struct underlying68 h2
   rw[hc2] at hlen
   match xs,hl2 with
   | [y0,y1,y2,y3,y4],_=>
   match cs,hlen with
   | [u0,u1,u2,u3,u4],_=>
     obtain⟨p0,e0,_,w0⟩:=DataW.trod_int underlying5 (by simpa using hf 0 _ rfl)
     obtain⟨p1,e1,_,w1⟩:=DataW.trod_int underlying5 (by simpa using hf 1 _ rfl)
     obtain⟨p2,e2,_,w2⟩:=DataW.trod_int underlying5 (by simpa using hf 2 _ rfl)
     obtain⟨p3,e3,_,w3⟩:=DataW.trod_int underlying5 (by simpa using hf 3 _ rfl)
     obtain⟨p4,e4,_,w4⟩:=DataW.trod_int underlying26 (by simpa using hf 4 _ rfl)
     have e0:[u0]=[Value.int .u8 p0]:=e0
     have e1:[u1]=[Value.int .u8 p1]:=e1
     have e2:[u2]=[Value.int .u8 p2]:=e2
     have e3:[u3]=[Value.int .u8 p3]:=e3
     have e4:[u4]=[Value.int .u64 p4]:=e4
     cases e0;cases e1;cases e2;cases e3;cases e4
     have b0:=bounds_u8 w0
     have b1:=bounds_u8 w1
     have b2:=bounds_u8 w2
     have b3:=bounds_u8 w3
     have b4:=xD w4
     have hs:=World.cells?_some h1
     refine⟨⟨p0,p1,p2,p3,p4,by omega,by omega,by omega,by omega,b4⟩,fun j hj=> ?_⟩
     match j,hj with
     | 0,_=>exact hs.2.2 0 (by decide)
     | 1,_=>exact hs.2.2 1 (by decide)
     | 2,_=>exact hs.2.2 2 (by decide)
     | 3,_=>exact hs.2.2 3 (by decide)
     | 4,_=>exact hs.2.2 4 (by decide)
  obtain⟨b,o,s⟩:=y
  by_cases h0:len=0
  ·exact⟨fun _=>default,by omega,⟨fun i hi=>by omega⟩⟩
  have hs:s=none:=by
   obtain⟨p,h1⟩:=each 0 (by omega)
   have h1:=h1 0 (by decide)
   have e0:((⟨b,o,s⟩:Addr).add (0*5)).add 0=⟨b,o,s⟩:=rfl
   rw[e0] at h1
   unfold World.cell? at h1
   split at h1
   ·cases s with
    | none=>rfl
    | some q=>simp at h1
   ·cases h1
  subst hs
  refine⟨fun i=>if hi:i<len then (each i hi).choose else default,by omega,⟨fun i hi=>⟨b,o,rfl,rfl,fun j hj=> ?_⟩⟩⟩
  have h1:=(each i hi).choose_spec j hj
  simp only[dif_pos hi]
  have h2:=((congrArg (fun a:Addr=>W.cell? (a.add j)) (jw b o (i*5))).trans (congrArg W.cell? (jw b (o+i*5) j))).symm.trans h1
  rw[Nat.add_assoc] at h2
  exact h2
end Go.Proofs.YtlcibdhmgclfjaaGreat
