/- Part of a law's texts. Conditions: none. -/
import Derived.Test.YtipdhkmphngmoaaGreatDoorQL19Fc
import Derived.Lib.FieldsP
import Derived.Lib.SplitLaws
import Derived.Lib.Replace
import Derived.Lib.Repeat
import Derived.Lib.ItoaNum
import Derived.Lib.ParseIntB
import Derived.Lib.IndexBytes
set_option linter.all false
namespace Go.Proofs.YtipdhkmphngmoaaGreatDoor
open Go
def xK(c:UInt8):Bool:=c==32||c==9
def spl(c:UInt8):List UInt8→List (List UInt8)
 | []=>[[]]
 | x::t=>if x=c then []::spl c t else match spl c t with
   | a::r=>(x::a)::r
   | []=>[[x]]
def tok:List UInt8→Option (List UInt8)→List (List UInt8)
 | [],none=>[]
 | [],some c=>[c]
 | x::t,st=>if xK x=true then (match st with
   | some c=>c::tok t none
   | none=>tok t none) else tok t (some (st.getD []++[x]))
def ee(l:List UInt8):List UInt8:=l.takeWhile fun x=>x !=35
theorem yC(c:UInt8):∀ l,spl c l≠[]
 | []=>by simp[spl]
 | x::t=>by
   unfold spl
   split
   ·simp
   ·split<;>simp
def pB(n:Nat):Bool:=n==32||n==9
theorem vQ(x:UInt8):pB x.toNat=xK x:=by
 unfold pB xK
 have h1:(x.toNat==32)=(x==32):=by
  rw[Bool.eq_iff_iff];simp[←UInt8.toNat_inj]
 have h2:(x.toNat==9)=(x==9):=by
  rw[Bool.eq_iff_iff];simp[←UInt8.toNat_inj]
 rw[h1,h2]
def bat(l:List UInt8)(i:Nat):UInt8:=l.getD i 0
theorem Br(l:List UInt8)(i:Nat):(⟨l.toArray⟩:ByteArray).get! i=bat l i:=by
 unfold ByteArray.get! bat
 simp[List.getD,getElem!_def]
 cases l[i]?<;>rfl
theorem C7(l:List UInt8)(pos:Nat):
 ((bat l pos).toNat<128→Utf8.decode ⟨l.toArray⟩ pos=((bat l pos).toNat,1))∧
 (128≤(bat l pos).toNat→128≤(Utf8.decode ⟨l.toArray⟩ pos).1∧1≤(Utf8.decode ⟨l.toArray⟩ pos).2∧∀ k,0<k→k<(Utf8.decode ⟨l.toArray⟩ pos).2→pos+k<l.length∧128≤(bat l (pos+k)).toNat):=by
 unfold Utf8.decode
 simp only[Br,Nat.add_zero]
 have hs:(⟨l.toArray⟩:ByteArray).size=l.length:=by simp[ByteArray.size]
 rw[hs]
 refine⟨fun h=>if_pos h,fun h=> ?_⟩
 rw[if_neg (show ¬ (bat l pos).toNat<128 by omega)]
 have re:128≤(Utf8.runeError,1).1∧1≤(Utf8.runeError,1).2∧∀ k,0<k→k<(Utf8.runeError,1).2→pos+k<l.length∧128≤(bat l (pos+k)).toNat:=⟨by decide,by decide,fun k h1 h2=>by simp only at h2;omega⟩
 split
 ·rename_i h1
  simp only[Bool.and_eq_true,decide_eq_true_eq,beq_iff_eq] at h1
  split
  ·refine⟨by assumption,by omega,fun k hk1 hk2=> ?_⟩
   obtain rfl:k=1:=by simp only at hk2;omega
   exact⟨h1.2.1,by omega⟩
  ·exact re
 ·split
  ·rename_i h1
   simp only[Bool.and_eq_true,decide_eq_true_eq,beq_iff_eq] at h1
   split
   ·rename_i h2
    simp only[Bool.and_eq_true,decide_eq_true_eq] at h2
    refine⟨by omega,by omega,fun k hk1 hk2=> ?_⟩
    simp only at hk2
    obtain rfl | rfl:k=1∨k=2:=by omega
    ·exact⟨h1.1.2.1,by omega⟩
    ·exact⟨h1.2.1,by omega⟩
   ·exact re
  ·split
   ·rename_i h1
    simp only[Bool.and_eq_true,decide_eq_true_eq,beq_iff_eq] at h1
    split
    ·rename_i h2
     simp only[Bool.and_eq_true,decide_eq_true_eq] at h2
     refine⟨by omega,by omega,fun k hk1 hk2=> ?_⟩
     simp only at hk2
     obtain rfl | rfl | rfl:k=1∨k=2∨k=3:=by omega
     ·exact⟨h1.1.1.2.1,by omega⟩
     ·exact⟨h1.1.2.1,by omega⟩
     ·exact⟨h1.2.1,by omega⟩
    ·exact re
   ·exact re
def spB(l:List UInt8):Nat→Nat→Option Nat→List (Nat×Nat)→List (Nat×Nat)×Option Nat
 | 0,_,st,acc=>(acc,st)
 | f+1,pos,st,acc=>if xK (bat l pos)=true then spB l f (pos+1) none (acc++(st.map fun a=>(a,pos)).toList) else spB l f (pos+1) (some (st.getD pos)) acc
theorem so(l:List UInt8){a:Nat}{acc:List (Nat×Nat)}:∀ (k f pos:Nat),(∀ j,j<k→xK (bat l (pos+j))=false)→k≤f→spB l f pos (some a) acc=spB l (f - k) (pos+k) (some a) acc
 | 0,f,pos,_,_=>rfl
 | k+1,0,pos,_,h=>by omega
 | k+1,f+1,pos,h,hf=>by
   rw[spB,if_neg (by have:=h 0 (by omega);simpa using this)]
   simp only[Option.getD_some]
   rw[so l k f (pos+1) (fun j hj=>by have:=h (j+1) (by omega);rwa [show pos+1+j=pos+(j+1) by omega]) (by omega),show f - k=f+1 - (k+1) by omega,show pos+1+k=pos+(k+1) by omega]
theorem Av{x:UInt8}(h:128≤x.toNat):xK x=false:=by
 rw[←vQ];unfold pB;simp;omega
theorem jv(l:List UInt8):∀ (f pos:Nat) (st:Option Nat) (acc:List (Nat×Nat)),l.length≤pos+f→Lib.spansFromP pB ⟨l.toArray⟩ f pos st acc=spB l (l.length - pos) pos st acc
 | 0,pos,st,acc,h=>by
   rw[show l.length - pos=0 by omega];rfl
 | f+1,pos,st,acc,h=>by
   have hs:(⟨l.toArray⟩:ByteArray).size=l.length:=by simp[ByteArray.size]
   unfold Lib.spansFromP
   rw[hs]
   by_cases hp:pos<l.length
   ·rw[if_pos hp]
    obtain⟨d1,d2⟩:=C7 l pos
    obtain⟨n,hn⟩:∃ n,l.length - pos=n+1:=⟨l.length - pos - 1,by omega⟩
    rcases Nat.lt_or_ge (bat l pos).toNat 128 with hb | hb
    ·rw[d1 hb]
     simp only[vQ]
     rw[hn,spB]
     have hn':n=l.length - (pos+1):=by omega
     split
     ·cases st with
      | some a=>simp only;rw[jv l f (pos+1) none _ (by omega),hn'];rfl
      | none=>simp only;rw[jv l f (pos+1) none _ (by omega),hn'];simp
     ·cases st with
      | some a=>simp only[Option.getD_some];rw[jv l f (pos+1) _ _ (by omega),hn']
      | none=>simp only[Option.getD_none];rw[jv l f (pos+1) _ _ (by omega),hn']
    ·obtain⟨e1,e2,e3⟩:=d2 hb
     generalize Utf8.decode ⟨l.toArray⟩ pos=q at e1 e2 e3 ⊢
     obtain⟨r,k⟩:=q
     simp only at e1 e2 e3 ⊢
     have hpb:pB r=false:=by unfold pB;simp;omega
     have hk:pos+k≤l.length:=by
      rcases Nat.lt_or_ge 1 k with h1 | h1
      ·have:=(e3 (k - 1) (by omega) (by omega)).1;omega
      ·omega
     have key:∀ a,spB l (l.length - (pos+1)) (pos+1) (some a) acc=spB l (l.length - (pos+k)) (pos+k) (some a) acc:=fun a=>by
      rw[so l (k - 1) _ (pos+1) (fun j hj=>Av (by have:=(e3 (j+1) (by omega) (by omega)).2;rwa [show pos+1+j=pos+(j+1) by omega])) (by omega)]
      rw[show l.length - (pos+1) - (k - 1)=l.length - (pos+k) by omega,show pos+1+(k - 1)=pos+k by omega]
     rw[hpb,hn,spB]
     simp only[Av hb,Bool.false_eq_true,if_false]
     rw[show n=l.length - (pos+1) by omega,key]
     cases st with
     | some a=>simp only[Option.getD_some];rw[jv l f (pos+k) _ _ (by omega)]
     | none=>simp only[Option.getD_none];rw[jv l f (pos+k) _ _ (by omega)]
   ·rw[if_neg hp,show l.length - pos=0 by omega];rfl
def nn(l:List UInt8)(x:Nat×Nat):List UInt8:=(l.take x.2).drop x.1
theorem oM{l:List UInt8}{a pos:Nat}(h:pos<l.length)(ha:a≤pos):nn l (a,pos)++[bat l pos]=nn l (a,pos+1):=by
 unfold nn bat
 simp only
 rw[List.take_succ_eq_append_getElem h,List.drop_append_of_le_length (by rw[List.length_take];omega)]
 simp[List.getD,h]
def pF(l:List UInt8)(x:List (Nat×Nat)×Option Nat):List (Nat×Nat):=match x.2 with
 | some a=>x.1++[(a,l.length)]
 | none=>x.1
theorem nM(l:List UInt8):∀ (f pos:Nat) (st:Option Nat) (acc:List (Nat×Nat)),f=l.length - pos→pos≤l.length→(∀ a,st=some a→a≤pos)→
 (pF l (spB l f pos st acc)).map (nn l)=acc.map (nn l)++tok (l.drop pos) (st.map fun a=>nn l (a,pos))
 | 0,pos,st,acc,hf,hp,hst=>by
   obtain rfl:pos=l.length:=by omega
   rw[List.drop_length]
   cases st with
   | some a=>simp[spB,pF,tok]
   | none=>simp[spB,pF,tok]
 | f+1,pos,st,acc,hf,hp,hst=>by
   have hlt:pos<l.length:=by omega
   have hb:bat l pos=l[pos]:=by simp[bat,List.getD,hlt]
   rw[List.drop_eq_getElem_cons hlt, ←hb]
   rw[spB]
   unfold tok
   split
   ·cases st with
    | some a=>
      rw[nM l f (pos+1) none _ (by omega) (by omega) (fun _ h=>by cases h)]
      simp
    | none=>
      rw[nM l f (pos+1) none _ (by omega) (by omega) (fun _ h=>by cases h)]
      simp
   ·rw[nM l f (pos+1) _ _ (by omega) (by omega) (fun a h=>by
     cases h
     cases st with
     | some a=>have:=hst a rfl;simp;omega
     | none=>simp)]
    congr 1
    cases st with
    | some a=>
      have:=hst a rfl
      simp only[Option.getD_some,Option.map_some]
      rw[oM hlt this]
    | none=>
      simp only[Option.getD_none,Option.map_some,Option.map_none]
      rw[←oM hlt (Nat.le_refl _)]
      congr 1
      simp[nn]
theorem pv(l:List UInt8):Lib.goFieldsP pB ⟨l.toArray⟩=(tok l none).map fun t=>⟨t.toArray⟩:=by
 have hs:(⟨l.toArray⟩:ByteArray).size=l.length:=by simp[ByteArray.size]
 unfold Lib.goFieldsP Lib.spansOfP
 rw[hs,jv l _ _ _ _ (by omega)]
 have h:=nM l l.length 0 none [] rfl (Nat.zero_le _) (fun _ h=>by cases h)
 simp only[List.drop_zero,Option.map_none,List.map_nil,List.nil_append] at h
 rw[←h,List.map_map]
 have e:Lib.closeSpans ⟨l.toArray⟩ (spB l (l.length - 0) 0 none [])=pF l (spB l l.length 0 none []):=by
  unfold Lib.closeSpans pF
  rw[hs];rfl
 rw[e]
 apply List.map_congr_left
 intro x _
 apply ByteArray.ext
 simp only[Function.comp,nn,ByteArray.data_extract,List.extract_toArray,List.extract_eq_take_drop,Array.mk.injEq]
 rw[List.take_drop]
 rcases Nat.le_total x.1 x.2 with h | h
 ·rw[show x.1+(x.2 - x.1)=x.2 by omega]
 ·rw[List.drop_eq_nil_of_le (by rw[List.length_take];omega),List.drop_eq_nil_of_le (by rw[List.length_take];omega)]
theorem pc{c:UInt8}:∀ {l:List UInt8},Lib.indexByte l c= -1→∀ x∈l,x≠c
 | [],_,_,h=>by cases h
 | b::l,h,x,hx=>by
   have hg:=Lib.indexByte_ge l c
   unfold Lib.indexByte at h
   split at h
   ·omega
   ·rename_i hb
    have hb':b≠c:=by simpa using hb
    split at h
    ·rename_i h2
     rcases List.mem_cons.1 hx with rfl | hx
     ·exact hb'
     ·exact pc (by simpa using h2) x hx
    ·omega
theorem lZ{c:UInt8}:∀ {l:List UInt8} {i:Nat},Lib.indexByte l c=i→l[i]? =some c∧∀ x∈l.take i,x≠c
 | [],i,h=>by unfold Lib.indexByte at h;omega
 | b::l,i,h=>by
   have hg:=Lib.indexByte_ge l c
   unfold Lib.indexByte at h
   split at h
   ·rename_i hb
    obtain rfl:i=0:=by omega
    have:b=c:=by simpa using hb
    subst this
    simp
   ·rename_i hb
    have hb':b≠c:=by simpa using hb
    split at h
    ·omega
    ·rename_i h2
     have h3:¬ Lib.indexByte l c= -1:=by simpa using h2
     obtain⟨j,rfl⟩:∃ j,i=j+1:=⟨i - 1,by omega⟩
     obtain⟨h4,h5⟩:=lZ (l:=l) (c:=c) (i:=j) (by omega)
     refine⟨by simpa using h4,fun x hx=> ?_⟩
     rw[List.take_succ_cons] at hx
     rcases List.mem_cons.1 hx with rfl | hx
     ·exact hb'
     ·exact h5 x hx
theorem qC(l:List UInt8)(c:UInt8):Lib.indexByte l c= -1∨∃ i:Nat,Lib.indexByte l c=i∧i<l.length:=by
 have h:=Lib.indexByte_ge l c
 rcases Int.lt_or_le (Lib.indexByte l c) 0 with h1 | h1
 ·exact .inl (by omega)
 ·obtain⟨i,hi⟩:=Int.eq_ofNat_of_zero_le h1
  exact .inr ⟨i,hi,(List.getElem?_eq_some_iff.1 (lZ hi).1).1⟩
theorem ri{c:UInt8}:∀ (a b:List UInt8),(∀ x∈a,x≠c)→spl c (a++b)=(match spl c b with
 | p::r=>(a++p)::r
 | []=>[])
 | [],b,_=>by
   have:=yC c b
   cases e:spl c b with
   | nil=>exact absurd e this
   | cons p r=>simp[e]
 | x::a,b,h=>by
   have hx:x≠c:=h x (List.mem_cons_self ..)
   have ih:=ri a b (fun y hy=>h y (List.mem_cons_of_mem _ hy))
   simp only[List.cons_append,spl]
   rw[if_neg hx,ih]
   have:=yC c b
   cases e:spl c b with
   | nil=>exact absurd e this
   | cons p r=>rfl
theorem AO{c:UInt8}{l:List UInt8}(h:∀ x∈l,x≠c):spl c l=[l]:=by
 have:=ri l [] h
 rw[List.append_nil] at this
 rw[this];simp[spl]
theorem sn{c:UInt8}{l:List UInt8}(h:Lib.indexByte l c= -1):spl c l=[l]:=AO (pc h)
theorem sm{c:UInt8}{l:List UInt8}{i:Nat}(h:Lib.indexByte l c=i):spl c l=l.take i::spl c (l.drop (i+1)):=by
 obtain⟨h1,h2⟩:=lZ h
 obtain⟨hi,hc⟩:=List.getElem?_eq_some_iff.1 h1
 conv=>lhs;rw[←List.take_append_drop i l,List.drop_eq_getElem_cons hi,hc]
 rw[ri _ _ h2]
 simp[spl]
theorem Am{l:List UInt8}(h:Lib.indexByte l 35= -1):ee l=l:=by
 unfold ee
 have:=List.takeWhile_append_of_pos (p:=fun x:UInt8=>x !=35) (l₁ :=l) (l₂ :=[]) (fun x hx=>by simpa using pc h x hx)
 simpa using this
theorem Al{l:List UInt8}{i:Nat}(h:Lib.indexByte l 35=i):l.take i=ee l:=by
 obtain⟨h1,h2⟩:=lZ h
 obtain⟨hi,hc⟩:=List.getElem?_eq_some_iff.1 h1
 unfold ee
 conv=>rhs;rw[←List.take_append_drop i l,List.drop_eq_getElem_cons hi,hc]
 rw[List.takeWhile_append_of_pos (fun x hx=>by simpa using h2 x hx)]
 simp
section
variable {P:Program} {ops:Array Oper} {md:Region.Mode} {ro:Cx}
def wpQ(P:Program)(ro:Cx)(ops:Array Oper)(ms hs cs:List Nat)(C:World→Prop)(Q:Exit→Act→World→Prop)(K:Act→World→Prop):List Nat→Act→World→Prop
 | []=>K
 | k::ord=>bif ms.contains k then fun a w=>wpOpIn (Wd ro) 0 P ops Q k (fun a w=>(cs.contains k=true→C w)∧wpQ P ro ops ms hs cs C Q K ord a w) a w
   else bif hs.contains k then fun a w=>C w∧∃ oi v,ops[k]? =some oi∧YV P ops C oi v a∧wpQ P ro ops ms hs cs C Q K ord (a.put oi.dst v) w
   else fun a w=>∃ oi v,ops[k]? =some oi∧YV P ops (·=w) oi v a∧wpQ P ro ops ms hs cs C Q K ord (a.put oi.dst v) w
def oI(E:Array Bool→Bool)(md:Region.Mode)(ops:Array Oper)(ms hs cs:List Nat):List Nat→Array Bool→Bool
 | [],listed=>E listed
 | k::ord,listed=>(Region.ready md ops listed).contains k&&(bif ms.contains k then decide (Region.ready md ops listed=[k]) else Region.free md ops listed k&&wU md ops (ms.filter fun m=> !listed.getD m false&& !(hs.contains k&&cs.contains m)) k)&&oI E md ops ms hs cs ord (listed.setIfInBounds k true)
theorem ll{K K1:Act→World→Prop}{X:Ext}{k:Nat}{L:Act→World→Prop}{a:Act}{w:World}(h:wpOpIn (Wd ro) 0 P ops (toQ K1 X) k L a w):wpOpIn (Wd ro) 0 P ops (toQ K X) k L a w:=by
 unfold wpOpIn at h ⊢
 split
 ·rename_i e;simp only[e] at h;exact h
 ·rename_i o e
  simp only[e] at h
  split
  ·rename_i hw
   rw[if_pos hw] at h
   refine⟨h.1,?_⟩
   have h3:=h.2
   unfold Oper.uponIn at h3 ⊢
   generalize (o.semAt (Wd ro).round a.eval).run P w=r at h3 ⊢
   cases r with
   | ok n w'=>
     cases n<;>first | exact h3 | (obtain⟨q1,q2⟩:=h3;exact⟨q1,q2.mono fun e w'' he=>by cases e<;>exact he⟩)
   | halt x w'=>cases x<;>exact h3
  ·rename_i hw;rw[if_neg hw] at h;exact h
theorem n8{ms hs cs:List Nat}{C:World→Prop}{X:Ext}{K K1:Act→World→Prop}:∀ (ord:List Nat) (a:Act) (w:World),wpV P ro ops ms hs cs C X K1 ord a w→wpQ P ro ops ms hs cs C (toQ K X) K1 ord a w
 | [],_,_,h=>h
 | k::ord,a,w,h=>by
   simp only[wpV,wpQ] at h ⊢
   cases hm:ms.contains k with
   | true=>
     rw[hm] at h
     simp only[cond_true] at h ⊢
     exact wpOpIn_mono (fun a w ⟨g1,g2⟩=>⟨g1,n8 ord a w g2⟩) (ll h)
   | false=>
     rw[hm] at h
     simp only[cond_false] at h ⊢
     cases hh:hs.contains k with
     | true=>
       rw[hh] at h
       simp only[cond_true] at h ⊢
       obtain⟨hC,oi,v,h1,h2,h3⟩:=h
       exact⟨hC,oi,v,h1,h2,n8 ord _ w h3⟩
     | false=>
       rw[hh] at h
       simp only[cond_false] at h ⊢
       obtain⟨oi,v,h1,h2,h3⟩:=h
       exact⟨oi,v,h1,h2,n8 ord _ w h3⟩
theorem jq{ms hs cs:List Nat}{C:World→Prop}{K K1:Act→World→Prop}{X:Ext}{E:Array Bool→Bool}{g:Nat}(hnd:gj ops=true)(hsel:Region.noSelect ops=true)(hlow:xE md ops=true)(hX:∀ c a w d v,X.pan c (a.put d v) w→X.pan c a w)
 (hK:∀ listed a w,fG md ops listed→E listed=true→K1 a w→gU P ro md ops (fun i=>ms.contains i) (fun i=>cs.contains i) C (toQ K X) g listed a w):∀ (ord:List Nat) (listed:Array Bool) (a:Act) (w:World),fG md ops listed→oI E md ops ms hs cs ord listed=true→wpQ P ro ops ms hs cs C (toQ K X) K1 ord a w→
 gU P ro md ops (fun i=>ms.contains i) (fun i=>cs.contains i) C (toQ K X) (ord.length+g) listed a w
 | [],listed,a,w,inv,hp,h=>by rw[List.length_nil,Nat.zero_add];exact hK listed a w inv hp h
 | k::ord,listed,a,w,inv,hp,h=>by
   rw[List.length_cons,Nat.add_right_comm]
   simp only[oI,Bool.and_eq_true] at hp
   obtain⟨⟨hr,hc⟩,hp'⟩:=hp
   have hr':k∈Region.ready md ops listed:=by simpa using hr
   simp only[wpQ] at h
   cases hm:ms.contains k with
   | true=>
     rw[hm] at hc h
     simp only[cond_true,decide_eq_true_eq] at hc h
     refine⟨fun h0=>(by rw[h0] at hr';cases hr'),fun i hi=> ?_⟩
     rw[hc] at hi
     obtain rfl:i=k:=by simpa using hi
     exact⟨fun _=>wpOpIn_mono (fun a' w' ⟨g1,g2⟩=>⟨C,fun _ h=>h,g1,jq hnd hsel hlow hX hK ord _ a' w' (inv.set hr') hp' g2⟩) h,fun hf=>(by simp only[hm] at hf;cases hf)⟩
   | false=>
     rw[hm] at hc h
     simp only[cond_false,Bool.and_eq_true] at hc h
     obtain⟨hf,ha⟩:=hc
     have hno:∀ (Ci:World→Prop),(hs.contains k=true→Ci=C)→∀ listed',fG md ops listed'→(∀ t,listed.getD t false=true→listed'.getD t false=true)→listed'.getD k true=false→∀ j∈Region.ready md ops listed',ms.contains j=true→(∀ w,C w→Ci w)∧cs.contains j=true:=fun Ci hCi listed' inv' hb' hun' j hj hmj=>by
      by_cases hx:hs.contains k=true∧cs.contains j=true
      ·exact⟨fun w h=>(by rw[hCi hx.1];exact h),hx.2⟩
      ·exfalso
       cases hlj:listed.getD j false with
       | true=>
         have:=(mem_ready.1 hj).1
         have h5:=hb' j hlj
         rw[getD_both this] at h5;cases h5
       | false=>
         refine absurd hj (pM ha hlow inv' hun' (fun m hmm e=>by
          subst e
          rw[List.contains_iff_mem.2 (List.mem_filter.1 hmm).1] at hm;cases hm) j (List.mem_filter.2 ⟨List.contains_iff_mem.1 hmj,?_⟩))
         rw[hlj]
         simp only[Bool.not_false,Bool.true_and,Bool.not_eq_true']
         cases h1:hs.contains k with
         | false=>rfl
         | true=>
           cases h2:cs.contains j with
           | false=>rfl
           | true=>exact absurd ⟨h1,h2⟩ hx
     cases hh:hs.contains k with
     | true=>
       rw[hh] at h
       simp only[cond_true] at h
       obtain⟨hC,oi,v,h1,h2,h3⟩:=h
       exact hJ (Ci:=C) hnd hsel hX h1 hm listed (hno C fun _=>rfl) _ _ _ _ inv (fun _ h=>h) (Region.free_spec h1 hf) hr' hC h2 (jq hnd hsel hlow hX hK ord _ _ _ (inv.set hr') hp' h3)
     | false=>
       rw[hh] at h
       simp only[cond_false] at h
       obtain⟨oi,v,h1,h2,h3⟩:=h
       exact hJ (Ci:=(·=w)) hnd hsel hX h1 hm listed (hno _ fun h=>(by rw[hh] at h;cases h)) _ _ _ _ inv (fun _ h=>h) (Region.free_spec h1 hf) hr' aa h2 (jq hnd hsel hlow hX hK ord _ _ _ (inv.set hr') hp' h3)
inductive VT where
 | fin (ord:List Nat)
 | br (ord:List Nat) (k1:Nat) (t1:VT) (k2:Nat) (t2:VT)
 | br1 (ord:List Nat) (k1:Nat) (t1:VT)
 | br3 (ord:List Nat) (k1:Nat) (t1:VT) (k2:Nat) (t2:VT) (k3:Nat) (t3:VT)
def VT.size:VT→Nat
 | .fin ord=>ord.length
 | .br ord _ t1 _ _=>ord.length+(t1.size+1)
 | .br1 ord _ t1=>ord.length+(t1.size+1)
 | .br3 ord _ t1 _ _ _ _=>ord.length+(t1.size+1)
def kb(md:Region.Mode)(ops:Array Oper)(ms hs cs:List Nat):VT→Array Bool→Bool
 | .fin ord,listed=>oI (fun l=>(Region.ready md ops l).isEmpty) md ops ms hs cs ord listed
 | .br ord k1 t1 k2 t2,listed=>Nat.beq t1.size t2.size&&ms.contains k1&&ms.contains k2&&oI (fun l=>decide (Region.ready md ops l=[k1,k2])&&kb md ops ms hs cs t1 (l.setIfInBounds k1 true)&&kb md ops ms hs cs t2 (l.setIfInBounds k2 true)) md ops ms hs cs ord listed
 | .br1 ord k1 t1,listed=>ms.contains k1&&oI (fun l=>decide (Region.ready md ops l=[k1])&&kb md ops ms hs cs t1 (l.setIfInBounds k1 true)) md ops ms hs cs ord listed
 | .br3 ord k1 t1 k2 t2 k3 t3,listed=>Nat.beq t1.size t2.size&&Nat.beq t1.size t3.size&&ms.contains k1&&ms.contains k2&&ms.contains k3&&oI (fun l=>decide (Region.ready md ops l=[k1,k2,k3])&&kb md ops ms hs cs t1 (l.setIfInBounds k1 true)&&kb md ops ms hs cs t2 (l.setIfInBounds k2 true)&&kb md ops ms hs cs t3 (l.setIfInBounds k3 true)) md ops ms hs cs ord listed
def wpT(P:Program)(ro:Cx)(ops:Array Oper)(ms hs cs:List Nat)(C:World→Prop)(X:Ext)(K:Act→World→Prop):VT→Act→World→Prop
 | .fin ord=>wpV P ro ops ms hs cs C X K ord
 | .br ord k1 t1 k2 t2=>wpV P ro ops ms hs cs C X (fun a w=>wpOpIn (Wd ro) 0 P ops (toQ K X) k1 (fun a w=>∃ C':World→Prop,(∀ w,C' w→C w)∧(cs.contains k1=true→C' w)∧wpT P ro ops ms hs cs C' X K t1 a w) a w∧wpOpIn (Wd ro) 0 P ops (toQ K X) k2 (fun a w=>∃ C':World→Prop,(∀ w,C' w→C w)∧(cs.contains k2=true→C' w)∧wpT P ro ops ms hs cs C' X K t2 a w) a w) ord
 | .br1 ord k1 t1=>wpV P ro ops ms hs cs C X (fun a w=>wpOpIn (Wd ro) 0 P ops (toQ K X) k1 (fun a w=>∃ C':World→Prop,(∀ w,C' w→C w)∧(cs.contains k1=true→C' w)∧wpT P ro ops ms hs cs C' X K t1 a w) a w) ord
 | .br3 ord k1 t1 k2 t2 k3 t3=>wpV P ro ops ms hs cs C X (fun a w=>wpOpIn (Wd ro) 0 P ops (toQ K X) k1 (fun a w=>∃ C':World→Prop,(∀ w,C' w→C w)∧(cs.contains k1=true→C' w)∧wpT P ro ops ms hs cs C' X K t1 a w) a w∧wpOpIn (Wd ro) 0 P ops (toQ K X) k2 (fun a w=>∃ C':World→Prop,(∀ w,C' w→C w)∧(cs.contains k2=true→C' w)∧wpT P ro ops ms hs cs C' X K t2 a w) a w∧wpOpIn (Wd ro) 0 P ops (toQ K X) k3 (fun a w=>∃ C':World→Prop,(∀ w,C' w→C w)∧(cs.contains k3=true→C' w)∧wpT P ro ops ms hs cs C' X K t3 a w) a w) ord
theorem jp{ms hs cs:List Nat}{C:World→Prop}{K:Act→World→Prop}{X:Ext}(hnd:gj ops=true)(hsel:Region.noSelect ops=true)(hlow:xE md ops=true)(hX:∀ c a w d v,X.pan c (a.put d v) w→X.pan c a w):∀ (t:VT) (listed:Array Bool) (a:Act) (w:World),fG md ops listed→kb md ops ms hs cs t listed=true→wpT P ro ops ms hs cs C X K t a w→
 gU P ro md ops (fun i=>ms.contains i) (fun i=>cs.contains i) C (toQ K X) t.size listed a w
 | .fin ord,listed,a,w,inv,hp,h=>jq (g:=0) hnd hsel hlow hX (fun l a w _ he hk=>⟨by simpa using he,hk⟩) ord listed a w inv hp (n8 ord a w h)
 | .br ord k1 t1 k2 t2,listed,a,w,inv,hp,h=>by
   simp only[kb,Bool.and_eq_true] at hp
   obtain⟨⟨⟨hsz,hm1⟩,hm2⟩,hp⟩:=hp
   have hsz:=Nat.eq_of_beq_eq_true hsz
   refine jq (g:=t1.size+1) hnd hsel hlow hX (fun l a w inv' he hk=> ?_) ord listed a w inv hp (n8 ord a w h)
   simp only[Bool.and_eq_true,decide_eq_true_eq] at he
   obtain⟨⟨hr,hp1⟩,hp2⟩:=he
   refine⟨fun h0=>(by rw[h0] at hr;cases hr),fun i hi=> ?_⟩
   have hi0:=hi
   rw[hr] at hi
   simp only[List.mem_cons,List.not_mem_nil,or_false] at hi
   rcases hi with rfl | rfl
   ·exact⟨fun _=>wpOpIn_mono (fun a' w' ⟨C',g0,g1,g2⟩=>⟨C',g0,g1,jp hnd hsel hlow hX t1 _ a' w' (inv'.set hi0) hp1 g2⟩) hk.1,fun hf=>(by simp only[hm1] at hf;cases hf)⟩
   ·exact⟨fun _=>wpOpIn_mono (fun a' w' ⟨C',g0,g1,g2⟩=>⟨C',g0,g1,by rw[hsz];exact jp hnd hsel hlow hX t2 _ a' w' (inv'.set hi0) hp2 g2⟩) hk.2,fun hf=>(by simp only[hm2] at hf;cases hf)⟩
 | .br1 ord k1 t1,listed,a,w,inv,hp,h=>by
   simp only[kb,Bool.and_eq_true] at hp
   obtain⟨hm1,hp⟩:=hp
   refine jq (g:=t1.size+1) hnd hsel hlow hX (fun l a w inv' he hk=> ?_) ord listed a w inv hp (n8 ord a w h)
   simp only[Bool.and_eq_true,decide_eq_true_eq] at he
   obtain⟨hr,hp1⟩:=he
   refine⟨fun h0=>(by rw[h0] at hr;cases hr),fun i hi=> ?_⟩
   have hi0:=hi
   rw[hr] at hi
   simp only[List.mem_cons,List.not_mem_nil,or_false] at hi
   subst hi
   exact⟨fun _=>wpOpIn_mono (fun a' w' ⟨C',g0,g1,g2⟩=>⟨C',g0,g1,jp hnd hsel hlow hX t1 _ a' w' (inv'.set hi0) hp1 g2⟩) hk,fun hf=>(by simp only[hm1] at hf;cases hf)⟩
 | .br3 ord k1 t1 k2 t2 k3 t3,listed,a,w,inv,hp,h=>by
   simp only[kb,Bool.and_eq_true] at hp
   obtain⟨⟨⟨⟨⟨hsz,hsz3⟩,hm1⟩,hm2⟩,hm3⟩,hp⟩:=hp
   have hsz:=Nat.eq_of_beq_eq_true hsz
   have hsz3:=Nat.eq_of_beq_eq_true hsz3
   refine jq (g:=t1.size+1) hnd hsel hlow hX (fun l a w inv' he hk=> ?_) ord listed a w inv hp (n8 ord a w h)
   simp only[Bool.and_eq_true,decide_eq_true_eq] at he
   obtain⟨⟨⟨hr,hp1⟩,hp2⟩,hp3⟩:=he
   refine⟨fun h0=>(by rw[h0] at hr;cases hr),fun i hi=> ?_⟩
   have hi0:=hi
   rw[hr] at hi
   simp only[List.mem_cons,List.not_mem_nil,or_false] at hi
   rcases hi with rfl | rfl | rfl
   ·exact⟨fun _=>wpOpIn_mono (fun a' w' ⟨C',g0,g1,g2⟩=>⟨C',g0,g1,jp hnd hsel hlow hX t1 _ a' w' (inv'.set hi0) hp1 g2⟩) hk.1,fun hf=>(by simp only[hm1] at hf;cases hf)⟩
   ·exact⟨fun _=>wpOpIn_mono (fun a' w' ⟨C',g0,g1,g2⟩=>⟨C',g0,g1,by rw[hsz];exact jp hnd hsel hlow hX t2 _ a' w' (inv'.set hi0) hp2 g2⟩) hk.2.1,fun hf=>(by simp only[hm2] at hf;cases hf)⟩
   ·exact⟨fun _=>wpOpIn_mono (fun a' w' ⟨C',g0,g1,g2⟩=>⟨C',g0,g1,by rw[hsz3];exact jp hnd hsel hlow hX t3 _ a' w' (inv'.set hi0) hp3 g2⟩) hk.2.2,fun hf=>(by simp only[hm3] at hf;cases hf)⟩
end
section
variable {B:World} {n:Nat} {D:List Deferred} {σ:Env} {H:List HP} {P:Program} {ro:Cx} {K:Act→World→Prop} {X:Ext} {ops:Array Oper} {ms hs cs:List Nat} {C:World→Prop}
theorem kV{id:Nat}{l:List Oper}(t:VT)(ms hs cs:List Nat)(H0:List HP)(ks:List Nat){G:Type}(σx:G→Env)(Hx:G→List HP)(hm:P.follows .mixedOrders=true)[hX:rW X](hB:(gj l.toArray&&Region.noSelect l.toArray&&xE .any l.toArray&&Nat.beq t.size l.length&&kb .any l.toArray ms hs cs t (Array.replicate l.toArray.size false))=true)
 (h:GO B n D σ H (wpT P ro l.toArray ms hs cs (Holds B H0) X (fun a w=>∃ g,St B n D (σx g++keep σ ks) (Hx g) a w) t))
 (k:∀ g,GO B n D (σx g++keep σ ks) (Hx g) K):GO B n D σ H (cw ro P (.region id l.toArray true) K X):=by
 intro a w s
 simp only[Bool.and_eq_true] at hB
 obtain⟨⟨⟨⟨hnd,hsel⟩,hlow⟩,hlen⟩,hp⟩:=hB
 have s':St B n D σ H a {w with drawn:=w.drawn+1}:=⟨s.toStA,s.holds.drew _⟩
 have:=(jp (ro:=ro) hnd hsel hlow hX.put t _ a _ ⟨by simp,fun j oj _ hl=>(by rw[getD_replicate_false] at hl;cases hl)⟩ hp (h a _ s')).any hnd
 rw[Nat.eq_of_beq_eq_true hlen] at this
 exact rM (kE <| wpIn_region_any hm (by simpa using this)) fun e a w q=>by
  cases e with
  | normal=>obtain⟨g,hg⟩:=q;exact k g a w hg
  | ret=>exact q
  | panic c=>exact q
  | exit i=>exact q
  | goto l=>exact q
  | outgrown=>exact q
theorem jV{ord:List Nat}(h:GO B n D σ H (wpV P ro ops ms hs cs C X K ord)):GO B n D σ H (wpT P ro ops ms hs cs C X K (.fin ord)):=h
theorem w9{ord:List Nat}{k1 k2:Nat}{t1 t2:VT}(h:GO B n D σ H (wpV P ro ops ms hs cs C X (fun a w=>wpOpIn (Wd ro) 0 P ops (toQ K X) k1 (fun a w=>∃ C':World→Prop,(∀ w,C' w→C w)∧(cs.contains k1=true→C' w)∧wpT P ro ops ms hs cs C' X K t1 a w) a w∧wpOpIn (Wd ro) 0 P ops (toQ K X) k2 (fun a w=>∃ C':World→Prop,(∀ w,C' w→C w)∧(cs.contains k2=true→C' w)∧wpT P ro ops ms hs cs C' X K t2 a w) a w) ord)):GO B n D σ H (wpT P ro ops ms hs cs C X K (.br ord k1 t1 k2 t2)):=h
theorem p8{K1 L1 L2:Act→World→Prop}{k1 k2:Nat}{o1 o2:Oper}(h1:ops[k1]? =some o1)(h2:ops[k2]? =some o2)(g1:GO B n D σ H (lw ro P ops L1 X [o1]))(g2:GO B n D σ H (lw ro P ops L2 X [o2])):GO B n D σ H (fun a w=>wpOpIn (Wd ro) 0 P ops (toQ K1 X) k1 L1 a w∧wpOpIn (Wd ro) 0 P ops (toQ K1 X) k2 L2 a w):=fun a w s=>by
 refine⟨ll (K1:=L1) ?_,ll (K1:=L2) ?_⟩
 ·have h:=g1 a w s
  unfold wpOpIn;simp only[h1];exact h
 ·have h:=g2 a w s
  unfold wpOpIn;simp only[h2];exact h
theorem se{c:Bool}{t:VT}(hc:c=false)(h:GO B n D σ H (wpT P ro ops ms hs cs C X K t)):GO B n D σ H (fun a w=>∃ C':World→Prop,(∀ w,C' w→C w)∧(c=true→C' w)∧wpT P ro ops ms hs cs C' X K t a w):=fun a w s=>⟨C,fun _ h=>h,fun hf=>(by rw[hc] at hf;cases hf),h a w s⟩
theorem ul{c:Bool}{t:VT}{H0:List HP}[s0:m7 H H0](h:GO B n D σ H (wpT P ro ops ms hs cs (Holds B H0) X K t)):GO B n D σ H (fun a w=>∃ C':World→Prop,(∀ w,C' w→Holds B H0 w)∧(c=true→C' w)∧wpT P ro ops ms hs cs C' X K t a w):=fun a w s=>⟨_,fun _ h=>h,fun _=>s.holds.map s0.sub,h a w s⟩
end
section
variable {B:World} {σ:Env} {H:List HP} {P:Program} {d:Option Tmp} {ty:TypeId} {p:String} {af:Array Edge} {g:Option (Nat×Bool)} {α:Type} {kk:IntKind} {enc:α→Value} {r:Nat} {l:List (Int×α)} {U:List (Int×α)→List HP}
theorem qy{key:Int}:∀ (l:List (Int×α)) (i j:Nat) (x:α),ea l key i=some (j,x)→i≤j∧lW l key=l.eraseIdx (j - i)
 | [],i,j,x,h=>by cases h
 | q::l,i,j,x,h=>by
   unfold ea at h
   split at h
   ·rename_i hk
    cases h
    refine⟨Nat.le_refl _,?_⟩
    unfold lW
    rw[if_pos hk,Nat.sub_self];rfl
   ·rename_i hk
    obtain⟨h1,h2⟩:=qy l (i+1) j x h
    refine⟨by omega,?_⟩
    unfold lW
    rw[if_neg hk,h2,show j - i=(j - (i+1))+1 by omega];rfl
theorem np{key:Int}:∀ (l:List (Int×α)) (i:Nat),ea l key i=none→lW l key=l
 | [],i,h=>rfl
 | q::l,i,h=>by
   unfold ea at h
   split at h
   ·cases h
   ·rename_i hk
    unfold lW
    rw[if_neg hk,np l (i+1) h]
theorem qz{β γ:Type}(f:β→γ):∀ (l:List β) (j:Nat),(l.map f).eraseIdx j=(l.eraseIdx j).map f
 | [],_=>rfl
 | _::_,0=>rfl
 | a::l,j+1=>by simp only[List.map_cons,List.eraseIdx_cons_succ,qz f l j]
theorem MW.erase{bn:Int→Nat}{clock:Nat}(m:MW bn l clock)(j:Nat):MW bn (l.eraseIdx j) clock:=by
 have hs:(l.eraseIdx j).Sublist l:=List.eraseIdx_sublist l j
 exact⟨(hs.map Prod.fst).nodup m.keys,fun p hp q hq=>m.inj p (hs.subset hp) q (hs.subset hq),fun p hp=>m.lt p (hs.subset hp)⟩
theorem q5{t k e:TypeId}{x y:Operand}{at_:Array TypeId}{key:Int}(ha:at_[0]? =some t)(ht:∀ w,(underlying t).run P w= .ok (.map k e) w)(hk:∀ w,(underlying k).run P w= .ok (.int kk) w)
 (hx:evO σ x=some (.map (some r))) (hy:evO σ y=some (.int kk key)) [m:jm H r kk enc l U]:
 Chg P B σ H ⟨d,.call ⟨.builtin .delete, #[x,y],at_⟩,ty,p,af,g⟩ (fun _ H'=>H'=U (lW l key)):=by
 intro a w kn hh
 obtain⟨bn,clock,ho,hm⟩:=m.obj hh
 have hf:=ic (kk:=kk) (enc:=enc) (bn:=bn) (q:=kk) key l 0
 have hkey:MapKept.IsKey (.int kk) (.int kk key):=rfl
 cases hc:ea l key 0 with
 | none=>
   rw[hc] at hf
   have e:=np l 0 hc
   refine⟨.value (.tuple #[]),{w with heap:=w.heap.setIfInBounds r (.map (bU kk enc bn (lW l key)).toArray clock)},?_,_,.inl aa,_,rfl,m.put hh (bn:=bn) (clock:=clock) (by rw[e];exact hm)⟩
   rw[e]
   simp[execOp,resolve,invoke,builtin,Builtin.delete_,ha,kn.eval hx,kn.eval hy,ht,MapKept.run_getObj_map ho,MapKept.run_checkKey (eE hk) hkey,MapKept.run_findKey (eE hk) hf,MapKept.run_setObj_map _ ho]
 | some v=>
   obtain⟨j,x'⟩:=v
   rw[hc] at hf
   obtain⟨_,h2⟩:=qy l 0 j x' hc
   rw[Nat.sub_zero] at h2
   refine⟨.value (.tuple #[]),{w with heap:=w.heap.setIfInBounds r (.map (bU kk enc bn (lW l key)).toArray clock)},?_,_,.inl aa,_,rfl,m.put hh (bn:=bn) (clock:=clock) (by rw[h2];exact hm.erase j)⟩
   have hj:(bU kk enc bn l).eraseIdx j=bU kk enc bn (lW l key):=by rw[h2];exact qz _ l j
   simp[execOp,resolve,invoke,builtin,Builtin.delete_,ha,kn.eval hx,kn.eval hy,ht,MapKept.run_getObj_map ho,MapKept.run_checkKey (eE hk) hkey,MapKept.run_findKey (eE hk) hf,MapKept.run_setObj_map _ ho,hj]
def DA{α:Type}(kk:IntKind)(enc:α→Value)(r:Nat)(l:List (Int×α))(key:Int)(stamp:Nat):HP:=fun h=>∃ bn clock,h r=some (.map (bU kk enc bn l).toArray clock)∧MW bn l clock∧key∈l.map Prod.fst∧bn key=stamp
def jH{α:Type}(l:List (Int×α))(key:Int)(u0:α):List (Int×α):=match ea l key 0 with
 | none=>l++[(key,u0)]
 | some _=>l
theorem iM{t k e:TypeId}{x y:Operand}{key:Int}{u0:α}{Fr:List HP}(ht:∀ w,(underlying t).run P w= .ok (.map k e) w)(hk:∀ w,(underlying k).run P w= .ok (.int kk) w)(hz:∀ w,(zeroValue e).run P w= .ok (enc u0) w)
 (hx:evO σ x=some (.map (some r))) (hy:evO σ y=some (.int kk key)):
 Chg P B σ (bB kk enc r l::Fr) ⟨d,.mapEntry t x y,ty,p,af,g⟩ (fun v H'=>∃ (z0:Value) (stamp:Nat),v= .tuple #[z0,.int .i64 stamp]∧H'=DA kk enc r (jH l key u0) key stamp::Fr):=by
 intro a w kn hh
 have m:jm (bB kk enc r l::Fr) r kk enc l (fun l'=>bB kk enc r l'::Fr):=jm.head
 obtain⟨bn,clock,ho,hm⟩:=m.obj hh
 have hf:=ic (kk:=kk) (enc:=enc) (bn:=bn) (q:=kk) key l 0
 have hkey:MapKept.IsKey (.int kk) (.int kk key):=rfl
 cases hc:ea l key 0 with
 | none=>
   rw[hc] at hf
   have hn:=gM hc
   have hme:jH l key u0=l++[(key,u0)]:=by unfold jH;rw[hc]
   refine⟨.value (.tuple #[enc u0,.int .i64 clock]),{w with heap:=w.heap.setIfInBounds r (.map (bU kk enc (fun x=>if x=key then clock else bn x) (jH l key u0)).toArray (clock+1))},?_,_,.inl aa,_,⟨_,clock,rfl,rfl⟩,?_⟩
   ·rw[hme, ←oZ hn]
    simp[execOp,kn.eval hx,kn.eval hy,Instr.mapEntry,ht,MapKept.run_getObj_map ho,MapKept.run_checkKey (eE hk) hkey,MapKept.run_findKey (eE hk) hf,MapKept.run_setObj_map _ ho,hz,goInt]
   ·refine iq hh 0 aa ho (fun k s ⟨bn1,c1,hk1,_⟩=> ?_) (fun k k' _ hk' _=>⟨_,_,hk',by rw[hme];exact hm.push hn,by rw[hme];simp,by simp⟩)
    rw[hk1, ←ho];exact(s _ _ hk1).symm
 | some v=>
   obtain⟨j,x'⟩:=v
   rw[hc] at hf
   obtain⟨_,q,h2,h3,h4⟩:=jF (kk:=kk) (enc:=enc) (bn:=bn) hc
   simp only[Nat.sub_zero] at h2 h4
   have hin:key∈l.map Prod.fst:=by rw[←h3];exact List.mem_map_of_mem (List.mem_of_getElem? h2)
   have hme:jH l key u0=l:=by unfold jH;rw[hc]
   have hj:(bU kk enc bn l)[j]? =some ⟨.int kk q.1,enc q.2,bn q.1⟩:=by simp[bU,h2]
   refine⟨.value (.tuple #[enc x',.int .i64 (bn key)]),{w with heap:=w.heap.setIfInBounds r (.map (bU kk enc bn (jH l key u0)).toArray clock)},?_,_,.inl aa,_,⟨_,bn key,rfl,rfl⟩,?_⟩
   ·rw[hme]
    have hid:(bU kk enc bn l).modify j (fun e=>{e with key:= .int kk key})=bU kk enc bn l:=by
     apply List.ext_getElem?
     intro i
     rw[List.getElem?_modify]
     by_cases hij:j=i
     ·subst hij
      rw[hj]
      simp[h3]
     ·simp[hij]
    simp[execOp,kn.eval hx,kn.eval hy,Instr.mapEntry,ht,MapKept.run_getObj_map ho,MapKept.run_checkKey (eE hk) hkey,MapKept.run_findKey (eE hk) hf,MapKept.run_setObj_map _ ho,hj,h3,MapKept.run_keyThatStays hkey,goInt,hid]
   ·refine iq hh 0 aa ho (fun k s ⟨bn1,c1,hk1,_⟩=> ?_) (fun k k' _ hk' _=>⟨_,_,hk',by rw[hme];exact hm,by rw[hme];exact hin,rfl⟩)
    rw[hk1, ←ho];exact(s _ _ hk1).symm
theorem gE{t:TypeId}{x y z:Operand}{key:Int}{stamp:Nat}{u:α}{v:Value}{Fr:List HP}
 (hx:evO σ x=some (.map (some r))) (hy:evO σ y=some (.int .i64 stamp)) (hz:evO σ z=some v) (hv:v=enc u):
 Chg P B σ (DA kk enc r l key stamp::Fr) ⟨d,.entryStore t x y z,ty,p,af,g⟩ (fun _ H'=>H'=bB kk enc r (mset l key u)::Fr):=by
 subst hv
 intro a w kn hh
 obtain⟨k0,s0,bn,clock,ho0,hm,hin,hst⟩:=hh.at 0 rfl
 have ho:=s0 _ _ ho0
 cases hc:ea l key 0 with
 | none=>
   obtain⟨q,hq,e⟩:=List.mem_map.1 hin
   exact absurd e (gM hc q hq)
 | some vv=>
   obtain⟨j,x'⟩:=vv
   obtain⟨_,q,h2,h3,h4⟩:=jF (kk:=kk) (enc:=enc) (bn:=bn) hc
   simp only[Nat.sub_zero] at h2 h4
   have hj:(bU kk enc bn l)[j]? =some ⟨.int kk q.1,enc q.2,bn q.1⟩:=by simp[bU,h2]
   have hjl:j<l.length:=(List.getElem?_eq_some_iff.1 h2).1
   have hfi:(bU kk enc bn l).findIdx? (fun e=>(e.born:Int)==(stamp:Int))=some j:=by
    rw[List.findIdx?_eq_some_iff_getElem]
    have hjm:j<(bU kk enc bn l).length:=by simpa [bU] using hjl
    refine⟨hjm,?_,fun i hi=> ?_⟩
    ·rw[List.getElem?_eq_getElem hjm] at hj
     injection hj with hj
     rw[hj];simp[h3,hst]
    ·have hil:i<l.length:=by omega
     have hne:bn (l[i]).1≠stamp:=fun e=>by
      have h5:=hm.inj l[i] (List.getElem_mem hil) q (List.mem_of_getElem? h2) (by rw[e,h3,hst])
      have h6:=List.pairwise_iff_getElem.1 hm.keys i j (by simpa using hil) (by simpa using hjl) hi
      rw[List.getElem?_eq_getElem hjl] at h2
      injection h2 with h2
      apply h6
      simp only[List.getElem_map]
      rw[h2];exact h5
     simp[bU];omega
   have hmo:(bU kk enc bn l).modify j (fun e=>{e with val:=enc u})=bU kk enc bn (mset l key u):=by
    rw[←h4 u]
    apply List.ext_getElem?
    intro i
    rw[List.getElem?_modify,List.getElem?_modify]
    by_cases hij:j=i
    ·subst hij
     rw[hj]
     simp[h3]
    ·simp[hij]
   refine⟨.skip,{w with heap:=w.heap.setIfInBounds r (.map (bU kk enc bn (mset l key u)).toArray clock)},?_,_,.inr ⟨rfl,rfl⟩,_,rfl,?_⟩
   ·simp[execOp,kn.eval hx,kn.eval hy,kn.eval hz,Instr.entryStore,MapKept.run_getObj_map ho,MapKept.run_setObj_map _ ho,asInt,asIntOf,hfi,hmo]
   ·refine iq hh 0 aa ho (fun k s ⟨bn1,c1,hk1,_⟩=> ?_) (fun k k' _ hk' _=>⟨_,_,hk',hm.mset hin⟩)
    rw[hk1, ←ho];exact(s _ _ hk1).symm
end
end Go.Proofs.YtipdhkmphngmoaaGreatDoor
