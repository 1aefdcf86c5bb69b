/- Part of a law's texts. Conditions: none. -/
import Derived.Test.YtipdhkmphngmoaaGreatDoorQL19Fi
import Derived.Shelf.Strings.Builder1
import Derived.Shelf.Small.Bits
import Derived.Shelf.Small.Wraps
import Derived.Shelf.Strings.BuilderF
import Derived.Shelf.Strings.BuilderK
import Derived.Shelf.Strconv.Itoa0
import Derived.Shelf.Strconv.Itoa1
import Derived.Shelf.LaysM
import Derived.Shelf.Strconv.Itoa2
import Derived.Shelf.Strconv.Itoa3
import Derived.Shelf.Pu.ParseUintPublic10
import Derived.Shelf.Pu.ErrVarParseUint
import Derived.Shelf.Strings.Search1
import Derived.Shelf.Strings.Search2
import Derived.Shelf.Strings.Search3
import Derived.Shelf.Strings.Cut
import Derived.Shelf.Strings.Shaped
import Derived.Shelf.Unicode.Decode
import Derived.Shelf.Unicode.DecodeSlow
import Derived.Shelf.Unicode.DecodeAny
import Derived.Shelf.Strings.FieldsFuncAny
import Derived.Shelf.Strings.FieldsFuncGrows
import Derived.Shelf.Slices.SearchI
import Derived.Shelf.SlicesE.Clone
open Go.Proofs.Tryz
set_option linter.all false
namespace Go.Proofs.YtipdhkmphngmoaaGreatDoor
open Go
abbrev CR:=Int×(Option Addr×Nat×Nat)×List Int
abbrev slv(q:Option Addr×Nat×Nat):Value:= .slice q.1 q.2.1 q.2.2
def crE(t:CR):List Value:=[i64 t.1,slv t.2.1]
theorem tO:nb 2 crE:=⟨fun _=>rfl,fun _=>rfl⟩
abbrev m9(t:CR):HP:=dQ 24 w64 0 (slv t.2.1,t.2.2)
abbrev crC(t:CR):Cmd:=(t.1,t.2.2)
def rO(rs:List CR)(l:List Cmd):Prop:=rs.map crC=l∧∀ t∈rs,t.2.1.2.1=t.2.2.length
def mu(_:Nat)(x:Value×List Cmd):HP:=hex fun (rs:List CR)=>grp [pr (rO rs x.2),iX 33 2 crE 0 (x.1,rs),grp (rs.map m9)]
section
variable {B:World} {n:Nat} {D:List Deferred} {σ:Env} {H Fr:List HP} {P:Program} {K:Act→World→Prop} {sv:Value} {l:List Cmd} {w:World} {rs:List CR}
theorem uQ(h:Holds B (mu 0 (sv,l)::Fr) w):∃ rs,rO rs l∧Holds B (iX 33 2 crE 0 (sv,rs)::grp (rs.map m9)::Fr) w:=by
 obtain⟨rs,h1⟩:=h.hex
 have h2:=h1.grp
 exact⟨rs,h2.pr⟩
theorem jS(hr:rO rs l)(h:Holds B (iX 33 2 crE 0 (sv,rs)::grp (rs.map m9)::Fr) w):Holds B (mu 0 (sv,l)::Fr) w:=
 Holds.unhex rs (Holds.ungrp (l:=[pr (rO rs l),iX 33 2 crE 0 (sv,rs),grp (rs.map m9)]) (h.unpr hr))
theorem wr(h:∀ rs,rO rs l→GO B n D σ (iX 33 2 crE 0 (sv,rs)::grp (rs.map m9)::Fr) K):GO B n D σ (mu 0 (sv,l)::Fr) K:=fun a w st=>by
 obtain⟨rs,h1,h2⟩:=uQ st.holds
 exact h rs h1 a w ⟨st.toStA,h2⟩
theorem pE(h:Holds B Fr w):Holds B (mu 0 (.slice none 0 0,[])::Fr) w:=
 jS (rs:=[]) ⟨rfl,fun _ h=>by cases h⟩ (oe (Holds.ungrp (l:=[]) (r:=Fr) h))
theorem xw{t:CR}(h:Holds B (grp (rs.map m9)::m9 t::Fr) w):Holds B (grp ((rs++[t]).map m9)::Fr) w:=by
 have h1:=h.grp
 rw[List.map_append]
 refine Holds.ungrp (l:=rs.map m9++[m9 t]) (r:=Fr) ?_
 simpa using h1
theorem rO.push{t:CR}(h:rO rs l)(ht:t.2.1.2.1=t.2.2.length):rO (rs++[t]) (l++[crC t]):=by
 refine⟨by rw[List.map_append,h.1];rfl,fun x hx=> ?_⟩
 rcases List.mem_append.1 hx with h1 | h1
 ·exact h.2 x h1
 ·rw[List.mem_singleton.1 h1];exact ht
theorem sP(i:Nat)(e:H[i]? =some (grp (rs.map m9))){t:CR}(ht:t∈rs)(hl:t.2.1.2.1=t.2.2.length):SlR B H (slv t.2.1) (t.2.2.map w64):=by
 obtain⟨k,q,m,c⟩:∃ k,k=t.1:=⟨_,rfl⟩
 obtain⟨kk,⟨q,m,c⟩,xs⟩:=t
 simp only at hl
 subst hl
 refine⟨q,c,by simp[slv],fun w hw j hj=> ?_⟩
 have h1:=(hw.front i e).grp
 obtain⟨a,b,hab⟩:=List.append_of_mem ht
 have h2:(rs.map m9++H.eraseIdx i)[a.length]? =some (dQ 24 w64 0 (.slice q xs.length c,xs)):=by
  rw[hab]
  simp[m9,slv]
 obtain⟨q',c',e1,e2⟩:=(cP (B:=B) a.length h2).ex
 injection e1 with e3 e4 e5
 subst e3
 exact e2 w h1 j hj
theorem rm{f:FuncId}{fn:Func}{R:Ending→World→Prop}{H2:List HP}{x y z:ResultVar}{v u t:Value}(hr:fn.results= #[x,y,z])(m:gm D H H2)(h1:jl P σ H2 x v)(h2:jl P σ H2 y u)(h3:jl P σ H2 z t)(h:∀ w,Holds B H2 w→R (.returned (.tuple #[v,u,t])) w):GO B n D σ H (xS P f fn R).ret:=fun a w s=>by
 show LeavesInM _ _ _ _ _ _ a.defers _ _
 rw[s.defers]
 refine m.leave (by simp) w s.holds fun w' hw'=>⟨.tuple #[v,u,t],?_,h w' hw'⟩
 have e1:=h1.run s.env hw'
 have e2:=h2.run s.env hw'
 have e3:=h3.run s.env hw'
 simp[results,hr] at e1 e2 e3 ⊢
 cases x<;>cases y<;>cases z<;>simp_all
def Dm(b:Nat)(l:List Cmd):HP:=hex fun (rv:Value)=>grp [row b [rv] 164,mu 0 (rv,l),pr (aN rv=true)]
theorem wo{b:Nat}(h:∀ rv,aN rv=true→GO B n D σ (row b [rv] 164::mu 0 (rv,l)::Fr) K):GO B n D σ (Dm b l::Fr) K:=fun a w st=>by
 obtain⟨rv,h1⟩:=st.holds.hex
 have h2:=(h1.grp).front 2 rfl
 exact h rv h2.pr.1 a w ⟨st.toStA,h2.pr.2⟩
theorem jr{b:Nat}{rv:Value}(hr:aN rv=true)(h:Holds B (row b [rv] 164::mu 0 (rv,l)::Fr) w):Holds B (Dm b l::Fr) w:=
 Holds.unhex rv (Holds.ungrp (l:=[row b [rv] 164,mu 0 (rv,l),pr (aN rv=true)]) ((h.unpr hr).back 2 (by simp)))
theorem vP{A C E L:HP}(X Y:List HP):(A::C::E::L::(X++Y)).Perm (L::(X++(A::C::E::Y))):=by
 have h1:(X++(A::C::E::Y)).Perm (A::C::E::(X++Y)):=
  List.perm_middle.trans ((List.perm_middle.trans ((List.perm_middle).cons C)).cons A)
 exact((((List.Perm.swap L E (X++Y)).cons C).trans (List.Perm.swap L C (E::(X++Y)))).cons A |>.trans (List.Perm.swap L A (C::E::(X++Y)))).trans (h1.symm.cons L)
end
open Go Go.Proofs
open Go.Shelf
def Tryz.lays283_ren:Go.Shelf.Ren:=⟨fun | 283=>129 | n=>n,fun | 3=>3 | 9=>9 | 4=>4 | n=>n,fun | n=>n⟩
theorem Tryz.lays283:Go.Proofs.Lays.n283 Tryz.prog Tryz.lays283_ren:={
 mixed:=by kernel_rfl
 f283:=Tryz.func129.trans (congrArg some (by kernel_rfl))
 t3:=underlying3
 a3:=isAgg3
 z3:=sizeOf3
 v3:=zeroValue3
 t4:=underlying4
 a4:=isAgg4
 z4:=sizeOf4
 v4:=zeroValue4
 t9:=underlying9
 a9:=isAgg9
 z9:=sizeOf9
 v9:=zeroValue9}
open Go.Lib in
theorem Tryz.internal_strconv_small(i:Nat)(h:i<100)(w:World):
 Calls Tryz.prog 129 #[.int .i64 i] w fun e w'=>e= .returned (.string ⟨(Lib.decDigits i).toArray⟩)∧w'=w:=Any.internal_strconv_small Tryz.lays283 i h w
def Tryz.laysM284_ren:Go.Shelf.Ren:=⟨fun | 284=>130 | 129=>169 | 317=>168 | 318=>170 | n=>n,fun | 53=>24 | 3=>3 | 212=>236 | 0=>0 | 4=>4 | 46=>239 | 5=>5 | 9=>9 | n=>n,fun | 17=>1 | n=>n⟩
theorem Tryz.laysM284:Go.Proofs.LaysM.n284 Tryz.prog Tryz.laysM284_ren:={
 mixed:=by kernel_rfl
 f129:=Tryz.func169.trans (congrArg some (by kernel_rfl))
 f284:=Tryz.func130.trans (congrArg some (by kernel_rfl))
 f317:=Tryz.func168.trans (congrArg some (by kernel_rfl))
 f318:=Tryz.func170.trans (congrArg some (by kernel_rfl))
 t0:=underlying0
 a0:=isAgg0
 z0:=sizeOf0
 v0:=zeroValue0
 t3:=underlying3
 a3:=isAgg3
 z3:=sizeOf3
 v3:=zeroValue3
 t4:=underlying4
 a4:=isAgg4
 z4:=sizeOf4
 v4:=zeroValue4
 t5:=underlying5
 a5:=isAgg5
 z5:=sizeOf5
 v5:=zeroValue5
 t9:=underlying9
 a9:=isAgg9
 z9:=sizeOf9
 v9:=zeroValue9
 t46:=underlying239
 a46:=isAgg239
 z46:=sizeOf239
 v46:=zeroValue239
 t53:=underlying24
 a53:=isAgg24
 z53:=sizeOf24
 v53:=zeroValue24
 t212:=underlying236
 a212:=isAgg236
 z212:=sizeOf236
 v212:=zeroValue236
 g17:=by kernel_rfl
 i0:=by kernel_rfl
 i3:=by kernel_rfl
 i4:=by kernel_rfl
 i5:=by kernel_rfl
 i9:=by kernel_rfl
 i46:=by kernel_rfl
 i53:=by kernel_rfl
 i212:=by kernel_rfl
 m17:=by kernel_rfl}
open Go.Lib in
theorem Tryz.internal_strconv_numDigits(u:Nat)(h1:1≤u)(h2:u<18446744073709551616)(w:World)(htab:Lib.TabIs Tryz.prog w "internal/strconv.uint64pow10" .u64 Lib.pow10Tab):
 Calls Tryz.prog 130 #[.int .u64 u] w fun e w'=>e= .returned (.int .i64 (Lib.nDigits u))∧w'=w:=Any.internal_strconv_numDigits Tryz.laysM284 u h1 h2 w htab
def Tryz.lays285_ren:Go.Shelf.Ren:=⟨fun | 285=>131 | n=>n,fun | 37=>85 | 53=>24 | 3=>3 | 4=>4 | 51=>237 | 9=>9 | 5=>5 | 0=>0 | n=>n,fun | n=>n⟩
theorem Tryz.lays285:Go.Proofs.Lays.n285 Tryz.prog Tryz.lays285_ren:={
 mixed:=by kernel_rfl
 f285:=Tryz.func131.trans (congrArg some (by kernel_rfl))
 t0:=underlying0
 a0:=isAgg0
 z0:=sizeOf0
 v0:=zeroValue0
 t3:=underlying3
 a3:=isAgg3
 z3:=sizeOf3
 v3:=zeroValue3
 t4:=underlying4
 a4:=isAgg4
 z4:=sizeOf4
 v4:=zeroValue4
 t5:=underlying5
 a5:=isAgg5
 z5:=sizeOf5
 v5:=zeroValue5
 t9:=underlying9
 a9:=isAgg9
 z9:=sizeOf9
 v9:=zeroValue9
 t37:=underlying85
 a37:=isAgg85
 z37:=sizeOf85
 v37:=zeroValue85
 t51:=underlying237
 a51:=isAgg237
 z51:=sizeOf237
 v51:=zeroValue237
 t53:=underlying24
 a53:=isAgg24
 z53:=sizeOf24
 v53:=zeroValue24}
open Go.RowKit Go.Sort Go.Lib in
theorem Tryz.internal_strconv_formatBase10(blk off cap:Nat)(u:Nat)(d:Array UInt8)(w:World)(hH:Go.Sort.Holds (fun (b:UInt8)=>Value.int .u8 (b.toNat:Int)) w blk off d)(hu:u<10 ^ d.size)(hu64:u<18446744073709551616)(hsz:d.size<4611686018427387904):
 Calls Tryz.prog 131 #[.slice (some ⟨blk,off,none⟩) d.size cap,.int .u64 u] w fun e w'=>
  e= .returned (.tuple #[])∧∃ (n v':Nat) (dk:Array UInt8),w'=(putRow (fun (b:UInt8)=>Value.int .u8 (b.toNat:Int)) w blk off dk).drewN n∧FmtInv d.size u 0 v' dk:=Any.internal_strconv_formatBase10 Tryz.lays285 blk off cap u d w hH hu hu64 hsz
def Tryz.laysM171_ren:Go.Shelf.Ren:=⟨fun | 171=>125 | 243=>167 | 246=>199 | 283=>129 | 284=>130 | 285=>131 | 286=>132 | 129=>169 | 317=>168 | 318=>170 | 319=>171 | 320=>172 | 337=>200 | 338=>201 | n=>n,fun | 3=>3 | 9=>9 | 2=>2 | 4=>4 | 171=>180 | 0=>0 | 53=>24 | 37=>85 | 5=>5 | 173=>182 | 212=>236 | 51=>237 | 20=>20 | 213=>238 | 46=>239 | 232=>292 | 233=>293 | n=>n,fun | 17=>1 | 18=>2 | 19=>3 | n=>n⟩
theorem Tryz.laysM171:Go.Proofs.LaysM.n171 Tryz.prog Tryz.laysM171_ren:={
 mixed:=by kernel_rfl
 f129:=Tryz.func169.trans (congrArg some (by kernel_rfl))
 f171:=Tryz.func125.trans (congrArg some (by kernel_rfl))
 f243:=Tryz.func167.trans (congrArg some (by kernel_rfl))
 f246:=Tryz.func199.trans (congrArg some (by kernel_rfl))
 f283:=Tryz.func129.trans (congrArg some (by kernel_rfl))
 f284:=Tryz.func130.trans (congrArg some (by kernel_rfl))
 f285:=Tryz.func131.trans (congrArg some (by kernel_rfl))
 f286:=Tryz.func132.trans (congrArg some (by kernel_rfl))
 f317:=Tryz.func168.trans (congrArg some (by kernel_rfl))
 f318:=Tryz.func170.trans (congrArg some (by kernel_rfl))
 f319:=Tryz.func171.trans (congrArg some (by kernel_rfl))
 f320:=Tryz.func172.trans (congrArg some (by kernel_rfl))
 f337:=Tryz.func200.trans (congrArg some (by kernel_rfl))
 f338:=Tryz.func201.trans (congrArg some (by kernel_rfl))
 t0:=underlying0
 a0:=isAgg0
 z0:=sizeOf0
 v0:=zeroValue0
 t2:=underlying2
 a2:=isAgg2
 z2:=sizeOf2
 v2:=zeroValue2
 t3:=underlying3
 a3:=isAgg3
 z3:=sizeOf3
 v3:=zeroValue3
 t4:=underlying4
 a4:=isAgg4
 z4:=sizeOf4
 v4:=zeroValue4
 t5:=underlying5
 a5:=isAgg5
 z5:=sizeOf5
 v5:=zeroValue5
 t9:=underlying9
 a9:=isAgg9
 z9:=sizeOf9
 v9:=zeroValue9
 t20:=underlying20
 a20:=isAgg20
 z20:=sizeOf20
 v20:=zeroValue20
 t37:=underlying85
 a37:=isAgg85
 z37:=sizeOf85
 v37:=zeroValue85
 t46:=underlying239
 a46:=isAgg239
 z46:=sizeOf239
 v46:=zeroValue239
 t51:=underlying237
 a51:=isAgg237
 z51:=sizeOf237
 v51:=zeroValue237
 t53:=underlying24
 a53:=isAgg24
 z53:=sizeOf24
 v53:=zeroValue24
 t171:=underlying180
 a171:=isAgg180
 z171:=sizeOf180
 v171:=zeroValue180
 t173:=underlying182
 a173:=isAgg182
 z173:=sizeOf182
 v173:=zeroValue182
 t212:=underlying236
 a212:=isAgg236
 z212:=sizeOf236
 v212:=zeroValue236
 t213:=underlying238
 a213:=isAgg238
 z213:=sizeOf238
 t232:=underlying292
 a232:=isAgg292
 z232:=sizeOf292
 v232:=zeroValue292
 t233:=underlying293
 a233:=isAgg293
 z233:=sizeOf293
 v233:=zeroValue293
 g17:=by kernel_rfl
 g18:=by kernel_rfl
 g19:=by kernel_rfl
 i0:=by kernel_rfl
 i2:=by kernel_rfl
 i3:=by kernel_rfl
 i4:=by kernel_rfl
 i5:=by kernel_rfl
 i9:=by kernel_rfl
 i20:=by kernel_rfl
 i37:=by kernel_rfl
 i46:=by kernel_rfl
 i51:=by kernel_rfl
 i53:=by kernel_rfl
 i171:=by kernel_rfl
 i173:=by kernel_rfl
 i212:=by kernel_rfl
 i232:=by kernel_rfl
 i233:=by kernel_rfl
 m17:=by kernel_rfl
 m18:=by kernel_rfl
 m19:=by kernel_rfl}
open Go.RowKit Go.Sort Go.Lib in
theorem Tryz.strconv_Itoa(n:Int)(h0: -9223372036854775808≤n)(h1:n≤9223372036854775807)(w:World)(htab:Lib.TabIs Tryz.prog w "internal/strconv.uint64pow10" .u64 Lib.pow10Tab):
 Calls Tryz.prog 125 #[.int .i64 n] w fun e w'=>e= .returned (.string ⟨(Lib.itoa n).toArray⟩)∧∃ k os,w'=grow (w.drewN k) os:=Any.strconv_Itoa Tryz.laysM171 n h0 h1 w htab
def Tryz.laysPu14_ren:Go.Shelf.Ren:=⟨fun | 14=>198 | 16=>216 | 17=>217 | 19=>236 | 20=>237 | 21=>238 | 22=>239 | 23=>240 | 24=>241 | 25=>255 | 27=>125 | 26=>256 | 28=>167 | 29=>199 | 30=>129 | 31=>130 | 32=>131 | 33=>132 | 35=>169 | 34=>168 | 36=>170 | 37=>171 | 38=>172 | 39=>200 | 40=>201 | n=>n,fun | 9=>9 | 3=>3 | 22=>24 | 24=>246 | 25=>268 | 4=>4 | 34=>309 | 5=>5 | 36=>239 | 37=>85 | 0=>0 | 39=>311 | 21=>21 | 44=>328 | 47=>272 | 50=>337 | 48=>335 | 2=>2 | 52=>180 | 55=>182 | 59=>236 | 60=>237 | 20=>20 | 61=>238 | 65=>292 | 66=>293 | 67=>167 | n=>n,fun | 0=>7 | 1=>8 | 2=>1 | 3=>2 | 4=>3 | n=>n⟩
theorem Tryz.laysPu14:Go.Proofs.LaysPu.n14 Tryz.prog Tryz.laysPu14_ren:={
 mixed:=by kernel_rfl
 f14:=Tryz.func198.trans (congrArg some (by kernel_rfl))
 f16:=Tryz.func216.trans (congrArg some (by kernel_rfl))
 f17:=Tryz.func217.trans (congrArg some (by kernel_rfl))
 f19:=Tryz.func236.trans (congrArg some (by kernel_rfl))
 f20:=Tryz.func237.trans (congrArg some (by kernel_rfl))
 f21:=Tryz.func238.trans (congrArg some (by kernel_rfl))
 f22:=Tryz.func239.trans (congrArg some (by kernel_rfl))
 f23:=Tryz.func240.trans (congrArg some (by kernel_rfl))
 f24:=Tryz.func241.trans (congrArg some (by kernel_rfl))
 f25:=Tryz.func255.trans (congrArg some (by kernel_rfl))
 f26:=Tryz.func256.trans (congrArg some (by kernel_rfl))
 f27:=Tryz.func125.trans (congrArg some (by kernel_rfl))
 f28:=Tryz.func167.trans (congrArg some (by kernel_rfl))
 f29:=Tryz.func199.trans (congrArg some (by kernel_rfl))
 f30:=Tryz.func129.trans (congrArg some (by kernel_rfl))
 f31:=Tryz.func130.trans (congrArg some (by kernel_rfl))
 f32:=Tryz.func131.trans (congrArg some (by kernel_rfl))
 f33:=Tryz.func132.trans (congrArg some (by kernel_rfl))
 f34:=Tryz.func168.trans (congrArg some (by kernel_rfl))
 f35:=Tryz.func169.trans (congrArg some (by kernel_rfl))
 f36:=Tryz.func170.trans (congrArg some (by kernel_rfl))
 f37:=Tryz.func171.trans (congrArg some (by kernel_rfl))
 f38:=Tryz.func172.trans (congrArg some (by kernel_rfl))
 f39:=Tryz.func200.trans (congrArg some (by kernel_rfl))
 f40:=Tryz.func201.trans (congrArg some (by kernel_rfl))
 t0:=underlying0
 a0:=isAgg0
 z0:=sizeOf0
 v0:=zeroValue0
 i0:=by kernel_rfl
 t2:=underlying2
 a2:=isAgg2
 z2:=sizeOf2
 v2:=zeroValue2
 i2:=by kernel_rfl
 t3:=underlying3
 a3:=isAgg3
 z3:=sizeOf3
 v3:=zeroValue3
 i3:=by kernel_rfl
 t4:=underlying4
 a4:=isAgg4
 z4:=sizeOf4
 v4:=zeroValue4
 i4:=by kernel_rfl
 t5:=underlying5
 a5:=isAgg5
 z5:=sizeOf5
 v5:=zeroValue5
 i5:=by kernel_rfl
 t9:=underlying9
 a9:=isAgg9
 z9:=sizeOf9
 v9:=zeroValue9
 i9:=by kernel_rfl
 t20:=underlying20
 a20:=isAgg20
 z20:=sizeOf20
 v20:=zeroValue20
 i20:=by kernel_rfl
 t21:=underlying21
 a21:=isAgg21
 z21:=sizeOf21
 v21:=zeroValue21
 i21:=by kernel_rfl
 t22:=underlying24
 a22:=isAgg24
 z22:=sizeOf24
 v22:=zeroValue24
 i22:=by kernel_rfl
 t24:=underlying246
 a24:=isAgg246
 z24:=sizeOf246
 v24:=zeroValue246
 i24:=by kernel_rfl
 t25:=underlying268
 a25:=isAgg268
 z25:=sizeOf268
 v25:=zeroValue268
 i25:=by kernel_rfl
 t34:=underlying309
 a34:=isAgg309
 z34:=sizeOf309
 v34:=zeroValue309
 i34:=by kernel_rfl
 c34:=by kernel_rfl
 t36:=underlying239
 a36:=isAgg239
 z36:=sizeOf239
 v36:=zeroValue239
 i36:=by kernel_rfl
 t37:=underlying85
 a37:=isAgg85
 z37:=sizeOf85
 v37:=zeroValue85
 i37:=by kernel_rfl
 t39:=underlying311
 a39:=isAgg311
 z39:=sizeOf311
 v39:=zeroValue311
 i39:=by kernel_rfl
 t44:=underlying328
 a44:=isAgg328
 z44:=sizeOf328
 v44:=zeroValue328
 i44:=by kernel_rfl
 t47:=underlying272
 a47:=isAgg272
 z47:=sizeOf272
 v47:=zeroValue272
 i47:=by kernel_rfl
 t48:=underlying335
 a48:=isAgg335
 z48:=sizeOf335
 v48:=zeroValue335
 i48:=by kernel_rfl
 t50:=underlying337
 a50:=isAgg337
 z50:=sizeOf337
 v50:=zeroValue337
 i50:=by kernel_rfl
 t52:=underlying180
 a52:=isAgg180
 z52:=sizeOf180
 v52:=zeroValue180
 i52:=by kernel_rfl
 t55:=underlying182
 a55:=isAgg182
 z55:=sizeOf182
 v55:=zeroValue182
 i55:=by kernel_rfl
 t59:=underlying236
 a59:=isAgg236
 z59:=sizeOf236
 v59:=zeroValue236
 i59:=by kernel_rfl
 t60:=underlying237
 a60:=isAgg237
 z60:=sizeOf237
 v60:=zeroValue237
 i60:=by kernel_rfl
 t61:=underlying238
 a61:=isAgg238
 z61:=sizeOf238
 t65:=underlying292
 a65:=isAgg292
 z65:=sizeOf292
 v65:=zeroValue292
 i65:=by kernel_rfl
 t66:=underlying293
 a66:=isAgg293
 z66:=sizeOf293
 v66:=zeroValue293
 i66:=by kernel_rfl
 t67:=underlying167
 a67:=isAgg167
 z67:=sizeOf167
 v67:=zeroValue167
 i67:=by kernel_rfl
 g0:=by kernel_rfl
 m0:=by kernel_rfl
 g1:=by kernel_rfl
 m1:=by kernel_rfl
 g2:=by kernel_rfl
 m2:=by kernel_rfl
 g3:=by kernel_rfl
 m3:=by kernel_rfl
 g4:=by kernel_rfl
 m4:=by kernel_rfl}
open Go.RowKit in
theorem Tryz.strconv_ParseUint_10_at64_ok(s:ByteArray)(hmax:s.size≤9223372036854775806)(u:Nat)(h:Lib.parseUintB 64 s.data.toList= .ok u)(w:World):
 Calls Tryz.prog 198 #[.string s,.int .i64 10,.int .i64 64] w fun e w'=>e= .returned (.tuple #[.int .u64 u,.nilIface])∧(w'=w∨w'=Lib.bytesWorld w 5 s):=Any.strconv_ParseUint_10_at64_ok Tryz.laysPu14 s hmax u h w
open Go.RowKit in
theorem Tryz.strconv_ParseUint_10_at64_syntax(s:ByteArray)(hlim:s.size≤281474976710656)(h:Lib.parseUintB 64 s.data.toList= .«syntax»)(ev:Value)(w:World)(hv:w.cell? ⟨7,0,none⟩=some ev)(hev:ev= .nilIface∨∃ te pe,ev= .iface te pe):
 Calls Tryz.prog 198 #[.string s,.int .i64 10,.int .i64 64] w fun e w'=>∃ N,e= .returned (.tuple #[.int .u64 0,.iface 311 (.pointer (some ⟨N,0,none⟩))])∧w.heap.size≤N∧w'.heap[N]? =some (.cells #[.string ⟨#[80,97,114,115,101,85,105,110,116]⟩,.string s,ev] 328 (0,0))∧Below w.heap.size w w':=Any.strconv_ParseUint_10_at64_syntax Tryz.laysPu14 s hlim h ev w hv hev
open Go.RowKit in
theorem Tryz.strconv_ParseUint_10_at64_range(s:ByteArray)(hlim:s.size≤281474976710656)(h:Lib.parseUintB 64 s.data.toList= .range)(ev:Value)(w:World)(hv:w.cell? ⟨8,0,none⟩=some ev)(hev:ev= .nilIface∨∃ te pe,ev= .iface te pe):
 Calls Tryz.prog 198 #[.string s,.int .i64 10,.int .i64 64] w fun e w'=>∃ N,e= .returned (.tuple #[.int .u64 18446744073709551615,.iface 311 (.pointer (some ⟨N,0,none⟩))])∧w.heap.size≤N∧w'.heap[N]? =some (.cells #[.string ⟨#[80,97,114,115,101,85,105,110,116]⟩,.string s,ev] 328 (0,0))∧Below w.heap.size w w':=Any.strconv_ParseUint_10_at64_range Tryz.laysPu14 s hlim h ev w hv hev
def Tryz.lays219_ren:Go.Shelf.Ren:=⟨fun | 219=>235 | 217=>251 | 225=>252 | 224=>253 | 267=>254 | 266=>259 | 314=>260 | n=>n,fun | 9=>9 | 3=>3 | 4=>4 | 5=>5 | 46=>239 | 146=>333 | 51=>237 | n=>n,fun | 1=>6 | n=>n⟩
theorem Tryz.lays219:Go.Proofs.Lays.n219 Tryz.prog Tryz.lays219_ren:={
 mixed:=by kernel_rfl
 f217:=Tryz.func251.trans (congrArg some (by kernel_rfl))
 f219:=Tryz.func235.trans (congrArg some (by kernel_rfl))
 f224:=Tryz.func253.trans (congrArg some (by kernel_rfl))
 f225:=Tryz.func252.trans (congrArg some (by kernel_rfl))
 f266:=Tryz.func259.trans (congrArg some (by kernel_rfl))
 f267:=Tryz.func254.trans (congrArg some (by kernel_rfl))
 f314:=Tryz.func260.trans (congrArg some (by kernel_rfl))
 t3:=underlying3
 a3:=isAgg3
 z3:=sizeOf3
 v3:=zeroValue3
 t4:=underlying4
 a4:=isAgg4
 z4:=sizeOf4
 v4:=zeroValue4
 t5:=underlying5
 a5:=isAgg5
 z5:=sizeOf5
 v5:=zeroValue5
 t9:=underlying9
 a9:=isAgg9
 z9:=sizeOf9
 v9:=zeroValue9
 t46:=underlying239
 a46:=isAgg239
 z46:=sizeOf239
 v46:=zeroValue239
 t51:=underlying237
 a51:=isAgg237
 z51:=sizeOf237
 v51:=zeroValue237
 t146:=underlying333
 a146:=isAgg333
 z146:=sizeOf333
 v146:=zeroValue333
 g1:=by kernel_rfl}
open Go.RowKit Go.Lib in
theorem Tryz.stringslite_Index_one(s:ByteArray)(c:UInt8)(w:World):
 Calls Tryz.prog 235 #[.string s,.string ⟨#[c]⟩] w fun e w'=>e= .returned (.int .i64 (Lib.indexByte s.data.toList c))∧w'=w:=Any.stringslite_Index_one Tryz.lays219 s c w
def Tryz.lays143_ren:Go.Shelf.Ren:=⟨fun | 143=>214 | 219=>235 | 217=>251 | 225=>252 | 224=>253 | 267=>254 | 266=>259 | 314=>260 | n=>n,fun | 9=>9 | 3=>3 | 4=>4 | 5=>5 | 46=>239 | 146=>333 | 51=>237 | n=>n,fun | 1=>6 | n=>n⟩
theorem Tryz.lays143:Go.Proofs.Lays.n143 Tryz.prog Tryz.lays143_ren:={
 mixed:=by kernel_rfl
 f143:=Tryz.func214.trans (congrArg some (by kernel_rfl))
 f217:=Tryz.func251.trans (congrArg some (by kernel_rfl))
 f219:=Tryz.func235.trans (congrArg some (by kernel_rfl))
 f224:=Tryz.func253.trans (congrArg some (by kernel_rfl))
 f225:=Tryz.func252.trans (congrArg some (by kernel_rfl))
 f266:=Tryz.func259.trans (congrArg some (by kernel_rfl))
 f267:=Tryz.func254.trans (congrArg some (by kernel_rfl))
 f314:=Tryz.func260.trans (congrArg some (by kernel_rfl))
 t3:=underlying3
 a3:=isAgg3
 z3:=sizeOf3
 v3:=zeroValue3
 t4:=underlying4
 a4:=isAgg4
 z4:=sizeOf4
 v4:=zeroValue4
 t5:=underlying5
 a5:=isAgg5
 z5:=sizeOf5
 v5:=zeroValue5
 t9:=underlying9
 a9:=isAgg9
 z9:=sizeOf9
 v9:=zeroValue9
 t46:=underlying239
 a46:=isAgg239
 z46:=sizeOf239
 v46:=zeroValue239
 t51:=underlying237
 a51:=isAgg237
 z51:=sizeOf237
 v51:=zeroValue237
 t146:=underlying333
 a146:=isAgg333
 z146:=sizeOf333
 v146:=zeroValue333
 g1:=by kernel_rfl}
open Go.RowKit Go.Lib in
theorem Tryz.strings_Index_one(s:ByteArray)(c:UInt8)(w:World):
 Calls Tryz.prog 214 #[.string s,.string ⟨#[c]⟩] w fun e w'=>e= .returned (.int .i64 (Lib.indexByte s.data.toList c))∧w'=w:=Any.strings_Index_one Tryz.lays143 s c w
def Tryz.lays229_ren:Go.Shelf.Ren:=⟨fun | 229=>196 | n=>n,fun | 9=>9 | 40=>267 | 31=>230 | 152=>288 | 3=>3 | 0=>0 | 4=>4 | 21=>21 | 154=>290 | n=>n,fun | n=>n⟩
theorem Tryz.lays229:Go.Proofs.Lays.n229 Tryz.prog Tryz.lays229_ren:={
 mixed:=by kernel_rfl
 f229:=Tryz.func196.trans (congrArg some (by kernel_rfl))
 t0:=underlying0
 a0:=isAgg0
 z0:=sizeOf0
 v0:=zeroValue0
 t3:=underlying3
 a3:=isAgg3
 z3:=sizeOf3
 v3:=zeroValue3
 t4:=underlying4
 a4:=isAgg4
 z4:=sizeOf4
 v4:=zeroValue4
 t9:=underlying9
 a9:=isAgg9
 z9:=sizeOf9
 v9:=zeroValue9
 t21:=underlying21
 a21:=isAgg21
 z21:=sizeOf21
 v21:=zeroValue21
 t31:=underlying230
 a31:=isAgg230
 z31:=sizeOf230
 v31:=zeroValue230
 t40:=underlying267
 a40:=isAgg267
 z40:=sizeOf267
 v40:=zeroValue267
 t152:=underlying288
 a152:=isAgg288
 z152:=sizeOf288
 v152:=zeroValue288
 t154:=underlying290
 a154:=isAgg290
 z154:=sizeOf290
 v154:=zeroValue290}
open Go.RowKit Go.Lib in
theorem Tryz.strings_FieldsFunc_grows(g:Nat)(lb:Array Value)(eg:∀ args w,(callFunc g args).run Tryz.prog w= .ok (.enter g args) w)(p:Nat→Bool)(s:ByteArray)(w:World)(hs:s.size≤4294967296)(hp:PredGrows Tryz.prog g lb p w):
 Calls Tryz.prog 196 #[.string s,.func (.func g) #[] lb] w fun e w'=>∃ A,e= .returned (.slice (some ⟨A,0,none⟩) (Lib.goFieldsP p s).length (Lib.goFieldsP p s).length)∧w.heap.size≤A∧
  w'.ownsRow w.heap.size 9 1 (.slice (some ⟨A,0,none⟩) (Lib.goFieldsP p s).length (Lib.goFieldsP p s).length) (Lib.goFieldsP p s).length ((Lib.goFieldsP p s).map Value.string)∧Below w.heap.size w w':=Any.strings_FieldsFunc_grows Tryz.lays229 g lb eg p s w hs hp (by kernel_rfl) (by kernel_rfl)
structure GL(B:World):Prop where
 pow:Lib.TabIs Tryz.prog B "internal/strconv.uint64pow10" .u64 Lib.pow10Tab
 ml:∃ m,B.cell? ⟨6,0,none⟩=some (.int .i64 m)
 es:∃ te pe,B.cell? ⟨7,0,none⟩=some (.iface te pe)
 er:∃ te pe,B.cell? ⟨8,0,none⟩=some (.iface te pe)
section
variable {B:World} {H Fr:List HP}
theorem AP(H:List HP)(l:List UInt8)(c:UInt8):∀ w,Holds B H w→Calls Tryz.prog 214 [str l,.string ⟨#[c]⟩].toArray w (aZ B H (i64 (Lib.indexByte l c))):=fun w hw=>
 (Tryz.strings_Index_one ⟨l.toArray⟩ c w).mono fun e w' ⟨h1,h2⟩=>by subst h2;exact⟨h1,hw⟩
theorem yI(H:List HP)(l:List UInt8)(c:UInt8):∀ w,Holds B H w→Calls Tryz.prog 235 [str l,.string ⟨#[c]⟩].toArray w (aZ B H (i64 (Lib.indexByte l c))):=fun w hw=>
 (Tryz.stringslite_Index_one ⟨l.toArray⟩ c w).mono fun e w' ⟨h1,h2⟩=>by subst h2;exact⟨h1,hw⟩
theorem yD(H:List HP)(i:Nat)(h:i<100):∀ w,Holds B H w→Calls Tryz.prog 129 [i64 i].toArray w (aZ B H (str (Lib.decDigits i))):=fun w hw=>
 (Tryz.internal_strconv_small i h w).mono fun e w' ⟨h1,h2⟩=>by subst h2;exact⟨h1,hw⟩
theorem A8[cF H B](gl:GL B)(u:Nat)(h1:1≤u)(h2:u<18446744073709551616):∀ w,Holds B H w→Calls Tryz.prog 130 [.int .u64 u].toArray w (aZ B H (i64 (Lib.nDigits u))):=fun w hw=>by
 have ht:Lib.TabIs Tryz.prog w "internal/strconv.uint64pow10" .u64 Lib.pow10Tab:=by
  have h:=gl.pow
  unfold Lib.TabIs World.var? at*
  cases hg:Tryz.prog.globalNamed "internal/strconv.uint64pow10" with
  | none=>rw[hg] at h;cases h
  | some g=>
    rw[hg] at h
    simp only[Option.bind_some] at h ⊢
    cases hb:B.heap[g]? with
    | none=>rw[hb] at h;cases h
    | some o=>
      have:=hw.oldb.block g (Array.getElem?_eq_some_iff.1 hb).1
      rw[this];exact h
 exact(Tryz.internal_strconv_numDigits u h1 h2 w ht).mono fun e w' ⟨g1,g2⟩=>by subst g2;exact⟨g1,hw⟩
theorem yZ[cF H B](gl:GL B)(l:List UInt8)(hl:l.length≤1000000):∀ w,Holds B H w→Calls Tryz.prog 198 [str l,i64 10,i64 64].toArray w (Ret B (fun v H'=>H'=H∧∃ (n:Int) (e:Value),v= .tuple #[.int .u64 n,e]∧((∃ u:Nat,Lib.parseUintB 64 l= .ok u∧n=u∧e= .nilIface)∨((∀ u,Lib.parseUintB 64 l≠ .ok u)∧∃ t x,e= .iface t x))) (fun _ _=>False)):=fun w hw=>by
 cases hp:Lib.parseUintB 64 l with
 | ok u=>
   refine(Tryz.strconv_ParseUint_10_at64_ok ⟨l.toArray⟩ (by rw[iQ];omega) u hp w).mono fun e w' ⟨h1,h2⟩=> ?_
   subst h1
   refine⟨H,⟨rfl,_,_,rfl,.inl ⟨u,rfl,rfl,rfl⟩⟩,?_⟩
   rcases h2 with rfl | rfl
   ·exact hw
   ·exact hw.below ⟨rfl,rfl,rfl,by rw[Lib.bytesWorld_size];omega,fun j hj=>Lib.bytesWorld_at_old w _ _ j hj⟩
 | «syntax» =>
   obtain⟨te,pe,he⟩:=gl.es
   refine(Tryz.strconv_ParseUint_10_at64_syntax ⟨l.toArray⟩ (by rw[iQ];omega) hp _ w (hw.oldcell he) (.inr ⟨_,_,rfl⟩)).mono fun e w' ⟨N,h1,_,_,h2⟩=> ?_
   subst h1
   exact⟨H,⟨rfl,_,_,rfl,.inr ⟨(fun u h=>(by cases h)),_,_,rfl⟩⟩,hw.below h2⟩
 | range=>
   obtain⟨te,pe,he⟩:=gl.er
   refine(Tryz.strconv_ParseUint_10_at64_range ⟨l.toArray⟩ (by rw[iQ];omega) hp _ w (hw.oldcell he) (.inr ⟨_,_,rfl⟩)).mono fun e w' ⟨N,h1,_,_,h2⟩=> ?_
   subst h1
   exact⟨H,⟨rfl,_,_,rfl,.inr ⟨(fun u h=>(by cases h)),_,_,rfl⟩⟩,hw.below h2⟩
theorem xo{xs ys:List UInt8}{rest:List Value}(h:ys.length=xs.length):Go.Sort.putCells (fun b:UInt8=>Value.int .u8 (b.toNat:Int)) 0 ys.toArray (xs.map u8v++rest).toArray=(ys.map u8v++rest).toArray:=by
 apply Array.ext_getElem?
 intro j
 simp only[Go.Sort.putCells,Array.getElem?_mapIdx,List.getElem?_toArray]
 by_cases hj:j<xs.length
 ·rw[List.getElem?_append_left (by simpa using hj),List.getElem?_append_left (by simp;omega)]
  have hj':j<ys.length:=by omega
  simp[hj,hj']
 ·rw[List.getElem?_append_right (by simp;omega),List.getElem?_append_right (by simp;omega)]
  simp[h]
  cases e:rest[j - xs.length]? with
  | none=>rfl
  | some v=>simp;omega
theorem kD:∀ (n:Nat) {w:World},Holds B H w→Holds B H (w.drewN n)
 | 0,_,h=>h
 | n+1,_,h=>(kD n h).drew _
theorem BA(H:List HP)(b T cap u n:Nat)(xs:List UInt8)(rest:List Value)(hn:n=xs.length)(hl:xs.length=Lib.nDigits u)(hu:u<18446744073709551616):∀ w,Holds B (row b (xs.map u8v++rest) T::H) w→Calls Tryz.prog 131 [.slice (some ⟨b,0,none⟩) n cap,.int .u64 u].toArray w (Ret B (fun v H'=>v= .tuple #[]∧H'=row b ((Lib.decDigits u).map u8v++rest) T::H) (fun _ _=>False)):=fun w hw=>by
 subst hn
 have hd:=Lib.decDigits_length u
 have hdl:=pC u (by omega)
 have hh:Go.Sort.Holds (fun b:UInt8=>Value.int .u8 (b.toNat:Int)) w b 0 xs.toArray:=by
  intro j hj
  have hj':j<xs.length:=by simpa using hj
  have h1:=hw.cell 0 rfl (0+j)
  have h2:=hw.free 0 rfl (0+j)
  refine⟨h1.trans ?_,h2⟩
  rw[Nat.zero_add,List.getElem?_append_left (by simpa using hj')]
  simp[hj']
 have hpow:u<10 ^ xs.toArray.size:=by
  rw[show xs.toArray.size=xs.length by simp,hl]
  exact Lib.lt_pow_nDigits u
 have:=Tryz.internal_strconv_formatBase10 b 0 cap u xs.toArray w hh hpow hu (by simp;omega)
 rw[show xs.toArray.size=xs.length by simp] at this
 refine this.mono ?_
 rintro e w' ⟨rfl,n,v',dk,rfl,hf⟩
 have hdk:dk.toList=Lib.decDigits u:=by
  have h1:=hf.size
  rw[Lib.decDigits_eq, ←hl]
  apply List.ext_getElem?
  intro t
  by_cases ht:t<xs.length
  ·have h2:=hf.done t (Nat.zero_le _) ht
   rw[getElem!_pos dk t (by omega)] at h2
   simp[ht,h1,h2]
  ·rw[List.getElem?_eq_none (by simp;omega),List.getElem?_eq_none (by simp;omega)]
 refine⟨_,⟨rfl,rfl⟩,kD n ?_⟩
 have hr:=hw.read 0 rfl
 have h1:=hw.put 0 rfl (.cells ((Lib.decDigits u).map u8v++rest).toArray T (0,0))
 have e:Go.Sort.putRow (fun b:UInt8=>Value.int .u8 (b.toNat:Int)) w b 0 dk={w with heap:=w.heap.setIfInBounds b (.cells ((Lib.decDigits u).map u8v++rest).toArray T (0,0))}:=by
  obtain⟨hlt,hg⟩:=Array.getElem?_eq_some_iff.1 hr
  simp only[Go.Sort.putRow,Go.Sort.mapBlock]
  congr 1
  apply Array.ext_getElem?
  intro k
  rw[Array.getElem?_modify]
  by_cases hk:b=k
  ·subst hk
   rw[hr]
   have hdk2:dk=(Lib.decDigits u).toArray:=by rw[←hdk]
   rw[hdk2]
   simp only[hlt]
   have hp:=xo (rest:=rest) (show(Lib.decDigits u).length=xs.length by rw[hd,hl])
   simp[hlt]
   show Obj.cells (Go.Sort.putCells _ 0 _ _) T (0,0)=_
   rw[hp]
  ·simp[hk]
 rw[e]
 exact h1
end
theorem Dy{n:Nat}(h:n≤24):(List.replicate n (0:UInt8)).map u8v++List.replicate (24 - n) (u8v 0)=List.replicate 24 (u8v 0):=by
 rw[List.map_replicate,List.replicate_append_replicate,show n+(24 - n)=24 by omega]
theorem xR(B:World)(Fr:List HP)[cF Fr B](gl:GL B)(u:Nat)(hu:u<18446744073709551616):
 ∀ w,Holds B Fr w→Calls Tryz.prog 68 [.int .u64 u,i64 10].toArray w (aZ B Fr (str (Lib.decDigits u))):=by
 refine ak func68 aa ntmps68 aa (ac (ab (kPa aa aa (ad (ac (ac (ab (kPm aa aa (kPv (am aa aa aa) aa (ad (li aa (rfl) ?_)))))))))))
 refine ac (ac (ab (kPm aa aa (kPv (am aa aa aa) aa (ad ?_)))))
 refine aV aa (fun h12=> ?_) (fun h12=> ?_)
 ·have hlt:u<100:=by simp at h12;omega
  refine ac (ab (kPm aa aa (kPv (bY runUnderlying24 runUnderlying3 aa) aa (ap aa (ar call129 aa) (yD _ u (by omega)) .free aa aa ?_))))
  refine kPa aa aa (ad (aj [4,0,1] rfl (au ?_)))
  exact aq results68 aa (fun w hw=>⟨rfl,hw⟩)
 ·have hlt:¬ u<100:=by simp at h12;omega
  have hnd:Lib.nDigits u≤24:=by have:=pC u (by omega);rw[Lib.decDigits_length] at this;omega
  refine aw (ac (ab (kPb (aD zeroValue180 aa) aa fun b5=>(ad (ac (ab (kPm aa aa (ap aa (ar call130 aa) (A8 gl u (by omega) hu) .free aa aa ?_))))))))
  refine kPa aa aa (ad (ac (aK (H':=row b5 ((List.replicate (Lib.nDigits u) 0).map u8v++List.replicate (24 - Lib.nDigits u) (u8v 0)) 180::Fr) (fun w hh=>by rw[Dy hnd];exact hh) (ab (kPm aa aa (kPv (mQ runUnderlying180 sizeOf5 aa .no (.yesi aa aa) (Nat.zero_le _) hnd (.inr aa) aa) aa (kPm aa aa (de aa (ar call131 aa) (BA _ _ _ _ u _ (List.replicate (Lib.nDigits u) 0) _ (by simp) (by simp) hu) .free aa aa ?_))))))))
  refine ad (aj [6,5,4,0,1] rfl (ac (ab (kPm aa aa (kPv (mQ runUnderlying180 sizeOf5 aa .no (.yesi aa aa) (Nat.zero_le _) hnd (.inr aa) aa) aa (kPv (C5 (l:=Lib.decDigits u) runUnderlying85 runUnderlying5 runUnderlying9 aa (Lib.decDigits_length u).symm (SlR.row (by simp[Lib.decDigits_length]) (by simp[Lib.decDigits_length]))) aa (kPa aa aa (ad (au ?_)))))))))
  exact aq results68 aa (fun w hw=>⟨rfl,hw.tail⟩)
theorem tx(B:World)(Fr:List HP)[cF Fr B](gl:GL B)(u:Nat)(hu:u<18446744073709551616):
 ∀ w,Holds B Fr w→Calls Tryz.prog 26 [.int .u64 u,i64 10].toArray w (aZ B Fr (str (Lib.decDigits u))):=by
 refine ak func26 aa ntmps26 aa (ac (ab (kPa aa aa (ad (ac (ab (kPm aa aa (kPm aa aa (ap aa (ar call68 aa) (xR _ _ gl u hu) .free aa aa ?_)))))))))
 refine kPa aa aa (ad (au ?_))
 exact aq results26 aa (fun w hw=>⟨rfl,hw⟩)
theorem CS{l:List UInt8}{c:UInt8}(h:0≤Lib.indexByte l c):(Lib.indexByte l c).toNat<l.length∧Lib.indexByte l c<l.length:=by
 rcases qC l c with h1 | ⟨i,h1,h2⟩
 ·omega
 ·rw[h1];omega
theorem C8{l:List UInt8}(h:0≤Lib.indexByte l 35):l.take (Lib.indexByte l 35).toNat=ee l:=by
 obtain⟨i,hi⟩:=Int.eq_ofNat_of_zero_le h
 rw[hi];exact Al hi
theorem wg{l:List UInt8}{c:UInt8}(h:¬ 0≤Lib.indexByte l c):Lib.indexByte l c= -1:=by
 have:=Lib.indexByte_ge l c
 omega
theorem pD(l:List UInt8):(ee l).length≤l.length:=(List.takeWhile_sublist _).length_le
theorem CH(x:Nat):(((x:Int)==32)||((x:Int)==9))=pB x:=by
 unfold pB
 congr 1
 ·rw[Bool.eq_iff_iff];simp;omega
 ·rw[Bool.eq_iff_iff];simp;omega
theorem yJ(B:World)(Fr:List HP)(l:List UInt8)(hl:l.length≤1000000):
 ∀ w,Holds B Fr w→Calls Tryz.prog 215 [str l,.string ⟨#[35]⟩].toArray w (Ret B (fun v H'=>(∃ a b,v= .tuple #[str (ee l),a,b])∧H'=Fr) (fun _ _=>False)):=by
 refine ak func215 aa ntmps215 aa (ac (ab (kPa aa aa (kPa aa aa (kPa aa aa (ad (ac (ac (ab (kPm aa aa (kPm aa aa ?_)))))))))))
 refine ap aa (ar call235 aa) (yI _ l 35) .free aa aa ?_
 refine kPa aa aa (ad (ac (ab (kPm aa aa (kPv (am aa aa aa) aa (ad ?_))))))
 refine aV aa (fun h12=> ?_) (fun h12=> ?_)
 ·have hge:0≤Lib.indexByte l 35:=by simpa using h12
  obtain⟨hi1,hi2⟩:=CS hge
  refine ac (cN Tryz.mixed (by kernel_rfl) (by kernel_rfl) ?_)
  refine kQm aa aa (kQm aa aa (kQv (qW runUnderlying9 aa aa hge (by omega)) aa (kQm aa aa (kQm aa aa (kQm aa aa (kQv (nS aa runUnderlying9 aa) aa (kQv (iT aa aa (hG (by simp only[List.length_cons,List.length_nil];omega))) aa (kQv (qV runUnderlying9 aa aa (by simp only[List.length_cons,List.length_nil];omega) (by simp only[List.length_cons,List.length_nil];omega)) aa (kQa aa aa (kQa aa aa (kQa aa aa ?_)))))))))))
  refine bM (aj [6,5,4,0] rfl (au ?_))
  exact vK results215 (.tmp aa) (.tmp aa) (.tmp aa) (fun w hw=>⟨_,⟨⟨_,_,by rw[C8 hge]⟩,rfl⟩,hw⟩)
 ·have hlt:¬ 0≤Lib.indexByte l 35:=by simpa using h12
  refine aw (ac (ab (kPm aa aa (kPa aa aa (kPa aa aa (kPa aa aa (ad (aj [6,5,4] rfl (au ?_)))))))))
  exact vK results215 (.tmp aa) (.tmp aa) (.tmp aa) (fun w hw=>⟨_,⟨⟨_,_,by rw[Am (wg hlt)]⟩,rfl⟩,hw⟩)
theorem AR(B:World)(Fr:List HP)(l:List UInt8)(hl:l.length≤1000000):
 ∀ w,Holds B Fr w→Calls Tryz.prog 195 [str l,.string ⟨#[35]⟩].toArray w (Ret B (fun v H'=>(∃ a b,v= .tuple #[str (ee l),a,b])∧H'=Fr) (fun _ _=>False)):=by
 refine ak func195 aa ntmps195 aa (ac (ab (kPa aa aa (kPa aa aa (kPa aa aa (ad (ac (ab (kPm aa aa (kPm aa aa (aE aa (ar call215 aa) (yJ _ _ l hl) .free aa aa ?_)))))))))))
 rintro _ _ ⟨⟨a1,a2,rfl⟩,rfl⟩
 refine kPv (az aa aa) aa (kPv (az aa aa) aa (kPv (az aa aa) aa (kPa aa aa (kPa aa aa (kPa aa aa (ad (aj [6,5,4] rfl (au ?_))))))))
 exact vK results195 (.tmp aa) (.tmp aa) (.tmp aa) (fun w hw=>⟨_,⟨⟨_,_,rfl⟩,rfl⟩,hw⟩)
theorem yj(B:World)(Fr:List HP)(x:Nat):
 ∀ w,Holds B Fr w→Calls Tryz.prog 197 [.int .i32 x].toArray w (aZ B Fr (.bool (pB x))):=by
 refine ak func197 aa ntmps197 aa (ac (ab (kPa aa aa (ad (ac (ab (kPm aa aa (kPv (am aa aa aa) aa (kPm aa aa ?_)))))))))
 apply gJ (tp:=8) (t:=5) (σ1:=[(5,_),(2,_)]) 3 rfl ⟨rfl,rfl,trivial⟩
 ·intro hg1
  refine ao aa (al aa) (.on aa aa (ae hg1)) aa aa (ao aa (am aa aa aa) (.on aa aa (ae hg1)) aa aa (kPv (aJ aa hg1 aa) aa ?_))
  exact bf aa ⟨rfl,rfl,trivial⟩ (ga hg1)
 ·intro hg1
  refine ay aa (.on aa aa (ai hg1)) aa (ay aa (.on aa aa (ai hg1)) aa (kPv (aB aa hg1 aa) aa ?_))
  exact bf aa ⟨rfl,rfl,trivial⟩ (f9 hg1)
 refine kPa aa aa (ad (au ?_))
 exact aq results197 aa (fun w hw=>⟨by rw[CH],hw⟩)
theorem Cu{B:World}(H:List HP)(l:List UInt8)(hl:l.length≤1000000):∀ w,Holds B H w→Calls Tryz.prog 196 [str l,.func (.func 197) #[] #[]].toArray w (Ret B (fun sv H'=>H'=q7 9 sv (tok l none)::H) (fun _ _=>False)):=fun w hw=>by
 refine(Tryz.strings_FieldsFunc_grows 197 #[] call197 pB ⟨l.toArray⟩ w (by rw[iQ];omega) (fun W x _ _=>(yj W [old W] x W (qF W)).mono fun e w' ⟨h1,h2⟩=>⟨h1,h2.oldb⟩)).mono fun e w' ⟨A,h1,_,h3,h4⟩=> ?_
 subst h1
 rw[pv,List.length_map,List.map_map] at h3
 refine⟨_,rfl,?_⟩
 rw[pv,List.length_map]
 exact yx hw h4 h3
theorem ym(B:World)(Fr:List HP)(l:List UInt8)(hl:l.length≤1000000):
 ∀ w,Holds B Fr w→Calls Tryz.prog 165 [str l].toArray w (Ret B (fun sv H'=>H'=q7 9 sv (tok (ee l) none)::Fr) (fun _ _=>False)):=by
 refine ak func165 aa ntmps165 aa (ac (ab (kPa aa aa (ad (ac (ab (kPm aa aa (aE aa (ar call195 aa) (AR _ _ l hl) .free aa aa ?_))))))))
 rintro _ _ ⟨⟨a1,a2,rfl⟩,rfl⟩
 refine kPm aa aa (kPv (az aa aa) aa (kPv (az aa aa) aa (kPv (az aa aa) aa (kPa aa aa (ad (ac (ab (kPm aa aa (aE aa (ar call196 aa) (Cu _ (ee l) (by have:=pD l;omega)) .free aa aa ?_)))))))))
 rintro sv _ rfl
 refine kPa aa aa (ad (aj [2] rfl (au ?_)))
 exact aq results165 aa (fun w hw=>⟨_,rfl,hw⟩)
theorem fc{s:Dev}{c:Cfg}(hc:bx c):(s.block c).1.rts.length≤16:=by
 have:=hc.r2
 unfold Dev.block
 split
 ·exact Nat.zero_le _
 ·rw[aW];omega
theorem fQ{s:Dev}{c:Cfg}(hu:U64 s):∀ x∈(s.block c).1.rts,0≤x∧x<18446744073709551616:=by
 intro x hx
 unfold Dev.block at hx
 split at hx
 ·cases hx
 ·obtain⟨i,_,rfl⟩:=List.mem_map.1 hx
  exact hu.load _
theorem kh{ι:Type}{r:Loop}{cd:ι→Code}{y:Bool×ι}(h:r.state≠ .busy):(lst r cd y).state≠ .busy:=by
 unfold lst;split
 ·exact h
 ·simp
theorem sZ{ι:Type}{r:Loop}{cd:ι→Code}{y:Bool×ι}(h:(lst r cd y).pending=none):y.1=true:=by
 unfold lst at h;split at h
 ·assumption
 ·cases h
theorem kg{ι:Type}{r:Loop}{cd:ι→Code}{y:Bool×ι}{c:Code}(hr:r.pending=none)(h:(lst r cd y).pending=some c):y.1=false∧c=cd y.2:=by
 unfold lst at h;split at h
 ·rw[hr] at h;cases h
 ·rename_i h1;exact⟨by simpa using h1,by simpa using h.symm⟩
def stS(p:dq×Int)(x:List (Int×dq)×Int):Bool×List (Int×dq)×Int:=if p.2≠0 then (false,(x.1,p.2)) else (true,(mset x.1 p.1.2.2 p.1,x.2))
def Dev.startsI(s:Dev)(c:Cfg)(b:Blk):Bool×List (Int×dq)×Int:=itl stS (s.objs c b (b.used.toNat+1) (b.place c 0)) ([],0)
def Dev.starts(s:Dev)(c:Cfg)(b:Blk):List (Int×dq)×Int:=(s.startsI c b).2
theorem wb{α ι:Type}{st:α→ι→Bool×ι}{I:ι→Prop}(h:∀ a x,I x→(st a x).1=true→I (st a x).2):∀ (l:List α) (x:ι),I x→(itl st l x).1=true→I (itl st l x).2
 | [],x,hx,_=>hx
 | a::t,x,hx,h1=>by
   unfold itl at h1 ⊢
   split at h1
   ·rename_i ha;rw[if_pos ha];exact wb h t _ (h a x hx ha) h1
   ·cases h1
theorem xb{s:Dev}{c:Cfg}{b:Blk}(h:(s.startsI c b).1=true):(s.starts c b).2=0:=
 wb (I:=fun x=>x.2=0) (fun a x hx h=>by
  unfold stS at h ⊢;split at h
  ·cases h
  ·rename_i h1;rw[if_neg h1];exact hx) _ _ aa h
theorem vC:∀ (l:List (dq×Int)) (x:List (Int×dq)×Int),(itl stS l x).1=false→¬ (itl stS l x).2.2=0
 | [],x,h=>by cases h
 | a::t,x,h=>by
   unfold itl at h ⊢
   split at h
   ·rename_i ha;rw[if_pos ha];exact vC t _ h
   ·rename_i ha;rw[if_neg ha]
    unfold stS at ha ⊢
    split at ha
    ·rename_i h1;rw[if_pos h1];exact h1
    ·exact absurd aa ha
theorem un{s:Dev}{c:Cfg}{b:Blk}(h:(s.startsI c b).1=false):¬ (s.starts c b).2=0:=vC _ _ h
theorem n3(B:World)(Fr:List HP)(bd:Nat)(s:Dev)(c:Cfg)(hc:bx c)(b:Blk)(sv:Value)(hb:fU c b)(hsv:aN sv=true):
 ∀ w,Holds B (ax bd s::Fr) w→Calls Tryz.prog 159 [ptr bd,dU c,lC b sv].toArray w (Ret B (fun rv H'=>∃ mb,rv= .tuple #[.map (some mb),i64 (s.starts c b).2]∧H'=bB .i64 gL mb (s.starts c b).1::ax bd s::Fr) (fun _ _=>False)):=by
 refine eK func159 aa ntmps159 aa (ac (ab (kPb (aY aa) aa fun b4=>(kPb (aY aa) aa fun b5=>(kPb (cm zeroValue220 aa) aa fun b6=>(kPb (cm zeroValue40 aa) aa fun b7=>(ad (ac (ab (kPb (dP .i64 gL) aa fun mb=>(kPb (cm zeroValue220 aa) aa fun b8=> ?_)))))))))))
 refine kPs (aO sizeOf220 aa aa aa aa) aa (ad (ac (ac (ab (kPm aa aa (kPv (ah isAgg39 sizeOf39 aa aa) aa ?_))))))
 refine kPv (ah isAgg125 sizeOf125 aa aa) aa ?_
 refine aE aa (ar call161 aa) (oc _ _ bd c b sv hsv) .free aa aa ?_
 rintro _ _ ⟨c3,c4,c5,rfl,rfl⟩
 refine ad (aj [15,8,7,6] rfl (aI (kU aa call190 ?_)))
 intro l m tmps hts hkn w hh
 have hk6:=hkn 6 _ rfl
 have hk7:=hkn 7 _ rfl
 have hk8:=hkn 8 _ rfl
 refine(rY B (blk m (.deferred (some []))::row b5 [i64 b.act,i64 b.used,sv] 125::row b4 [i64 c.log,i64 c.roots,i64 c.space] 39::Fr) l 159 c3 c4 c5 bd c hc b sv hb hsv s (List (Int×dq)×Int) _ aa aa (fun x=>True) (fun x=>[bB .i64 gL mb x.1,row b6 [if x.2=0 then .map none else .map (some mb)] 220,row b7 [i64 x.2] 40,row b8 [.map (some mb)] 220]) (fun _=> .ret) stS ([],0) trivial ?_ w (hh.pk [0,1,1,1,7,2,3,2,1])).mono (Ret.mono ?_ fun _ _ h=>h.elim)
 ·intro p x _ _
  refine⟨trivial,fun E=> ?_⟩
  simp only[List.cons_append,List.nil_append]
  refine gI (n:=27) (σ:=[(16,gL p.1),(17,i64 p.2),(6,ptr b6),(7,ptr b7),(8,ptr b8)]) func159 (by simp[fT,hts]) (KnA.knows (by simp[KnA,fT,hts];exact⟨(Array.getElem?_eq_some_iff.1 hk6).2,(Array.getElem?_eq_some_iff.1 hk7).2,(Array.getElem?_eq_some_iff.1 hk8).2⟩)) aa ?_
  refine ac (ab (kPb (aD zeroValue134 aa) aa fun b9=>(kPs (aA (vs:=[i64 p.1.1,i64 p.1.2.1,i64 p.1.2.2]) sizeOf134 aa aa aa aa aa) aa (ad (ab (kPa aa aa (ad (aM [1] (kr (aI (ac ?_)))))))))))
  refine ac (ab (kPm aa aa (kPv (am aa aa aa) aa (ad ?_))))
  refine aV aa (fun h19=> ?_) (fun h19=> ?_)
  ·have h19':p.2≠0:=by simpa using h19
   refine ac (ab (kPv (ag isAgg220 aa aa) aa (kPm aa aa (kPs (aO sizeOf220 aa aa aa aa) aa (kPs (aO sizeOf40 aa aa aa aa) aa (ad (aj [9,6,7,8] rfl (au ?_))))))))
   have hst:stS p x=(false,(x.1,p.2)):=by unfold stS;rw[if_pos h19']
   exact wp fun w hh=>⟨_,⟨by rw[hst],rfl⟩,by rw[hst];rw[if_neg h19'];exact(hh.dp [1])⟩
  ·have h19':p.2=0:=by simpa using h19
   refine aw (ab (kPv (ag isAgg220 aa aa) aa (kPl kA isAgg3 aa aa aa aa (kPv (ah isAgg134 sizeOf134 aa aa) aa ?_))))
   refine kPs (gz (enc:=gL) (u:=p.1) runUnderlying220 runUnderlying3 aa aa aa aa) aa (ad (aj [6,7] rfl ?_))
   have hst:stS p x=(true,(mset x.1 p.1.2.2 p.1,x.2)):=by unfold stS;rw[if_neg (by omega)]
   exact kq fun w hh=>⟨_,⟨by rw[hst],rfl⟩,by rw[hst];exact(hh.dp [1])⟩
 rintro _ _ ⟨_,rfl⟩
 simp only[List.cons_append,List.nil_append]
 refine⟨_,_,fun w hh=>hh,kh (by simp[fT]),fun hp=> ?_,fun c' hc'=> ?_⟩
 rotate_left
 ·obtain⟨h1,rfl⟩:=kg rfl hc'
  refine au ?_
  exact vL results159 (.at 9 .nil) (.aN aa isAgg220 aa) (.aN aa isAgg40 aa) fun w hh=>⟨_,⟨mb,by have hb:=un h1;unfold Dev.starts Dev.startsI at hb ⊢;rw[if_neg hb],rfl⟩,((hh.dp [0,0,0,0,2,2,2,2,2,2]).pk [1])⟩
 have hy:=xb (s:=s) (c:=c) (b:=b) (sZ hp)
 refine ac (ab (kPv (ag isAgg220 aa aa) aa (kPs (aO sizeOf220 aa aa aa aa) aa (kPs (aO sizeOf40 aa aa aa aa) aa (ad (au ?_))))))
 exact vL results159 (.at 9 (.nil)) (.aN aa isAgg220 aa) (.aN aa isAgg40 aa) (fun w hh=>⟨_,⟨mb,by rw[hy],rfl⟩,((hh.dp [0,0,0,0,2,2,2,2,2,2]).pk [1])⟩)
abbrev nF(o:dq):List Value:=[i64 o.1,i64 o.2.1,i64 o.2.2]
theorem rI:nb 3 nF:=⟨fun _=>rfl,fun _=>rfl⟩
theorem mE(o:Option Int):pV i64 (i64 0) o=i64 (o.getD 0):=by cases o<;>rfl
abbrev gZ:=List (Int×Unit)×List dq
def Dev.see(s:Dev)(c:Cfg)(b:Blk)(x:gZ)(v:Int):gZ:=
 if (bG x.1 v).isSome=true∨b.has c v=false then x
 else if (s.objOf c b v).2=0 then (mset x.1 v (),x.2++[(s.objOf c b v).1]) else x
def Dev.namesOf(s:Dev)(o:dq):List Int:=(s.objNames o o.2.1.toNat 0).map fun p=>IntKind.u64.wrap p.2
def Dev.reachL(s:Dev)(c:Cfg)(b:Blk):Nat→gZ→List dq
 | 0,_=>[]
 | f+1,x=>match x.2 with
   | []=>[]
   | o::t=>o::s.reachL c b f ((s.namesOf o).foldl (s.see c b) (x.1,t))
def Dev.reach(s:Dev)(c:Cfg)(b:Blk)(ws:List Int):List dq:=s.reachL c b (b.used.toNat+1) (ws.foldl (s.see c b) ([],[]))
structure pO(s:Dev)(c:Cfg)(b:Blk)(x:gZ):Prop where
 nd:(x.1.map Prod.fst).Nodup
 rng:∀ k∈x.1.map Prod.fst,c.frm b.act≤k∧k<c.frm b.act+b.used
 obj:∀ o∈x.2,k8 o
theorem AQ{s:Dev}{c:Cfg}{b:Blk}:pO s c b ([],[]):=⟨List.nodup_nil,fun _ h=>(by cases h),fun _ h=>(by cases h)⟩
theorem gr{α:Type}{l:List (Int×α)}{k:Int}{a:α}(h:bG l k=none):mset l k a=l++[(k,a)]:=by
 induction l with
 | nil=>rfl
 | cons p t ih=>
   unfold bG at h
   split at h
   ·cases h
   ·rename_i hp;unfold mset;rw[if_neg hp,ih h];rfl
theorem B7{s:Dev}{c:Cfg}(hc:bx c){b:Blk}(hb:fU c b){x:gZ}(h:pO s c b x)(v:Int):pO s c b (s.see c b x v):=by
 unfold Dev.see
 split
 ·exact h
 split
 ·rename_i h1 h2
  have h3:bG x.1 v=none:=by cases hm:bG x.1 v with
   | none=>rfl
   | some _=>exact absurd (.inl (by rw[hm];rfl)) h1
  have h4:b.has c v=true:=by cases hm:b.has c v with
   | true=>rfl
   | false=>exact absurd (.inr hm) h1
  have h5:=kJ hc hb h4
  rw[gr h3]
  refine⟨?_,fun k hk=> ?_,fun o ho=> ?_⟩
  ·rw[List.map_append,List.nodup_append]
   exact⟨h.nd,by simp,fun a ha b' hb'=>by simp at hb';subst hb';intro e;subst e;exact qx h3 ha⟩
  ·rw[List.map_append,List.mem_append] at hk
   rcases hk with hk | hk
   ·exact h.rng k hk
   ·simp at hk;subst hk;omega
  ·rcases List.mem_append.1 ho with ho | ho
   ·exact h.obj o ho
   ·rw[List.mem_singleton.1 ho];exact hZ hc hb h2
 ·exact h
theorem kP:∀ (n:Nat) (a:Int) (l:List Int),l.Nodup→(∀ k∈l,a≤k∧k<a+n)→l.length≤n
 | 0,a,l,_,h=>by
   cases l with
   | nil=>exact Nat.le_refl 0
   | cons x t=>have:=h x (List.mem_cons_self ..);omega
 | n+1,a,l,hn,h=>by
   have h1:=kP n a (l.erase (a+n)) (hn.erase _) fun k hk=>by
    have h2:=h k (List.mem_of_mem_erase hk)
    have h3:k≠a+n:=fun e=>by subst e;exact(List.Nodup.not_mem_erase hn) hk
    omega
   have h4:l.length≤(l.erase (a+n)).length+1:=by rw[List.length_erase];split<;>omega
   omega
theorem lN{s:Dev}{c:Cfg}{b:Blk}(hb:fU c b){x:gZ}(h:pO s c b x):x.1.length≤b.used.toNat:=by
 have h1:=hb.used
 have:=kP b.used.toNat (c.frm b.act) _ h.nd fun k hk=>by have:=h.rng k hk;omega
 simpa using this
def yL(b:Blk)(x:gZ):Nat:=b.used.toNat+x.2.length - x.1.length
theorem yN{s:Dev}{c:Cfg}{b:Blk}(x:gZ)(v:Int):(s.see c b x v).2.length+x.1.length=x.2.length+(s.see c b x v).1.length:=by
 unfold Dev.see
 split
 ·omega
 split
 ·rename_i h1 h2
  have h3:bG x.1 v=none:=by cases hm:bG x.1 v with
   | none=>rfl
   | some _=>exact absurd (.inl (by rw[hm];rfl)) h1
  rw[gr h3];simp;omega
 ·omega
theorem qQ{s:Dev}{c:Cfg}{b:Blk}:∀ (l:List Int) (x:gZ),(l.foldl (s.see c b) x).2.length+x.1.length=x.2.length+(l.foldl (s.see c b) x).1.length
 | [],_=>rfl
 | v::t,x=>by
   have h1:=qQ (s:=s) (c:=c) (b:=b) t (s.see c b x v)
   have h2:=yN (s:=s) (c:=c) (b:=b) x v
   rw[List.foldl_cons];omega
theorem yM(B:World)(Fr:List HP)(c1 c2 c3 c4 c5 mr bd:Nat)(s:Dev)(c:Cfg)(hc:bx c)(b:Blk)(sv:Value)(hb:fU c b)(hsv:aN sv=true)(x:gZ)(hxl:x.2.length≤1000000)(v:Int)(hv:0≤v∧v<18446744073709551616):
 ∀ w,Holds B (row c1 [.map (some mr)] 253::row c2 [i64 b.act,i64 b.used,sv] 125::row c3 [i64 c.log,i64 c.roots,i64 c.space] 39::row c4 [ptr bd] 53::m6 254 134 3 nF c5 x.2::bB .u64 cj mr x.1::ax bd s::Fr) w→Calls Tryz.prog 181 [w64 v,ptr c1,ptr c2,ptr c3,ptr c4,ptr c5].toArray w (Ret B (fun _ H'=>H'=row c1 [.map (some mr)] 253::row c2 [i64 b.act,i64 b.used,sv] 125::row c3 [i64 c.log,i64 c.roots,i64 c.space] 39::row c4 [ptr bd] 53::m6 254 134 3 nF c5 (s.see c b x v).2::bB .u64 cj mr (s.see c b x v).1::ax bd s::Fr) (fun _ _=>False)):=by
 refine ak func181 aa ntmps181 aa (ac (ac (ab (kPv (ag isAgg253 aa aa) aa (kPm aa aa (kPv ((eR runUnderlying253 runUnderlying24 zeroValue171 aa aa).eq (vW _)) aa (kPm aa aa (kPv (az aa aa) aa (kPv (az aa aa) aa (kPb (aD zeroValue171 aa) aa fun b7=>(kPs (aA (vs:=[]) sizeOf171 aa aa aa aa aa) aa ?_)))))))))))
 refine kPa aa aa (ad (aj [8,0,1,2,3,4,5] rfl (ac (ab (kPm aa aa (kPm aa aa ?_))))))
 apply gJ (tp:=24) (t:=18) (σ1:=[(18,_),(0,_),(1,_),(2,_),(3,_),(4,_),(5,_)]) 6 rfl (aG rfl)
 ·intro hg1
  refine ao aa (ah isAgg125 sizeOf125 aa aa) (.on aa aa (ae hg1)) aa aa ?_
  refine ao aa (ah isAgg39 sizeOf39 aa aa) (.on aa aa (ae hg1)) aa aa ?_
  refine ao aa (al aa) (.on aa aa (ae hg1)) aa aa (ap aa (ar call98 aa) (pj _ _ c hc b sv hb hsv _ hv) (.on aa aa (ae hg1)) aa aa ?_)
  refine ao aa (bu aa) (.on aa aa (ae hg1)) aa aa (kPv (aJ aa hg1 aa) aa ?_)
  exact bf aa (aG aa) (ga hg1)
 ·intro hg1
  refine ay aa (.on aa aa (ai hg1)) aa (ay aa (.on aa aa (ai hg1)) aa (ay aa (.on aa aa (ai hg1)) aa (ay aa (.on aa aa (ai hg1)) aa (ay aa (.on aa aa (ai hg1)) aa (kPv (aB aa hg1 aa) aa ?_)))))
  exact bf aa (aG aa) (f9 hg1)
 refine ad ?_
 refine aV aa (fun h24=> ?_) (fun h24=> ?_)
 ·have h1:(bG x.1 v).isSome=true∨b.has c v=false:=by simpa using h24
  have hres:s.see c b x v=x:=by unfold Dev.see;rw[if_pos h1]
  refine au ?_
  exact ja results181 (fun w hh=>⟨_,rfl,by rw[hres];exact(hh.dp [0])⟩)
 ·have h1:¬((bG x.1 v).isSome=true∨b.has c v=false):=by simpa using h24
  have hh0:b.has c v=true:=by cases hm:b.has c v with
   | true=>rfl
   | false=>exact absurd (.inr hm) h1
  have hvb:=kJ hc hb hh0
  refine aw (ac (ab (kPv (ag isAgg53 aa aa) aa (kPv (ah isAgg39 sizeOf39 aa aa) aa ?_))))
  refine kPv (ah isAgg125 sizeOf125 aa aa) aa ?_
  refine kPm aa aa (kPv (bY runUnderlying24 runUnderlying3 aa) aa (ap aa (ar call143 aa) (bF (q:=ax) (fun Fr=>kc _ Fr _ _ c hc b sv hb hsv v (by omega))) .free aa aa ?_))
  refine kPm aa aa (kPv (az aa aa) aa (kPv (az aa aa) aa (kPb (aD zeroValue134 aa) aa fun b9=>(kPs (aA (vs:=_) sizeOf134 aa aa aa aa aa) aa (kPa aa aa (ad (aj [10,9,0,1,5] rfl (ac (ab (kPm aa aa (kPv (am aa aa aa) aa ?_)))))))))))
  refine ad ?_
  refine aV aa (fun h35=> ?_) (fun h35=> ?_)
  ·have h2:(s.objOf c b v).2=0:=by simpa using h35
   have hres:s.see c b x v=(mset x.1 v (),x.2++[(s.objOf c b v).1]):=by unfold Dev.see;rw[if_neg h1,if_pos h2]
   refine ac (ab (kPv (ag isAgg253 aa aa) aa (kPm aa aa (kPv (aR aa (nX)) aa (kPs (gz (enc:=cj) (u:=()) runUnderlying253 runUnderlying24 aa aa aa aa) aa (ad (aj [9,5] rfl (ab (aM [6] (wn fun rv hrv=>(kPv (ag isAgg254 aa aa) aa ?_)))))))))))
   refine kPv (ah isAgg134 sizeOf134 aa aa) aa ?_
   refine kPb (pG rI (v:=(s.objOf c b v).1) runUnderlying254 sizeOf134 zeroValue134 ⟨⟨by decide,by decide⟩,rfl⟩ rfl aa) aa fun b41=>(aM [2] (cX aa (kH rI (ys:=[(s.objOf c b v).1]) aa aa runUnderlying254 runUnderlying254 ⟨_,rfl⟩ sizeOf134 zeroValue134 aa Cl aa aa (SlM.row (b:=b41) aa aa) (Nat.succ_pos _) (by simp;omega)) .free aa aa ?_))
   rintro rv2 _ ⟨hrv2,rfl⟩
   refine kPs (aO sizeOf254 aa aa (by first | rfl | assumption) rfl) rfl ?_;refine ad ?_
   exact cG results181 (fun w hh=>⟨_,rfl,by rw[hres];exact(lm hrv2 ((hh.dp [1,2,2]).pk [1])).pk [1,1,1,1]⟩)
  ·have h2:¬ (s.objOf c b v).2=0:=by simpa using h35
   have hres:s.see c b x v=x:=by unfold Dev.see;rw[if_neg h1,if_neg h2]
   refine aw ?_
   exact cG results181 (fun w hh=>⟨_,rfl,by rw[hres];exact(hh.dp [0,0])⟩)
theorem o9{α ι:Type}{f:ι→α→ι}:∀ (l:List α) (x:ι),itl (fun p x=>(true,f x p)) l x=(true,l.foldl f x)
 | [],_=>rfl
 | a::t,x=>by unfold itl;rw[if_pos rfl];exact o9 t _
theorem Be{α ι:Type}{st:α→ι→Bool×ι}{a:α}{t:List α}{x:ι}(h:(st a x).1=true):itl st (a::t) x=itl st t (st a x).2:=by
 conv=>lhs;unfold itl
 rw[if_pos h]
theorem Cj(v:Int):0≤IntKind.u64.wrap v∧IntKind.u64.wrap v<18446744073709551616:=by
 simp[IntKind.wrap,IntKind.bits,IntKind.signed]
 omega
theorem oF{s:Dev}{c:Cfg}{b:Blk}{x:gZ}(h:x.2=[]):∀ n,s.reachL c b n x=[]
 | 0=>rfl
 | n+1=>by unfold Dev.reachL;rw[h]
theorem w6(B:World)(E:List HP)(l f b1 b2 b3 b4 bd:Nat)(c:Cfg)(hc:bx c)(b:Blk)(sv:Value)(hb:fU c b)(hsv:aN sv=true)(s:Dev)(q:Option Addr)(cap:Nat)(ws:List Int)(hws:∀ v∈ws,0≤v∧v<18446744073709551616)(hwn:ws.length≤1000000)(hwq:∀ i,i<ws.length→∃ b off,q=some ⟨b,off,none⟩)(ι:Type)(r:Loop)(hrf:r.fn=f)(hrp:r.params.size=1)(I:ι→Prop)(Hx:ι→List HP)(cd:ι→Code)(st:dq→ι→Bool×ι)(y0:ι)(h0:I y0)(hwl:SlR B (Hx y0++E) (.slice q ws.length cap) (ws.map w64))(hround:∀ (p:dq) (x:ι),k8 p→I x→I (st p x).2∧∀ (E:List HP) w,Holds B (blk l (.loop r)::ax bd s::(Hx x++E)) w→RoundIn (Wd (cxF f)) 0 Tryz.prog l f ((r.params.zip [gL p].toArray).foldl (fun tmps (t,a)=>tmps.setIfInBounds t a) r.tmps) r.assign r.body w (Ret B (fun rv H'=>rv= .bool (st p x).1∧H'=blk l (.loop (lst r cd (st p x)))::ax bd s::(Hx (st p x).2++E)) (fun _ _=>False))):
 ∀ w,Holds B (blk l (.loop r)::row b1 [i64 b.act,i64 b.used,sv] 125::row b2 [i64 c.log,i64 c.roots,i64 c.space] 39::row b3 [ptr bd] 53::row b4 [.slice q ws.length cap] 22::ax bd s::(Hx y0++E)) w→Calls Tryz.prog 180 [.func (.yield l) #[] #[],ptr b1,ptr b2,ptr b3,ptr b4].toArray w (Ret B (fun _ H'=>I (itl st (s.reach c b ws) y0).2∧H'=blk l (.loop (lst r cd (itl st (s.reach c b ws) y0)))::ax bd s::(Hx (itl st (s.reach c b ws) y0).2++E)) (fun _ _=>False)):=by
 refine eK func180 aa ntmps180 aa ?_
 have hbu:=hb.used
 have hcs:=hc.s2
 refine ac (ab (kPb (dP .u64 cj) aa fun mr=>(kPb (cm zeroValue253 aa) aa fun b6=> ?_)))
 refine kPs (aO sizeOf253 aa aa (by first | rfl | assumption) rfl) rfl ?_;refine ad ?_;refine ac ?_;refine ab ?_;refine kPb (cm zeroValue254 aa) aa fun b7=> ?_;refine aK (fun w hh=>yo (α:=dq) (T:=134) (m:=3) (enc:=nF) hh) ?_;refine ad ?_;refine ac ?_
 refine ab (kPv (c7 aa aa) aa (kPb (cm zeroValue255 aa) aa fun b8=> ?_))
 refine kPs (aO sizeOf255 aa aa (by first | rfl | assumption) rfl) rfl ?_;refine ad ?_;refine ac ?_;refine ac ?_;refine ab ?_;refine kPv (ag isAgg22 aa aa) aa ?_;refine kPv (bS aa runUnderlying22 ⟨_,rfl⟩ rfl) aa ?_;refine kPm aa aa ?_;refine ad ?_;refine aI ?_
 refine df (ι:=Nat×gZ) [17,16,8,7,0,3] (fun (k,x)=>(k≤ws.length)∧(x=(ws.take k).foldl (s.see c b) ([],[]))∧(pO s c b x)∧(x.2.length≤x.1.length)) (fun (k,x)=>[(18,i64 k)]) (fun (k,x)=>row b6 [.map (some mr)] 253::row b1 [i64 b.act,i64 b.used,sv] 125::row b2 [i64 c.log,i64 c.roots,i64 c.space] 39::row b3 [ptr bd] 53::m6 254 134 3 nF b7 x.2::bB .u64 cj mr x.1::ax bd s::row b8 [.func (.func 181) #[] #[ptr b6,ptr b1,ptr b2,ptr b3,ptr b7]] 255::blk l (.loop r)::row b4 [.slice q ws.length cap] 22::(Hx y0++E)) (fun (k,x)=>ws.length - k) (0,([],[])) (⟨Nat.zero_le _,rfl,AQ,Nat.le_refl _⟩) (fun a w st=>st.to ⟨rfl,trivial⟩ (fun hh=>(hh.pk [2,4,4,4,1,1,3]))) ?_
 rintro⟨k,x⟩ ⟨hk0,hxe,hxw,hxl⟩
 try simp only at hk0 hxe hxw hxl ⊢
 refine cE (σ':=[(18,i64 k),(17,_),(16,_),(8,_),(7,_),(0,_),(3,_)]) (aG aa) (ac (ab (kPv (am aa aa aa) aa (ad (ac ?_)))))
 refine aV aa (fun h19=> ?_) (fun h19=> ?_)
 ·have hk:k<ws.length:=by simp at h19;omega
  obtain⟨bq,oq,rfl⟩:=hwq k hk
  have hsl:=lN hb hxw
  refine aw (ac (aI (ac (ab (kPv (cC runUnderlying22 sizeOf24 aa aa (by omega) (by omega)) aa ?_)))))
  refine kPv (cf (v:=w64 ws[k]) isAgg24 (hwl.up) aa (by rw[Int.toNat_natCast,List.getElem?_map,List.getElem?_eq_getElem hk];rfl)) aa ?_
  refine kPa aa aa (ad (ab (kPv (ag isAgg255 aa aa) aa (kPm aa aa ?_))))
  refine aQ aa (fa call181 aa aa) (yM B _ b6 b1 b2 b3 b7 mr bd s c hc b sv hb hsv x (by omega) ws[k] (hws _ (List.getElem_mem hk))) .free aa aa ?_ ?_
  rotate_left
  ·rintro _ _ ⟨⟩
  rintro _ _ rfl
  have hm1:=yN (s:=s) (c:=c) (b:=b) x ws[k]
  refine ad (aj [18,17,16,8,7,0,3] rfl (ab (kPv (aP aa aa) aa (kPm aa aa (ad ?_)))))
  exact fun a w st_=>⟨(k+1,(s.see c b x ws[k])),⟨by omega,by rw[hxe,List.take_succ_eq_append_getElem hk,List.foldl_append];rfl,B7 hc hb hxw _,by simp only;omega⟩,by simp only;omega,st_.to (aG aa) (fun hh=>hh)⟩
 ·have hk:¬ k<ws.length:=by simp at h19;omega
  obtain rfl:k=ws.length:=by omega
  rw[List.take_length] at hxe
  refine bJ (aI (tw (ι:=gZ×ι×Nat×List Nat) [8,7,0,3] (fun (x,y,n,ms)=>(pO s c b x)∧(x.2.length≤x.1.length)∧(I y)∧(yL b x<n)∧(itl st (s.reach c b ws) y0=itl st (s.reachL c b n x) y)) (fun (x,y,n,ms)=>uM ms) (fun (x,y,n,ms)=>[]) (fun (x,y,n,ms)=>blk l (.loop r)::ax bd s::row b6 [.map (some mr)] 253::row b1 [i64 b.act,i64 b.used,sv] 125::row b2 [i64 c.log,i64 c.roots,i64 c.space] 39::row b3 [ptr bd] 53::m6 254 134 3 nF b7 x.2::bB .u64 cj mr x.1::row b8 [.func (.func 181) #[] #[ptr b6,ptr b1,ptr b2,ptr b3,ptr b7]] 255::row b4 [.slice q ws.length cap] 22::gt ms::(Hx y++E)) (fun (x,y,n,ms)=>n) (x,y0,b.used.toNat+1,[]) (⟨hxw,hxl,h0,by unfold yL;omega,by rw[hxe];rfl⟩) (fun a w st=>st.to trivial (fun hh=>((uL (hh.pk [8,6])).pk [1,1,1,1,1,1,1,1,1,1]))) ?_))
  rintro⟨x,y,n,ms⟩ ⟨hxw,hxl,hIy,hn,hinv⟩
  try simp only at hxw hxl hIy hn hinv ⊢
  refine cE (σ':=[(8,_),(7,_),(0,_),(3,_)]) (aG aa) (ac (ac (aM [6] (wn fun rv hrv=>(aM [1] (pl fun q2 cap2 hq2 hqi=> ?_))))))
  subst hq2
  refine ab (kPv (ag isAgg254 aa aa) aa (kPv (bS aa runUnderlying254 ⟨_,rfl⟩ rfl) aa (kPv (am aa aa aa) aa (ad ?_))))
  refine aV aa (fun h28=> ?_) (fun h28=> ?_)
  ·obtain⟨x1,x2⟩:=x
   obtain⟨o,t,rfl⟩:∃ o t,x2=o::t:=by
    cases x2 with
    | nil=>simp at h28
    | cons o t=>exact⟨o,t,rfl⟩
   obtain⟨bq2,oq2,rfl⟩:=hqi 0 (Nat.succ_pos _)
   have ho:k8 o:=hxw.obj o (List.mem_cons_self ..)
   obtain⟨n,rfl⟩:∃ m,n=m+1:=⟨n - 1,by omega⟩
   have hrl:s.reachL c b (n+1) (x1,o::t)=o::s.reachL c b n ((s.namesOf o).foldl (s.see c b) (x1,t)):=rfl
   have hIy2:=(hround o y ho hIy).1
   simp only at hrv hxl ⊢
   refine aw (aI (ac (ab (kPv (ag isAgg254 aa aa) aa (kPv (qY (m:=oq2+0*3) runUnderlying254 sizeOf134 aa aa (by decide) (by simp only[List.length_cons];omega) aa) aa (kPv (mj (i:=0) isAgg134 sizeOf134 (lH rI 0 aa) aa aa) aa (kPb (aD zeroValue134 aa) aa fun b11=>(kPs (aA (vs:=_) sizeOf134 aa aa aa aa aa) aa (ad (ac (ab ?_)))))))))))
   refine kPv (ag isAgg254 aa aa) aa (aM [1] (cX aa (rQ rI (v:=o) (xs:=t) runUnderlying254 sizeOf134 aa aa) .free aa aa ?_))
   rintro rv3 _ ⟨hrv3,rfl⟩
   refine kPs (aO sizeOf254 aa aa (by first | rfl | assumption) rfl) rfl ?_;refine ad ?_;refine aj [11,8,7,0,3] rfl ?_;refine ac ?_;refine ac ?_;refine aM [2,0] ?_;refine aK (fun w hh=>lm hrv3 hh) ?_;refine aM [2,2,1,1,1,1,1] ?_;refine ab ?_;refine kPm aa aa ?_;refine kPv (ah isAgg134 sizeOf134 aa aa) aa ?_
   refine fZ (f:=f) (r:=r) (H1:=ax bd s::(Hx y++([row b11 [i64 o.1,i64 o.2.1,i64 o.2.2] 134,row b6 [.map (some mr)] 253,row b1 [i64 b.act,i64 b.used,sv] 125,row b2 [i64 c.log,i64 c.roots,i64 c.space] 39,row b3 [ptr bd] 53,m6 254 134 3 nF b7 t,bB .u64 cj mr x1,row b8 [.func (.func 181) #[] #[ptr b6,ptr b1,ptr b2,ptr b3,ptr b7]] 255,row b4 [.slice q ws.length cap] 22,gt ms]++E))) aa aa (fun w hh=>(Holds.hop [row b11 [i64 o.1,i64 o.2.1,i64 o.2.2] 134,row b6 [.map (some mr)] 253,row b1 [i64 b.act,i64 b.used,sv] 125,row b2 [i64 c.log,i64 c.roots,i64 c.space] 39,row b3 [ptr bd] 53,m6 254 134 3 nF b7 t,bB .u64 cj mr x1,row b8 [.func (.func 181) #[] #[ptr b6,ptr b1,ptr b2,ptr b3,ptr b7]] 255,row b4 [.slice q ws.length cap] 22,gt ms] (Hx y) hh)) (by rw[hrp];rfl) hrf ((hround o y ho hIy).2 ([row b11 [i64 o.1,i64 o.2.1,i64 o.2.2] 134,row b6 [.map (some mr)] 253,row b1 [i64 b.act,i64 b.used,sv] 125,row b2 [i64 c.log,i64 c.roots,i64 c.space] 39,row b3 [ptr bd] 53,m6 254 134 3 nF b7 t,bB .u64 cj mr x1,row b8 [.func (.func 181) #[] #[ptr b6,ptr b1,ptr b2,ptr b3,ptr b7]] 255,row b4 [.slice q ws.length cap] 22,gt ms]++E)) .free aa ?_ ?_
   rotate_left
   ·rintro _ _ ⟨⟩
   rintro _ _ ⟨rfl,rfl⟩
   refine aK (H':=blk l (.loop (lst r cd (st o y)))::ax bd s::([row b11 [i64 o.1,i64 o.2.1,i64 o.2.2] 134,row b6 [.map (some mr)] 253,row b1 [i64 b.act,i64 b.used,sv] 125,row b2 [i64 c.log,i64 c.roots,i64 c.space] 39,row b3 [ptr bd] 53,m6 254 134 3 nF b7 t,bB .u64 cj mr x1,row b8 [.func (.func 181) #[] #[ptr b6,ptr b1,ptr b2,ptr b3,ptr b7]] 255,row b4 [.slice q ws.length cap] 22,gt ms]++(Hx (st o y).2++E))) (fun w hh=>Holds.hop (Hx (st o y).2) [row b11 [i64 o.1,i64 o.2.1,i64 o.2.2] 134,row b6 [.map (some mr)] 253,row b1 [i64 b.act,i64 b.used,sv] 125,row b2 [i64 c.log,i64 c.roots,i64 c.space] 39,row b3 [ptr bd] 53,m6 254 134 3 nF b7 t,bB .u64 cj mr x1,row b8 [.func (.func 181) #[] #[ptr b6,ptr b1,ptr b2,ptr b3,ptr b7]] 255,row b4 [.slice q ws.length cap] 22,gt ms] hh) ?_
   simp only[List.cons_append,List.nil_append]
   refine kPv (bu aa) aa (ad ?_)
   refine aV aa (fun h37=> ?_) (fun h37=> ?_)
   ·have hg:(st o y).1=false:=by simpa using h37
    refine au ?_
    exact uB results180 (sX 11) (fun w hh=>⟨_,⟨by rw[hinv,hrl,zs hg];exact hIy2,by rw[hinv,hrl,zs hg]⟩,(hh.dp [2,2,2,2,2,2,2,2,2])⟩)
   ·have hg:(st o y).1=true:=by simpa using h37
    refine aw (ac (ab (kPv (ah isAgg134 sizeOf134 aa aa) aa ?_)))
    refine kPv (ag isAgg53 aa aa) aa (aE aa (ar call182 aa) (qj _ _ o bd) .free aa aa ?_)
    rintro _ _ ⟨n1,n2,rfl,rfl⟩
    refine ad (aj [40,8,7,0,3] rfl (aI (kU aa call206 ?_)))
    intro l2 m tmps hts hkn w hh
    have hk8:=hkn 8 _ rfl
    have hlr:lst r cd (st o y)=r:=by unfold lst;rw[if_pos hg]
    have hh2:=((hh.dp [6]).pk [0,1,1,2,2,2,2,2,2,2,2,1,1,1])
    rw[hlr] at hh2
    refine(y9 B l2 180 n1 n2 bd o ho s gZ _ aa aa (fun x=>x.2.length≤x.1.length∧pO s c b x) (fun x=>row b6 [.map (some mr)] 253::row b1 [i64 b.act,i64 b.used,sv] 125::row b2 [i64 c.log,i64 c.roots,i64 c.space] 39::row b3 [ptr bd] 53::m6 254 134 3 nF b7 x.2::bB .u64 cj mr x.1::row b8 [.func (.func 181) #[] #[ptr b6,ptr b1,ptr b2,ptr b3,ptr b7]] 255::blk l (.loop r)::row b4 [.slice q ws.length cap] 22::gt ms::blk m (.deferred (some []))::(Hx (st o y).2++E)) (fun _=> .ret) (fun (p:Int×Int) (x:gZ)=>(true,s.see c b x (IntKind.u64.wrap p.2))) (x1,t) ?_ ?_ w hh2).mono (Ret.mono ?_ fun _ _ h=>h.elim)
    ·exact⟨by simp only[List.length_cons] at hxl;simp only;omega,⟨hxw.nd,hxw.rng,fun o' ho'=>hxw.obj o' (List.mem_cons_of_mem _ ho')⟩⟩
    ·rintro p x ⟨hxl,hxw⟩
     have hsl:=lN hb hxw
     have hm1:=yN (s:=s) (c:=c) (b:=b) x (IntKind.u64.wrap p.2)
     refine⟨⟨by simp only;omega,B7 hc hb hxw _⟩,?_⟩
     refine gI (n:=47) (σ:=[(41,i64 p.1),(42,i64 p.2),(8,ptr b8)]) func180 (by simp[fT,hts]) (KnA.knows (by simp[KnA,fT,hts];exact(Array.getElem?_eq_some_iff.1 hk8).2)) aa ?_;refine ab ?_;refine kPa aa aa ?_;refine ad ?_;refine kr ?_;refine aI ?_;refine ab ?_;refine kPv (ag isAgg255 aa aa) aa ?_;refine kPm aa aa ?_;refine kPv (bY runUnderlying3 runUnderlying24 aa) aa ?_
     refine aM [4,4,4,4,4,4,3] ?_
     refine aQ aa (fa call181 aa aa) (yM B _ b6 b1 b2 b3 b7 mr bd s c hc b sv hb hsv x (by omega) (IntKind.u64.wrap p.2) (Cj _)) .free aa aa ?_ ?_
     rotate_left
     ·rintro _ _ ⟨⟩
     rintro _ _ rfl
     refine ad (aj [] rfl (aM [7] ?_))
     exact kq fun w hh=>⟨_,⟨rfl,rfl⟩,(hh.pk [0,7,7,6])⟩
    rintro _ _ ⟨⟨hxl2,hxw2⟩,rfl⟩
    rw[o9] at hxl2 hxw2 ⊢
    have hfe:List.foldl (fun x (p:Int×Int)=>s.see c b x (IntKind.u64.wrap p.2)) (x1,t) (s.objNames o o.2.1.toNat 0)=(s.namesOf o).foldl (s.see c b) (x1,t):=by unfold Dev.namesOf;rw[List.foldl_map]
    rw[hfe] at hxl2 hxw2 ⊢
    have hm2:=qQ (s:=s) (c:=c) (b:=b) (s.namesOf o) (x1,t)
    simp only at hxl2 hxw2 hm2
    have hs1:=lN hb hxw2
    have hs2:=lN hb hxw
    simp only at hs1 hs2
    refine⟨_,_,fun w hh=>hh,kh (by simp[fT]),fun hp=> ?_,fun c' hc'=>absurd (kg aa hc').1 (fun h=>Bool.noConfusion h)⟩
    exact fun a w st_=>⟨(_,(st o y).2,n,m::ms),⟨hxw2,hxl2,hIy2,by unfold yL at hn ⊢;simp only[List.length_cons] at hn ⊢;omega,by rw[hinv,hrl,Be hg]⟩,by simp only;omega,st_.to (aG aa) (fun hh=>((sY ((hh.dp [0,0,0]).pk [11,10,8])).pk [1,1,1,1,1,1,1,1,1,1]))⟩
  ·have hxn:x.2=[]:=by
    cases hx2:x.2 with
    | nil=>rfl
    | cons o t=>rw[hx2] at h28;simp at h28
   refine bJ ?_
   exact lA results180 (sX 11) (fun w hh=>⟨_,⟨by rw[hinv,oF hxn];exact hIy,by rw[hinv,oF hxn];rfl⟩,(hh.dp [0,0,2,2,2,2,2,2,2])⟩)
theorem rZ(B:World)(H:List HP)(bd:Nat)(c:Cfg)(b:Blk)(sv:Value)(hsv:aN sv=true)(wv:Value)(hwv:aN wv=true):
 ∀ w,Holds B H w→Calls Tryz.prog 148 [ptr bd,dU c,lC b sv,wv].toArray w (Ret B (fun v H'=>∃ b1 b2 b3 b4,v= .func (.func 180) [].toArray [ptr b1,ptr b2,ptr b3,ptr b4].toArray∧H'=row b4 [wv] 22::row b1 [i64 b.act,i64 b.used,sv] 125::row b2 [i64 c.log,i64 c.roots,i64 c.space] 39::row b3 [ptr bd] 53::H) (fun _ _=>False)):=by
 refine ak func148 aa ntmps148 aa (ac (ab (kPb (dA aa aa) aa fun b4=>(kPb (aY aa) aa fun b5=>(kPb (aY aa) aa fun b6=>(kPb (dA aa hwv) aa fun b7=>(kPa aa aa (ad (ac (ab (kPv (c7 aa aa) aa ?_)))))))))))
 refine kPa aa aa (ad (aj [8] rfl (au ?_)))
 exact aq results148 aa (fun w hw=>⟨_,⟨_,_,_,_,rfl,rfl⟩,hw⟩)
def yK(n:Int)(o:dq):Int:=IntKind.i64.wrap (n+(o.1+1))
def Dev.reachSize(s:Dev)(c:Cfg)(b:Blk)(ws:List Int):Int:=(s.reach c b ws).foldl yK 0
theorem n4(B:World)(Fr:List HP)(bd:Nat)(c:Cfg)(hc:bx c)(b:Blk)(sv:Value)(hb:fU c b)(hsv:aN sv=true)(s:Dev)(q:Option Addr)(cap:Nat)(ws:List Int)(hws:∀ v∈ws,0≤v∧v<18446744073709551616)(hwn:ws.length≤1000000)(hwq:∀ i,i<ws.length→∃ b off,q=some ⟨b,off,none⟩)(hwl:SlR B Fr (.slice q ws.length cap) (ws.map w64)):
 ∀ w,Holds B (ax bd s::Fr) w→Calls Tryz.prog 85 [ptr bd,dU c,lC b sv,.slice q ws.length cap].toArray w (aZ B (ax bd s::Fr) (i64 (s.reachSize c b ws))):=by
 refine eK func85 aa ntmps85 aa (ac (ab (kPb (aY aa) aa fun b5=>(kPb (aY aa) aa fun b6=>(kPa aa aa (ad (ac (ab (kPb (cm zeroValue3 aa) aa fun b9=>(kPs (aO sizeOf3 aa aa aa aa) aa (ad ?_)))))))))))
 refine ac (ac (ab (kPm aa aa (kPv (ah isAgg39 sizeOf39 aa aa) aa ?_))))
 refine kPv (ah isAgg125 sizeOf125 aa aa) aa ?_
 refine kPm aa aa (aE aa (ar call148 aa) (rZ _ _ bd c b sv hsv (.slice q ws.length cap) aa) .free aa aa ?_)
 rintro _ _ ⟨c1,c2,c3,c4,rfl,rfl⟩
 refine ad (aj [15,9,8] rfl (aI (kU aa call180 ?_)))
 intro l m tmps hts hkn w hh
 have hk9:=hkn 9 _ rfl
 refine(w6 B (blk m (.deferred (some []))::Fr) l 85 c1 c2 c3 c4 bd c hc b sv hb hsv s q cap ws hws hwn hwq Int _ aa aa (fun x=>True) (fun x=>[row b9 [i64 x] 3]) (fun _=> .ret) (fun o x=>(true,yK x o)) 0 trivial ((hwl.cons _).cons _) ?_ w ((hh.dp [7,7]).pk [0,2,2,2,1,2,1])).mono (Ret.mono ?_ fun _ _ h=>h.elim)
 ·intro o x ho _
  have ho1:=ho.w
  refine⟨trivial,fun E=> ?_⟩
  simp only[List.cons_append,List.nil_append]
  refine gI (n:=23) (σ:=[(16,gL o),(9,ptr b9)]) func85 (by simp[fT,hts]) (KnA.knows (by simp[KnA,fT,hts];exact(Array.getElem?_eq_some_iff.1 hk9).2)) aa ?_;refine ab ?_;refine kPb (aD zeroValue134 aa) aa fun b10=> ?_;refine kPs (aA (vs:=_) sizeOf134 aa aa aa aa aa) aa ?_;refine ad ?_;refine aM [1] ?_;refine kr ?_;refine aI ?_;refine cH 5 Tryz.mixed (by kernel_rfl) (by kernel_rfl) ?_
  refine kQv (ag isAgg3 aa aa) aa (kQv (aC (m:=_) eN aa aa) aa (kQv (ah isAgg63 sizeOf63 aa aa) aa ?_))
  refine bj aa (ar call138 aa) (eJ _ _ _ _ (by omega)) .free aa ?_
  refine kQv (iT (c:=yK x o) aa aa aa) aa (bM (kPs (aO sizeOf3 aa aa aa aa) aa (ad (aj [] rfl ?_))))
  exact kq fun w hh=>⟨_,⟨rfl,rfl⟩,(hh.dp [1])⟩
 rintro _ _ ⟨_,rfl⟩
 rw[o9]
 simp only[List.cons_append,List.nil_append]
 refine⟨_,_,fun w hh=>hh,kh (by simp[fT]),fun hp=> ?_,fun c' hc'=>absurd (kg aa hc').1 (fun h=>Bool.noConfusion h)⟩
 refine ac (ab (kPv (ag isAgg3 aa aa) aa (kPa aa aa (ad (au ?_)))))
 exact fM results85 aa (.at 3 (.nil)) (fun w hh=>⟨rfl,(hh.dp [0,1,1])⟩)
structure bC where
 bd:Nat
 c:Cfg
 b:Blk
 to_:Int
 scan:Int
 free:Int
 todo:List Int
 went:List (Int×Int)
 done:Bool
abbrev fu(S:bC)(rsv tsv:Value)(mw:Nat):List Value:=[ptr S.bd,i64 S.c.log,i64 S.c.roots,i64 S.c.space,i64 S.b.act,i64 S.b.used,rsv,i64 S.to_,i64 S.scan,i64 S.free,tsv,.map (some mw),.bool S.done]
def eD(x:Nat)(S:bC):HP:=hex fun (p:Value×Value×Nat)=>grp [row x (fu S p.1 p.2.1 p.2.2) 212,da 0 (p.1,S.b.rts),da 0 (p.2.1,S.todo),bB .u64 i64 p.2.2 S.went,pr (aN p.1=true∧aN p.2.1=true)]
theorem jK{B:World}{n:Nat}{D:List Deferred}{σ:Env}{x:Nat}{S:bC}{Fr:List HP}{K:Act→World→Prop}(h:∀ rsv tsv mw,aN rsv=true→aN tsv=true→GO B n D σ (row x (fu S rsv tsv mw) 212::da 0 (rsv,S.b.rts)::da 0 (tsv,S.todo)::bB .u64 i64 mw S.went::Fr) K):GO B n D σ (eD x S::Fr) K:=fun a w st=>by
 obtain⟨p,hx⟩:=st.holds.hex
 have h2:=(hx.grp.front 4 rfl).pr
 exact h _ _ _ h2.1.1 h2.1.2 a w ⟨st.toStA,h2.2⟩
theorem cK{B:World}{x mw:Nat}{S:bC}{rsv tsv:Value}{Fr:List HP}{w:World}(hr:aN rsv=true)(ht:aN tsv=true)(h:Holds B (row x (fu S rsv tsv mw) 212::da 0 (rsv,S.b.rts)::da 0 (tsv,S.todo)::bB .u64 i64 mw S.went::Fr) w):Holds B (eD x S::Fr) w:=
 Holds.unhex (rsv,tsv,mw) (Holds.ungrp (l:=[row x (fu S rsv tsv mw) 212,da 0 (rsv,S.b.rts),da 0 (tsv,S.todo),bB .u64 i64 mw S.went,pr _]) ((h.unpr ⟨hr,ht⟩).back 4 (by simp)))
def p4:Nat→Int→Int→Int→Dev→Out Unit
 | 0,_,_,_,s=> .ok () s
 | k+1,i,a,f,s=>(s.store (a+i) (s.load (f+i))).then fun _ s'=>p4 k (i+1) a f s'
theorem mU(k:Nat)(i a f:Int)(s:Dev):p4 (k+1) i a f s=(s.store (a+i) (s.load (f+i))).then fun _ s'=>p4 k (i+1) a f s':=rfl
def bC.copied(S:bC)(s:Dev)(w:Int):Out (Int×bC):=
 if (bG S.went w).isSome=true then .ok ((bG S.went w).getD 0,S) s
 else if S.b.has S.c w=false then .ok (0,S) s
 else if (s.objOf S.c S.b w).2≠0 then .ok (0,S) s
 else (p4 ((s.objOf S.c S.b w).1.1+1).toNat 0 S.free (s.objOf S.c S.b w).1.2.2 s).then fun _ s'=> .ok (S.free,{S with free:=S.free+((s.objOf S.c S.b w).1.1+1),went:=mset S.went w S.free}) s'
def jW:Nat→Int→bC→Dev→Out bC
 | 0,_,S,s=> .ok S s
 | k+1,i,S,s=>if s.load (S.scan+1+i)=0 then jW k (i+1) S s
   else (S.copied s (s.load (S.scan+1+i))).then fun r s1=>(s1.store (S.scan+1+i) r.1).then fun _ s2=>jW k (i+1) r.2 s2
def lX:Nat→Int→Int→Dev→Out Unit
 | 0,_,_,s=> .ok () s
 | f+1,i,e,s=>if i<e then (s.flush i).then fun _ s'=>lX f (i+8) e s' else .ok () s
def bC.keep(S:bC)(s:Dev):Out Unit:=
 (lX ((S.free - S.to_).toNat+1) S.to_ S.free s).then fun _ s'=>if S.to_<S.free then s'.fence else .ok () s'
def bC.step(S:bC)(s:Dev):Out (Bool×bC):=
 if S.done=true then .ok (true,S) s
 else match S.todo with
  | w::t=>(S.copied s w).then fun r s'=> .ok (false,{r.2 with todo:=t}) s'
  | []=>if S.scan<S.free then
   (jW (unp (s.load S.scan)).2.1.toNat 0 S s).then fun S' s'=> .ok (false,{S' with scan:=S'.scan+((unp (s.load S.scan)).1+1)}) s'
    else (S.keep s).then fun _ s'=> .ok (true,{S with done:=true}) s'
def uy:Nat→bC→Dev→Out bC
 | 0,S,s=> .ok S s
 | f+1,S,s=>(S.step s).then fun r s'=>if r.1=true then .ok r.2 s' else uy f r.2 s'
def bC.meas(S:bC):Nat:=S.todo.length+(S.free - S.scan).toNat+66*(S.b.used.toNat - S.went.length)+(if S.done=true then 0 else 1)
def bC.run(S:bC)(s:Dev):Out bC:=uy (S.meas+1) S s
def bC.block(S:bC):Blk:=⟨1 - S.b.act,S.free - S.to_,S.b.rts.map fun w=>(bG S.went w).getD 0⟩
def ei(bd:Nat)(c:Cfg)(b:Blk)(ws:List Int):bC:=⟨bd,c,b,c.frm (1 - b.act),c.frm (1 - b.act),c.frm (1 - b.act),ws,[],false⟩
structure fj(S:bC):Prop where
 c:bx S.c
 b:fU S.c S.b
 rl:S.b.rts.length≤16
 to_:0≤S.to_∧S.to_≤20000
 scan:S.to_≤S.scan∧S.scan≤400000
 free:S.to_≤S.free∧S.free≤S.to_+65*S.went.length
 nd:(S.went.map Prod.fst).Nodup
 rng:∀ k∈S.went.map Prod.fst,S.c.frm S.b.act≤k∧k<S.c.frm S.b.act+S.b.used
 val:∀ p∈S.went,0≤p.2∧p.2≤1000000
 todo:∀ v∈S.todo,0≤v∧v<18446744073709551616
 rts:∀ v∈S.b.rts,0≤v∧v<18446744073709551616
theorem fj.wl{S:bC}(h:fj S):S.went.length≤S.b.used.toNat:=by
 have h1:=h.b.used
 have:=kP S.b.used.toNat (S.c.frm S.b.act) _ h.nd fun k hk=>by have:=h.rng k hk;omega
 simpa using this
theorem fj.fb{S:bC}(h:fj S):S.free≤300000:=by
 have h1:=h.wl;have h2:=h.b.used;have h3:=h.c.s2;have h4:=h.free;have h5:=h.to_;omega
theorem fj.vb{S:bC}(h:fj S)(w:Int):0≤(bG S.went w).getD 0∧(bG S.went w).getD 0≤1000000:=by
 cases hm:bG S.went w with
 | none=>exact⟨Int.le_refl 0,by decide⟩
 | some v=>exact h.val _ (oY hm)
theorem mn{S:bC}(h:fj S){s s':Dev}{w:Int}{r:Int×bC}(e:S.copied s w= .ok r s'):fj r.2∧(0≤r.1∧r.1≤1000000)∧r.2.scan=S.scan∧r.2.todo=S.todo∧r.2.done=S.done∧r.2.b=S.b∧r.2.bd=S.bd∧r.2.c=S.c∧r.2.to_=S.to_∧S.free≤r.2.free∧r.2.free - S.free+66*(S.b.used.toNat - r.2.went.length:Nat)≤66*(S.b.used.toNat - S.went.length:Nat):=by
 have hwl:=h.wl;have hfb:=h.fb;have hto:=h.to_;have hfr:=h.free
 unfold bC.copied at e
 split at e
 ·cases e;exact⟨h,h.vb w,rfl,rfl,rfl,rfl,rfl,rfl,rfl,Int.le_refl _,by simp only;omega⟩
 rename_i h1
 split at e
 ·cases e;exact⟨h,⟨Int.le_refl 0,by simp only;omega⟩,rfl,rfl,rfl,rfl,rfl,rfl,rfl,Int.le_refl _,by simp only;omega⟩
 rename_i h2
 split at e
 ·cases e;exact⟨h,⟨Int.le_refl 0,by simp only;omega⟩,rfl,rfl,rfl,rfl,rfl,rfl,rfl,Int.le_refl _,by simp only;omega⟩
 obtain⟨_,s1,_,e⟩:=aL e
 cases e
 have h3:bG S.went w=none:=by cases hm:bG S.went w with
  | none=>rfl
  | some _=>exact absurd (by rw[hm];rfl) h1
 have h4:S.b.has S.c w=true:=by cases hm:S.b.has S.c w with
  | true=>rfl
  | false=>exact absurd hm h2
 have h5:=kJ h.c h.b h4
 have h6:=vR (s:=s) (c:=S.c) (b:=S.b) (a:=w)
 have hnk:w∉S.went.map Prod.fst:=qx h3
 have hnd:((S.went++[(w,S.free)]).map Prod.fst).Nodup:=by
  rw[List.map_append,List.nodup_append]
  exact⟨h.nd,by simp,fun a ha b' hb'=>by simp at hb';subst hb';intro e;subst e;exact hnk ha⟩
 have hrng:∀ k∈(S.went++[(w,S.free)]).map Prod.fst,S.c.frm S.b.act≤k∧k<S.c.frm S.b.act+S.b.used:=fun k hk=>by
  rw[List.map_append,List.mem_append] at hk
  rcases hk with hk | hk
  ·exact h.rng k hk
  ·simp at hk;subst hk;omega
 have hl2:=kP S.b.used.toNat (S.c.frm S.b.act) _ hnd fun k hk=>by have:=hrng k hk;have:=h.b.used;omega
 simp only[List.length_map,List.length_append,List.length_cons,List.length_nil] at hl2
 refine⟨⟨h.c,h.b,h.rl,h.to_,h.scan,?_,by rw[gr h3];exact hnd,by rw[gr h3];exact hrng,fun p hp=> ?_,h.todo,h.rts⟩,⟨by simp only;omega,by simp only;omega⟩,rfl,rfl,rfl,rfl,rfl,rfl,rfl,by simp only;omega,?_⟩
 ·rw[gr h3];simp only[List.length_append,List.length_cons,List.length_nil];omega
 ·rw[gr h3] at hp
  rcases List.mem_append.1 hp with hp | hp
  ·exact h.val p hp
  ·rw[List.mem_singleton.1 hp];simp only;omega
 ·rw[gr h3];simp only[List.length_append,List.length_cons,List.length_nil];omega
theorem tP:∀ (k:Nat) (i a f:Int) (s s':Dev),U64 s→p4 k i a f s= .ok () s'→U64 s'∧s'.n=s.n
 | 0,_,_,_,s,s',h,e=>by cases e;exact⟨h,rfl⟩
 | k+1,i,a,f,s,s',h,e=>by
   unfold p4 at e
   obtain⟨_,s1,e1,e⟩:=aL e
   have h1:=cA h (h.load _) e1
   have h2:=tP k _ _ _ s1 s' h1.1 e
   exact⟨h2.1,h2.2.trans h1.2⟩
theorem jR{S:bC}{s s':Dev}{w:Int}{r:Int×bC}(hu:U64 s)(e:S.copied s w= .ok r s'):U64 s'∧s'.n=s.n:=by
 unfold bC.copied at e
 split at e
 ·cases e;exact⟨hu,rfl⟩
 split at e
 ·cases e;exact⟨hu,rfl⟩
 split at e
 ·cases e;exact⟨hu,rfl⟩
 obtain⟨_,s1,e1,e⟩:=aL e
 cases e;exact tP _ _ _ _ _ _ hu e1
theorem pJ(B:World)(Fr:List HP)(x:Nat)(S:bC)(hS:fj S)(s:Dev)(hu:U64 s)(v:Int)(hv:0≤v∧v<18446744073709551616):
 ∀ w,Holds B (eD x S::ax S.bd s::Fr) w→Calls Tryz.prog 184 [ptr x,w64 v].toArray w (Ret B (fun rv H'=>∃ r s',S.copied s v= .ok r s'∧rv=i64 r.1∧H'=eD x r.2::ax S.bd s'::Fr) (fun c H'=>∃ s',S.copied s v= .off s'∧c=dh∧H'=ax S.bd s'::Fr)):=by
 refine ak func184 aa ntmps184 aa (jK fun rsv tsv mw hrsv htsv=> ?_)
 have hfb:=hS.fb
 have hfr:=hS.free
 have hto:=hS.to_
 refine ac (ab (kPa aa aa (ad (ac (ac (ab (kPf l7 isAgg210 aa aa aa aa (kPm aa aa (kPv ((eR runUnderlying210 runUnderlying24 zeroValue3 aa aa).eq (congrArg (fun v=>Value.tuple #[v,.bool _]) (mE _))) aa (kPm aa aa (kPv (az aa aa) aa ?_)))))))))))
 refine kPv (az aa aa) aa (kPa aa aa (kPa aa aa (ad (aj [6,5,4,0,1] rfl (ac (ab (kPm aa aa (ad ?_))))))))
 refine aV aa (fun h20=> ?_) (fun h20=> ?_)
 ·have h1:(bG S.went v).isSome=true:=by simpa using h20
  have hres:S.copied s v= .ok ((bG S.went v).getD 0,S) s:=by unfold bC.copied;rw[if_pos h1]
  refine ac (ab (kPm aa aa (kPa aa aa (ad (au ?_)))))
  exact aq results184 aa (fun w hh=>⟨_,⟨_,_,hres,rfl,rfl⟩,cK hrsv htsv hh⟩)
 ·have h1:¬ (bG S.went v).isSome=true:=by simpa using h20
  refine aw (ac (ac (cN Tryz.mixed (by kernel_rfl) (by kernel_rfl) ?_)))
  refine kQm aa aa (kQv (aF aa) aa (kQv (aC (m:=_) ma aa aa) aa (kQv (ah isAgg125 sizeOf125 aa aa) aa ?_)))
  refine kQm aa aa (kQv (aF aa) aa (kQv (aC (m:=_) tH aa aa) aa (kQv (ah isAgg39 sizeOf39 aa aa) aa ?_)))
  refine kQm aa aa (bj aa (ar call98 aa) (pj _ _ S.c hS.c S.b rsv hS.b hrsv _ hv) .free aa ?_)
  refine kQv (bu aa) aa (bM (aj [32,4,0,1] rfl ?_))
  refine aV aa (fun h32=> ?_) (fun h32=> ?_)
  ·have h2:S.b.has S.c v=false:=by simpa using h32
   have hres:S.copied s v= .ok (0,S) s:=by unfold bC.copied;rw[if_neg h1,if_pos h2]
   refine ac (ab (kPa aa aa (ad (au ?_))))
   exact aq results184 aa (fun w hh=>⟨_,⟨_,_,hres,rfl,rfl⟩,cK hrsv htsv hh⟩)
  ·have hh0:S.b.has S.c v=true:=by simpa using h32
   have h2:¬ S.b.has S.c v=false:=by rw[hh0];decide
   have hvb:=kJ hS.c hS.b hh0
   refine aw (ac ?_)
   refine kV (.br [0,1,2,3,4,5,6,7,8,9,10,11,12,13] 14 (.fin [15,16,17,18,19,20]) 18 (.fin [14,15,16,17,19,20])) [14,18,19] [0,1,2,3,4,5,6,7,8,9,10,11,12,13,15,16,17] [18,19] [row x (fu S rsv tsv mw) 212] [4,0,1] (G:=Nat) (fun b7=>[(7,ptr b7),(8,i64 (s.objOf S.c S.b v).2)]) (fun b7=>row b7 [i64 (s.objOf S.c S.b v).1.1,i64 (s.objOf S.c S.b v).1.2.1,i64 (s.objOf S.c S.b v).1.2.2] 134::row x (fu S rsv tsv mw) 212::da 0 (rsv,S.b.rts)::da 0 (tsv,S.todo)::bB .u64 i64 mw S.went::ax S.bd s::Fr) Tryz.mixed (by kernel_rfl) ?_ ?_
   ·skip
    refine w9 (an aa aa aa (al aa) .free aa (an aa aa aa (aF aa) .free aa (an aa aa aa (aC (m:=_) gP aa aa) .free aa (an aa aa aa (ag isAgg53 aa aa) .free aa (an aa aa aa (al aa) .free aa (an aa aa aa (aF aa) .free aa (an aa aa aa (aC (m:=_) tH aa aa) .free aa (an aa aa aa (ah isAgg39 sizeOf39 aa aa) .free aa ?_))))))))
    refine an aa aa aa (al aa) .free aa (an aa aa aa (aF aa) .free aa (an aa aa aa (aC (m:=_) ma aa aa) .free aa (an aa aa aa (ah isAgg125 sizeOf125 aa aa) .free aa ?_)))
    refine an aa aa aa (al aa) .free aa ?_
    have hvb:=kJ hS.c hS.b hh0
    refine an aa aa aa (cR runUnderlying24 runUnderlying3 aa (hG (by omega))) .free aa (cM ?_)
    refine p8 aa aa ?_ ?_
    ·skip
     refine ap aa (ar call143 aa) (bF (q:=ax) (fun Fr=>kc _ Fr _ _ S.c hS.c S.b rsv hS.b hrsv v (by omega))) .free aa aa ?_
     refine ad (se aa (jV (an aa aa aa (al aa) .free aa (an aa aa aa (az aa aa) .free aa (an aa aa aa (az aa aa) .free aa (aS aa aa (kPb (aD zeroValue134 aa) aa fun b7=>(ad (cL (aS aa aa (kPs (aA (vs:=_) sizeOf134 aa aa aa aa aa) aa ?_)))))))))))
     refine ad (cL (aT aa aa aa (bE aa) .free aa (cM ?_)))
     exact fun a w st_=>⟨b7,st_.to (aG aa) (fun hh=>hh)⟩
    ·skip
     refine kPb (aD zeroValue134 aa) aa fun b7=>(ad (ul (jV (aS aa aa (ap aa (ar call143 aa) (bF (q:=ax) (fun Fr=>kc _ Fr _ _ S.c hS.c S.b rsv hS.b hrsv v (by omega))) .free aa aa ?_)))))
     refine ad (cZ aa (an aa aa aa (al aa) .free aa (an aa aa aa (az aa aa) .free aa (an aa aa aa (az aa aa) .free aa (aS aa aa (kPs (aA (vs:=_) sizeOf134 aa aa aa aa aa) aa (ad (cL (aT aa aa aa (bE aa) .free aa (cM ?_))))))))))
     exact fun a w st_=>⟨b7,st_.to (aG aa) (fun hh=>hh)⟩
   intro b7
   refine cE (σ':=[(7,ptr b7),(8,i64 (s.objOf S.c S.b v).2),(4,_),(0,_),(1,_)]) (aG aa) (ac (ac (ab (kPm aa aa (kPv (am aa aa aa) aa (ad ?_))))))
   refine aV aa (fun h52=> ?_) (fun h52=> ?_)
   ·have h3:(s.objOf S.c S.b v).2≠0:=by simpa using h52
    have hres:S.copied s v= .ok (0,S) s:=by unfold bC.copied;rw[if_neg h1,if_neg h2,if_pos h3]
    refine ac (ab (kPa aa aa (ad (au ?_))))
    exact aq results184 aa (fun w hh=>⟨_,⟨_,_,hres,rfl,rfl⟩,cK hrsv htsv (hh.dp [0])⟩)
   ·have h3:¬ (s.objOf S.c S.b v).2≠0:=by simpa using h52
    have ho:=hZ hS.c hS.b (a:=v) (s:=s) (by omega)
    have ho1:=ho.w
    have ho3:=ho.at_
    have hcp:S.copied s v=(p4 ((s.objOf S.c S.b v).1.1+1).toNat 0 S.free (s.objOf S.c S.b v).1.2.2 s).then fun _ s'=> .ok (S.free,{S with free:=S.free+((s.objOf S.c S.b v).1.1+1),went:=mset S.went v S.free}) s':=by unfold bC.copied;rw[if_neg h1,if_neg h2,if_neg h3]
    refine aw (ac (ab (kPf iw isAgg3 aa aa aa aa (kPa aa aa (ad (aj [9,7,4,0,1] rfl (ac (ac (ab (kPv (aC (m:=_) eN aa aa) aa (kPv (ah isAgg63 sizeOf63 aa aa) aa ?_)))))))))))
    refine ap aa (ar call138 aa) (eJ _ _ _ _ (by omega)) .free aa aa ?_
    refine kPm aa aa (ad (aI ?_))
    refine df (ι:=Nat×Dev) [59,9,7,4,0,1] (fun (i,sI)=>((i:Int)≤(s.objOf S.c S.b v).1.1+1)∧(p4 ((s.objOf S.c S.b v).1.1+1).toNat 0 S.free (s.objOf S.c S.b v).1.2.2 s=p4 (((s.objOf S.c S.b v).1.1+1).toNat - i) i S.free (s.objOf S.c S.b v).1.2.2 sI)) (fun (i,sI)=>[(60,i64 i)]) (fun (i,sI)=>row b7 [i64 (s.objOf S.c S.b v).1.1,i64 (s.objOf S.c S.b v).1.2.1,i64 (s.objOf S.c S.b v).1.2.2] 134::row x (fu S rsv tsv mw) 212::da 0 (rsv,S.b.rts)::da 0 (tsv,S.todo)::bB .u64 i64 mw S.went::ax S.bd sI::Fr) (fun (i,sI)=>((s.objOf S.c S.b v).1.1+1).toNat - i) (0,s) (⟨by first | omega | (simp only;omega),rfl⟩) (fun a w st=>st.to ⟨rfl,trivial⟩ (fun hh=>hh)) ?_
    rintro⟨i,sI⟩ ⟨hi0,hinv⟩
    try simp only at hi0 hinv ⊢
    refine cE (σ':=[(60,i64 i),(59,_),(9,_),(7,_),(4,_),(0,_),(1,_)]) (aG aa) (ac (ab (kPv (am aa aa aa) aa (ad (ac ?_)))))
    refine aV aa (fun h61=> ?_) (fun h61=> ?_)
    ·have hi:(i:Int)<(s.objOf S.c S.b v).1.1+1:=by simpa using h61
     refine aw (ac (aI (ac (ab (kPm aa aa (kPa aa aa (ad (cH 16 Tryz.mixed (by kernel_rfl) (by kernel_rfl) ?_))))))))
     refine kQm aa aa (kQv (aF aa) aa (kQv (aC (m:=_) gP aa aa) aa (kQv (ag isAgg53 aa aa) aa (kQm aa aa (kQm aa aa (kQv (aP aa aa) aa (kQm aa aa (kQv (aF aa) aa (kQv (aC (m:=_) gP aa aa) aa (kQv (ag isAgg53 aa aa) aa (kQv (aC (m:=_) kA aa aa) aa ?_)))))))))))
     refine kQv (ag isAgg3 aa aa) aa (kQm aa aa (kQv (aP aa aa) aa (bj aa (ar call101 aa) (bF (q:=ax) (fun Fr=>ck _ Fr _ _ _)) .free aa ?_)))
     refine bM ?_
     refine aQ aa (ar call104 aa) (cS (fun Fr=>cI _ Fr _ _ _ _)) .free aa aa ?_ ?_
     rotate_left
     ·rintro _ _ ⟨s9,⟨hm9,rfl⟩,rfl⟩
      exact aX fun w hh=>⟨_,⟨s9,by rw[hcp,hinv,show((s.objOf S.c S.b v).1.1+1).toNat - i=(((s.objOf S.c S.b v).1.1+1).toNat - (i+1))+1 by omega,mU,hm9];rfl,rfl,rfl⟩,(hh.dp [0,0,0,0,0])⟩
     rintro _ _ ⟨s1,⟨e1,hm1,rfl⟩,rfl⟩
     refine ad (aj [60,59,9,7,4,0,1] rfl (ab (kPv (aP aa aa) aa (kPm aa aa (ad ?_)))))
     exact fun a w st_=>⟨(i+1,s1),⟨by first | omega | (simp only;omega),by rw[hinv,show((s.objOf S.c S.b v).1.1+1).toNat - i=(((s.objOf S.c S.b v).1.1+1).toNat - (i+1))+1 by omega,mU,hm1];rfl⟩,by first | omega | (simp only;omega),st_.to (aG aa) (fun hh=>hh)⟩
    ·have hi:¬ (i:Int)<(s.objOf S.c S.b v).1.1+1:=by simpa using h61
     refine bJ (ac (cH 10 Tryz.mixed (by kernel_rfl) (by kernel_rfl) ?_))
     refine kQm aa aa (kQv (aF aa) aa (kQv (aC (m:=_) iw aa aa) aa (kQv (ag isAgg3 aa aa) aa (kQv (aC (m:=_) eN aa aa) aa (kQv (ah isAgg63 sizeOf63 aa aa) aa ?_)))))
     refine bj aa (ar call138 aa) (eJ _ _ _ _ (by omega)) .free aa ?_
     refine kQv (aP aa aa) aa (kQv (aF aa) aa (kQv (aC (m:=_) iw aa aa) aa (bM (kPs (aO sizeOf3 aa aa aa aa) aa (ad (aj [9,4,0,1] rfl (ac (ab (kPf l7 isAgg210 aa aa aa aa (kPm aa aa (kPm aa aa ?_)))))))))))
     refine kPs (gz (enc:=i64) runUnderlying210 runUnderlying24 aa aa aa aa) aa (ad (aj [9,4] rfl (ac (ab (kPm aa aa (kPa aa aa (ad (au ?_))))))))
     exact aq results184 aa (fun w hh=>⟨_,⟨_,_,by rw[hcp,hinv,show((s.objOf S.c S.b v).1.1+1).toNat - i=0 by omega];rfl,rfl,rfl⟩,cK (S:={S with free:=S.free+((s.objOf S.c S.b v).1.1+1),went:=mset S.went v S.free}) hrsv htsv (hh.dp [0])⟩)
end Go.Proofs.YtipdhkmphngmoaaGreatDoor
