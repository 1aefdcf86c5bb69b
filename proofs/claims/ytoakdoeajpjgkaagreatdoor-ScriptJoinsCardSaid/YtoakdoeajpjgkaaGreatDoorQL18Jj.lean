/- Part of a law's texts. Conditions: none. -/
import Derived.Test.YtoakdoeajpjgkaaGreatDoorQL18Ji
import Derived.Shelf.Strings.Builder1
import Derived.Shelf.Strings.Builder2
import Derived.Shelf.Small.Bits
import Derived.Shelf.Small.Strs
import Derived.Shelf.Small.Wraps
import Derived.Shelf.Strings.BuilderF
import Derived.Shelf.Strings.BuilderK
import Derived.Shelf.Strconv.Itoa0
import Derived.Shelf.Strconv.Itoa1
import Derived.Shelf.LaysM
import Derived.Shelf.Strconv.Itoa2
import Derived.Shelf.Strconv.Itoa3
import Derived.Shelf.Pu.ParseUintPublic10
import Derived.Shelf.Pu.ErrVarParseUint
import Derived.Shelf.Strings.Search1
import Derived.Shelf.Strings.Search2
import Derived.Shelf.Strings.Search3
import Derived.Shelf.Strings.Cut
import Derived.Shelf.Strings.Count
import Derived.Shelf.Strings.Shaped
import Derived.Shelf.Strings.Prefix
import Derived.Shelf.Strings.Split
import Derived.Shelf.Strings.Replace
import Derived.Shelf.Strings.SplitShaped
import Derived.Shelf.Bits.Mul64
import Derived.Shelf.Strings.Repeat
import Derived.Shelf.Unicode.DecodeSlow
import Derived.Shelf.Unicode.DecodeAny
import Derived.Shelf.Strings.FieldsFuncAny
import Derived.Shelf.Strings.FieldsFuncGrows
open Go.Proofs.Tryz
set_option linter.all false
namespace Go.Proofs.YtoakdoeajpjgkaaGreatDoor
open Go
abbrev CR:=Int×(Option Addr×Nat×Nat)×List Int
abbrev slv(q:Option Addr×Nat×Nat):Value:= .slice q.1 q.2.1 q.2.2
def crE(t:CR):List Value:=[i64 t.1,slv t.2.1]
theorem ky:lC 2 crE:=⟨fun _=>rfl,fun _=>rfl⟩
abbrev jk(t:CR):HP:=dJ 25 w64 0 (slv t.2.1,t.2.2)
abbrev crC(t:CR):Cmd:=(t.1,t.2.2)
def nk(rs:List CR)(l:List Cmd):Prop:=rs.map crC=l∧∀ t∈rs,t.2.1.2.1=t.2.2.length
def kE(_:Nat)(x:Value×List Cmd):HP:=hex fun (rs:List CR)=>grp [pr (nk rs x.2),eO 32 2 crE 0 (x.1,rs),grp (rs.map jk)]
section
variable {B:World} {n:Nat} {D:List Deferred} {σ:Env} {H Fr:List HP} {P:Program} {K:Act→World→Prop} {sv:Value} {l:List Cmd} {w:World} {rs:List CR}
theorem o3(h:Holds B (kE 0 (sv,l)::Fr) w):∃ rs,nk rs l∧Holds B (eO 32 2 crE 0 (sv,rs)::grp (rs.map jk)::Fr) w:=by
 obtain⟨rs,h1⟩:=h.hex
 have h2:=h1.grp
 exact⟨rs,h2.pr⟩
theorem eM(hr:nk rs l)(h:Holds B (eO 32 2 crE 0 (sv,rs)::grp (rs.map jk)::Fr) w):Holds B (kE 0 (sv,l)::Fr) w:=
 Holds.unhex rs (Holds.ungrp (l:=[pr (nk rs l),eO 32 2 crE 0 (sv,rs),grp (rs.map jk)]) (h.unpr hr))
theorem lX(h:∀ rs,nk rs l→GO B n D σ (eO 32 2 crE 0 (sv,rs)::grp (rs.map jk)::Fr) K):GO B n D σ (kE 0 (sv,l)::Fr) K:=fun a w st=>by
 obtain⟨rs,h1,h2⟩:=o3 st.holds
 exact h rs h1 a w ⟨st.toStA,h2⟩
theorem pA(h:Holds B Fr w):Holds B (kE 0 (.slice none 0 0,[])::Fr) w:=
 eM (rs:=[]) ⟨rfl,fun _ h=>by cases h⟩ (lE (Holds.ungrp (l:=[]) (r:=Fr) h))
theorem xI{t:CR}(h:Holds B (grp (rs.map jk)::jk t::Fr) w):Holds B (grp ((rs++[t]).map jk)::Fr) w:=by
 have h1:=h.grp
 rw[List.map_append]
 refine Holds.ungrp (l:=rs.map jk++[jk t]) (r:=Fr) ?_
 simpa using h1
theorem nk.push{t:CR}(h:nk rs l)(ht:t.2.1.2.1=t.2.2.length):nk (rs++[t]) (l++[crC t]):=by
 refine⟨by rw[List.map_append,h.1];rfl,fun x hx=> ?_⟩
 rcases List.mem_append.1 hx with h1 | h1
 ·exact h.2 x h1
 ·rw[List.mem_singleton.1 h1];exact ht
theorem j3(i:Nat)(e:H[i]? =some (grp (rs.map jk))){t:CR}(ht:t∈rs)(hl:t.2.1.2.1=t.2.2.length):SlR B H (slv t.2.1) (t.2.2.map w64):=by
 obtain⟨k,q,m,c⟩:∃ k,k=t.1:=⟨_,rfl⟩
 obtain⟨kk,⟨q,m,c⟩,xs⟩:=t
 simp only at hl
 subst hl
 refine⟨q,c,by simp[slv],fun w hw j hj=> ?_⟩
 have h1:=(hw.front i e).grp
 obtain⟨a,b,hab⟩:=List.append_of_mem ht
 have h2:(rs.map jk++H.eraseIdx i)[a.length]? =some (dJ 25 w64 0 (.slice q xs.length c,xs)):=by
  rw[hab]
  simp[jk,slv]
 obtain⟨q',c',e1,e2⟩:=(cP (B:=B) a.length h2).ex
 injection e1 with e3 e4 e5
 subst e3
 exact e2 w h1 j hj
theorem rt{f:FuncId}{fn:Func}{R:Ending→World→Prop}{H2:List HP}{x y z:ResultVar}{v u t:Value}(hr:fn.results= #[x,y,z])(m:gn D H H2)(h1:jj P σ H2 x v)(h2:jj P σ H2 y u)(h3:jj P σ H2 z t)(h:∀ w,Holds B H2 w→R (.returned (.tuple #[v,u,t])) w):GO B n D σ H (x9 P f fn R).ret:=fun a w s=>by
 show LeavesInM _ _ _ _ _ _ a.defers _ _
 rw[s.defers]
 refine m.leave (by simp) w s.holds fun w' hw'=>⟨.tuple #[v,u,t],?_,h w' hw'⟩
 have e1:=h1.run s.env hw'
 have e2:=h2.run s.env hw'
 have e3:=h3.run s.env hw'
 simp[results,hr] at e1 e2 e3 ⊢
 cases x<;>cases y<;>cases z<;>simp_all
def DU(b:Nat)(l:List Cmd):HP:=hex fun (rv:Value)=>grp [row b [rv] 24,kE 0 (rv,l),pr (aL rv=true)]
theorem wP{b:Nat}(h:∀ rv,aL rv=true→GO B n D σ (row b [rv] 24::kE 0 (rv,l)::Fr) K):GO B n D σ (DU b l::Fr) K:=fun a w st=>by
 obtain⟨rv,h1⟩:=st.holds.hex
 have h2:=(h1.grp).front 2 rfl
 exact h rv h2.pr.1 a w ⟨st.toStA,h2.pr.2⟩
theorem jq{b:Nat}{rv:Value}(hr:aL rv=true)(h:Holds B (row b [rv] 24::kE 0 (rv,l)::Fr) w):Holds B (DU b l::Fr) w:=
 Holds.unhex rv (Holds.ungrp (l:=[row b [rv] 24,kE 0 (rv,l),pr (aL rv=true)]) ((h.unpr hr).back 2 (by simp)))
theorem wt{A C E L:HP}(X Y:List HP):(A::C::E::L::(X++Y)).Perm (L::(X++(A::C::E::Y))):=by
 have h1:(X++(A::C::E::Y)).Perm (A::C::E::(X++Y)):=
  List.perm_middle.trans ((List.perm_middle.trans ((List.perm_middle).cons C)).cons A)
 exact((((List.Perm.swap L E (X++Y)).cons C).trans (List.Perm.swap L C (E::(X++Y)))).cons A |>.trans (List.Perm.swap L A (C::E::(X++Y)))).trans (h1.symm.cons L)
end
open Go Go.Proofs
open Go.Shelf
def Tryz.lays283_ren:Go.Shelf.Ren:=⟨fun | 283=>63 | n=>n,fun | 3=>3 | 9=>9 | 4=>4 | n=>n,fun | n=>n⟩
theorem Tryz.lays283:Go.Proofs.Lays.n283 Tryz.prog Tryz.lays283_ren:={
 mixed:=by kernel_rfl
 f283:=Tryz.func63.trans (congrArg some (by kernel_rfl))
 t3:=underlying3
 a3:=isAgg3
 z3:=sizeOf3
 v3:=zeroValue3
 t4:=underlying4
 a4:=isAgg4
 z4:=sizeOf4
 v4:=zeroValue4
 t9:=underlying9
 a9:=isAgg9
 z9:=sizeOf9
 v9:=zeroValue9}
open Go.Lib in
theorem Tryz.internal_strconv_small(i:Nat)(h:i<100)(w:World):
 Calls Tryz.prog 63 #[.int .i64 i] w fun e w'=>e= .returned (.string ⟨(Lib.decDigits i).toArray⟩)∧w'=w:=Any.internal_strconv_small Tryz.lays283 i h w
def Tryz.laysM284_ren:Go.Shelf.Ren:=⟨fun | 284=>64 | 129=>103 | 317=>102 | 318=>104 | n=>n,fun | 53=>25 | 3=>3 | 212=>181 | 0=>0 | 4=>4 | 46=>79 | 5=>5 | 9=>9 | n=>n,fun | 17=>2 | n=>n⟩
theorem Tryz.laysM284:Go.Proofs.LaysM.n284 Tryz.prog Tryz.laysM284_ren:={
 mixed:=by kernel_rfl
 f129:=Tryz.func103.trans (congrArg some (by kernel_rfl))
 f284:=Tryz.func64.trans (congrArg some (by kernel_rfl))
 f317:=Tryz.func102.trans (congrArg some (by kernel_rfl))
 f318:=Tryz.func104.trans (congrArg some (by kernel_rfl))
 t0:=underlying0
 a0:=isAgg0
 z0:=sizeOf0
 v0:=zeroValue0
 t3:=underlying3
 a3:=isAgg3
 z3:=sizeOf3
 v3:=zeroValue3
 t4:=underlying4
 a4:=isAgg4
 z4:=sizeOf4
 v4:=zeroValue4
 t5:=underlying5
 a5:=isAgg5
 z5:=sizeOf5
 v5:=zeroValue5
 t9:=underlying9
 a9:=isAgg9
 z9:=sizeOf9
 v9:=zeroValue9
 t46:=underlying79
 a46:=isAgg79
 z46:=sizeOf79
 v46:=zeroValue79
 t53:=underlying25
 a53:=isAgg25
 z53:=sizeOf25
 v53:=zeroValue25
 t212:=underlying181
 a212:=isAgg181
 z212:=sizeOf181
 v212:=zeroValue181
 g17:=by kernel_rfl
 i0:=by kernel_rfl
 i3:=by kernel_rfl
 i4:=by kernel_rfl
 i5:=by kernel_rfl
 i9:=by kernel_rfl
 i46:=by kernel_rfl
 i53:=by kernel_rfl
 i212:=by kernel_rfl
 m17:=by kernel_rfl}
open Go.Lib in
theorem Tryz.internal_strconv_numDigits(u:Nat)(h1:1≤u)(h2:u<18446744073709551616)(w:World)(htab:Lib.TabIs Tryz.prog w "internal/strconv.uint64pow10" .u64 Lib.pow10Tab):
 Calls Tryz.prog 64 #[.int .u64 u] w fun e w'=>e= .returned (.int .i64 (Lib.nDigits u))∧w'=w:=Any.internal_strconv_numDigits Tryz.laysM284 u h1 h2 w htab
def Tryz.lays285_ren:Go.Shelf.Ren:=⟨fun | 285=>65 | n=>n,fun | 37=>72 | 53=>25 | 3=>3 | 4=>4 | 51=>116 | 9=>9 | 5=>5 | 0=>0 | n=>n,fun | n=>n⟩
theorem Tryz.lays285:Go.Proofs.Lays.n285 Tryz.prog Tryz.lays285_ren:={
 mixed:=by kernel_rfl
 f285:=Tryz.func65.trans (congrArg some (by kernel_rfl))
 t0:=underlying0
 a0:=isAgg0
 z0:=sizeOf0
 v0:=zeroValue0
 t3:=underlying3
 a3:=isAgg3
 z3:=sizeOf3
 v3:=zeroValue3
 t4:=underlying4
 a4:=isAgg4
 z4:=sizeOf4
 v4:=zeroValue4
 t5:=underlying5
 a5:=isAgg5
 z5:=sizeOf5
 v5:=zeroValue5
 t9:=underlying9
 a9:=isAgg9
 z9:=sizeOf9
 v9:=zeroValue9
 t37:=underlying72
 a37:=isAgg72
 z37:=sizeOf72
 v37:=zeroValue72
 t51:=underlying116
 a51:=isAgg116
 z51:=sizeOf116
 v51:=zeroValue116
 t53:=underlying25
 a53:=isAgg25
 z53:=sizeOf25
 v53:=zeroValue25}
open Go.RowKit Go.Sort Go.Lib in
theorem Tryz.internal_strconv_formatBase10(blk off cap:Nat)(u:Nat)(d:Array UInt8)(w:World)(hH:Go.Sort.Holds (fun (b:UInt8)=>Value.int .u8 (b.toNat:Int)) w blk off d)(hu:u<10 ^ d.size)(hu64:u<18446744073709551616)(hsz:d.size<4611686018427387904):
 Calls Tryz.prog 65 #[.slice (some ⟨blk,off,none⟩) d.size cap,.int .u64 u] w fun e w'=>
  e= .returned (.tuple #[])∧∃ (n v':Nat) (dk:Array UInt8),w'=(putRow (fun (b:UInt8)=>Value.int .u8 (b.toNat:Int)) w blk off dk).drewN n∧FmtInv d.size u 0 v' dk:=Any.internal_strconv_formatBase10 Tryz.lays285 blk off cap u d w hH hu hu64 hsz
def Tryz.laysPu14_ren:Go.Shelf.Ren:=⟨fun | 14=>55 | 16=>96 | 17=>97 | 19=>156 | 20=>157 | 21=>158 | 22=>159 | 23=>160 | 24=>161 | 25=>198 | 27=>200 | 26=>199 | 28=>215 | 29=>228 | 30=>63 | 31=>64 | 32=>65 | 33=>66 | 35=>103 | 34=>102 | 36=>104 | 37=>105 | 38=>106 | 39=>162 | 40=>163 | n=>n,fun | 9=>9 | 3=>3 | 22=>25 | 24=>76 | 25=>113 | 4=>4 | 34=>229 | 5=>5 | 36=>79 | 37=>72 | 0=>0 | 39=>231 | 21=>21 | 44=>286 | 47=>115 | 50=>302 | 48=>300 | 2=>2 | 52=>123 | 55=>126 | 59=>181 | 60=>116 | 20=>20 | 61=>182 | 65=>288 | 66=>289 | 67=>35 | n=>n,fun | 0=>6 | 1=>7 | 2=>2 | 3=>8 | 4=>9 | n=>n⟩
theorem Tryz.laysPu14:Go.Proofs.LaysPu.n14 Tryz.prog Tryz.laysPu14_ren:={
 mixed:=by kernel_rfl
 f14:=Tryz.func55.trans (congrArg some (by kernel_rfl))
 f16:=Tryz.func96.trans (congrArg some (by kernel_rfl))
 f17:=Tryz.func97.trans (congrArg some (by kernel_rfl))
 f19:=Tryz.func156.trans (congrArg some (by kernel_rfl))
 f20:=Tryz.func157.trans (congrArg some (by kernel_rfl))
 f21:=Tryz.func158.trans (congrArg some (by kernel_rfl))
 f22:=Tryz.func159.trans (congrArg some (by kernel_rfl))
 f23:=Tryz.func160.trans (congrArg some (by kernel_rfl))
 f24:=Tryz.func161.trans (congrArg some (by kernel_rfl))
 f25:=Tryz.func198.trans (congrArg some (by kernel_rfl))
 f26:=Tryz.func199.trans (congrArg some (by kernel_rfl))
 f27:=Tryz.func200.trans (congrArg some (by kernel_rfl))
 f28:=Tryz.func215.trans (congrArg some (by kernel_rfl))
 f29:=Tryz.func228.trans (congrArg some (by kernel_rfl))
 f30:=Tryz.func63.trans (congrArg some (by kernel_rfl))
 f31:=Tryz.func64.trans (congrArg some (by kernel_rfl))
 f32:=Tryz.func65.trans (congrArg some (by kernel_rfl))
 f33:=Tryz.func66.trans (congrArg some (by kernel_rfl))
 f34:=Tryz.func102.trans (congrArg some (by kernel_rfl))
 f35:=Tryz.func103.trans (congrArg some (by kernel_rfl))
 f36:=Tryz.func104.trans (congrArg some (by kernel_rfl))
 f37:=Tryz.func105.trans (congrArg some (by kernel_rfl))
 f38:=Tryz.func106.trans (congrArg some (by kernel_rfl))
 f39:=Tryz.func162.trans (congrArg some (by kernel_rfl))
 f40:=Tryz.func163.trans (congrArg some (by kernel_rfl))
 t0:=underlying0
 a0:=isAgg0
 z0:=sizeOf0
 v0:=zeroValue0
 i0:=by kernel_rfl
 t2:=underlying2
 a2:=isAgg2
 z2:=sizeOf2
 v2:=zeroValue2
 i2:=by kernel_rfl
 t3:=underlying3
 a3:=isAgg3
 z3:=sizeOf3
 v3:=zeroValue3
 i3:=by kernel_rfl
 t4:=underlying4
 a4:=isAgg4
 z4:=sizeOf4
 v4:=zeroValue4
 i4:=by kernel_rfl
 t5:=underlying5
 a5:=isAgg5
 z5:=sizeOf5
 v5:=zeroValue5
 i5:=by kernel_rfl
 t9:=underlying9
 a9:=isAgg9
 z9:=sizeOf9
 v9:=zeroValue9
 i9:=by kernel_rfl
 t20:=underlying20
 a20:=isAgg20
 z20:=sizeOf20
 v20:=zeroValue20
 i20:=by kernel_rfl
 t21:=underlying21
 a21:=isAgg21
 z21:=sizeOf21
 v21:=zeroValue21
 i21:=by kernel_rfl
 t22:=underlying25
 a22:=isAgg25
 z22:=sizeOf25
 v22:=zeroValue25
 i22:=by kernel_rfl
 t24:=underlying76
 a24:=isAgg76
 z24:=sizeOf76
 v24:=zeroValue76
 i24:=by kernel_rfl
 t25:=underlying113
 a25:=isAgg113
 z25:=sizeOf113
 v25:=zeroValue113
 i25:=by kernel_rfl
 t34:=underlying229
 a34:=isAgg229
 z34:=sizeOf229
 v34:=zeroValue229
 i34:=by kernel_rfl
 c34:=by kernel_rfl
 t36:=underlying79
 a36:=isAgg79
 z36:=sizeOf79
 v36:=zeroValue79
 i36:=by kernel_rfl
 t37:=underlying72
 a37:=isAgg72
 z37:=sizeOf72
 v37:=zeroValue72
 i37:=by kernel_rfl
 t39:=underlying231
 a39:=isAgg231
 z39:=sizeOf231
 v39:=zeroValue231
 i39:=by kernel_rfl
 t44:=underlying286
 a44:=isAgg286
 z44:=sizeOf286
 v44:=zeroValue286
 i44:=by kernel_rfl
 t47:=underlying115
 a47:=isAgg115
 z47:=sizeOf115
 v47:=zeroValue115
 i47:=by kernel_rfl
 t48:=underlying300
 a48:=isAgg300
 z48:=sizeOf300
 v48:=zeroValue300
 i48:=by kernel_rfl
 t50:=underlying302
 a50:=isAgg302
 z50:=sizeOf302
 v50:=zeroValue302
 i50:=by kernel_rfl
 t52:=underlying123
 a52:=isAgg123
 z52:=sizeOf123
 v52:=zeroValue123
 i52:=by kernel_rfl
 t55:=underlying126
 a55:=isAgg126
 z55:=sizeOf126
 v55:=zeroValue126
 i55:=by kernel_rfl
 t59:=underlying181
 a59:=isAgg181
 z59:=sizeOf181
 v59:=zeroValue181
 i59:=by kernel_rfl
 t60:=underlying116
 a60:=isAgg116
 z60:=sizeOf116
 v60:=zeroValue116
 i60:=by kernel_rfl
 t61:=underlying182
 a61:=isAgg182
 z61:=sizeOf182
 t65:=underlying288
 a65:=isAgg288
 z65:=sizeOf288
 v65:=zeroValue288
 i65:=by kernel_rfl
 t66:=underlying289
 a66:=isAgg289
 z66:=sizeOf289
 v66:=zeroValue289
 i66:=by kernel_rfl
 t67:=underlying35
 a67:=isAgg35
 z67:=sizeOf35
 v67:=zeroValue35
 i67:=by kernel_rfl
 g0:=by kernel_rfl
 m0:=by kernel_rfl
 g1:=by kernel_rfl
 m1:=by kernel_rfl
 g2:=by kernel_rfl
 m2:=by kernel_rfl
 g3:=by kernel_rfl
 m3:=by kernel_rfl
 g4:=by kernel_rfl
 m4:=by kernel_rfl}
open Go.RowKit in
theorem Tryz.strconv_ParseUint_10_at64_ok(s:ByteArray)(hmax:s.size≤9223372036854775806)(u:Nat)(h:Lib.parseUintB 64 s.data.toList= .ok u)(w:World):
 Calls Tryz.prog 55 #[.string s,.int .i64 10,.int .i64 64] w fun e w'=>e= .returned (.tuple #[.int .u64 u,.nilIface])∧(w'=w∨w'=Lib.bytesWorld w 5 s):=Any.strconv_ParseUint_10_at64_ok Tryz.laysPu14 s hmax u h w
open Go.RowKit in
theorem Tryz.strconv_ParseUint_10_at64_syntax(s:ByteArray)(hlim:s.size≤281474976710656)(h:Lib.parseUintB 64 s.data.toList= .«syntax»)(ev:Value)(w:World)(hv:w.cell? ⟨6,0,none⟩=some ev)(hev:ev= .nilIface∨∃ te pe,ev= .iface te pe):
 Calls Tryz.prog 55 #[.string s,.int .i64 10,.int .i64 64] w fun e w'=>∃ N,e= .returned (.tuple #[.int .u64 0,.iface 231 (.pointer (some ⟨N,0,none⟩))])∧w.heap.size≤N∧w'.heap[N]? =some (.cells #[.string ⟨#[80,97,114,115,101,85,105,110,116]⟩,.string s,ev] 286 (0,0))∧Below w.heap.size w w':=Any.strconv_ParseUint_10_at64_syntax Tryz.laysPu14 s hlim h ev w hv hev
open Go.RowKit in
theorem Tryz.strconv_ParseUint_10_at64_range(s:ByteArray)(hlim:s.size≤281474976710656)(h:Lib.parseUintB 64 s.data.toList= .range)(ev:Value)(w:World)(hv:w.cell? ⟨7,0,none⟩=some ev)(hev:ev= .nilIface∨∃ te pe,ev= .iface te pe):
 Calls Tryz.prog 55 #[.string s,.int .i64 10,.int .i64 64] w fun e w'=>∃ N,e= .returned (.tuple #[.int .u64 18446744073709551615,.iface 231 (.pointer (some ⟨N,0,none⟩))])∧w.heap.size≤N∧w'.heap[N]? =some (.cells #[.string ⟨#[80,97,114,115,101,85,105,110,116]⟩,.string s,ev] 286 (0,0))∧Below w.heap.size w w':=Any.strconv_ParseUint_10_at64_range Tryz.laysPu14 s hlim h ev w hv hev
def Tryz.lays219_ren:Go.Shelf.Ren:=⟨fun | 219=>67 | 217=>62 | 225=>107 | 224=>108 | 267=>109 | 266=>101 | 314=>164 | n=>n,fun | 9=>9 | 3=>3 | 4=>4 | 5=>5 | 46=>79 | 146=>117 | 51=>116 | n=>n,fun | 1=>3 | n=>n⟩
theorem Tryz.lays219:Go.Proofs.Lays.n219 Tryz.prog Tryz.lays219_ren:={
 mixed:=by kernel_rfl
 f217:=Tryz.func62.trans (congrArg some (by kernel_rfl))
 f219:=Tryz.func67.trans (congrArg some (by kernel_rfl))
 f224:=Tryz.func108.trans (congrArg some (by kernel_rfl))
 f225:=Tryz.func107.trans (congrArg some (by kernel_rfl))
 f266:=Tryz.func101.trans (congrArg some (by kernel_rfl))
 f267:=Tryz.func109.trans (congrArg some (by kernel_rfl))
 f314:=Tryz.func164.trans (congrArg some (by kernel_rfl))
 t3:=underlying3
 a3:=isAgg3
 z3:=sizeOf3
 v3:=zeroValue3
 t4:=underlying4
 a4:=isAgg4
 z4:=sizeOf4
 v4:=zeroValue4
 t5:=underlying5
 a5:=isAgg5
 z5:=sizeOf5
 v5:=zeroValue5
 t9:=underlying9
 a9:=isAgg9
 z9:=sizeOf9
 v9:=zeroValue9
 t46:=underlying79
 a46:=isAgg79
 z46:=sizeOf79
 v46:=zeroValue79
 t51:=underlying116
 a51:=isAgg116
 z51:=sizeOf116
 v51:=zeroValue116
 t146:=underlying117
 a146:=isAgg117
 z146:=sizeOf117
 v146:=zeroValue117
 g1:=by kernel_rfl}
open Go.RowKit Go.Lib in
theorem Tryz.stringslite_Index_one(s:ByteArray)(c:UInt8)(w:World):
 Calls Tryz.prog 67 #[.string s,.string ⟨#[c]⟩] w fun e w'=>e= .returned (.int .i64 (Lib.indexByte s.data.toList c))∧w'=w:=Any.stringslite_Index_one Tryz.lays219 s c w
def Tryz.lays143_ren:Go.Shelf.Ren:=⟨fun | 143=>41 | 219=>67 | 217=>62 | 225=>107 | 224=>108 | 267=>109 | 266=>101 | 314=>164 | n=>n,fun | 9=>9 | 3=>3 | 4=>4 | 5=>5 | 46=>79 | 146=>117 | 51=>116 | n=>n,fun | 1=>3 | n=>n⟩
theorem Tryz.lays143:Go.Proofs.Lays.n143 Tryz.prog Tryz.lays143_ren:={
 mixed:=by kernel_rfl
 f143:=Tryz.func41.trans (congrArg some (by kernel_rfl))
 f217:=Tryz.func62.trans (congrArg some (by kernel_rfl))
 f219:=Tryz.func67.trans (congrArg some (by kernel_rfl))
 f224:=Tryz.func108.trans (congrArg some (by kernel_rfl))
 f225:=Tryz.func107.trans (congrArg some (by kernel_rfl))
 f266:=Tryz.func101.trans (congrArg some (by kernel_rfl))
 f267:=Tryz.func109.trans (congrArg some (by kernel_rfl))
 f314:=Tryz.func164.trans (congrArg some (by kernel_rfl))
 t3:=underlying3
 a3:=isAgg3
 z3:=sizeOf3
 v3:=zeroValue3
 t4:=underlying4
 a4:=isAgg4
 z4:=sizeOf4
 v4:=zeroValue4
 t5:=underlying5
 a5:=isAgg5
 z5:=sizeOf5
 v5:=zeroValue5
 t9:=underlying9
 a9:=isAgg9
 z9:=sizeOf9
 v9:=zeroValue9
 t46:=underlying79
 a46:=isAgg79
 z46:=sizeOf79
 v46:=zeroValue79
 t51:=underlying116
 a51:=isAgg116
 z51:=sizeOf116
 v51:=zeroValue116
 t146:=underlying117
 a146:=isAgg117
 z146:=sizeOf117
 v146:=zeroValue117
 g1:=by kernel_rfl}
open Go.RowKit Go.Lib in
theorem Tryz.strings_Index_one(s:ByteArray)(c:UInt8)(w:World):
 Calls Tryz.prog 41 #[.string s,.string ⟨#[c]⟩] w fun e w'=>e= .returned (.int .i64 (Lib.indexByte s.data.toList c))∧w'=w:=Any.strings_Index_one Tryz.lays143 s c w
def Tryz.lays229_ren:Go.Shelf.Ren:=⟨fun | 229=>53 | n=>n,fun | 9=>9 | 40=>112 | 31=>50 | 152=>172 | 3=>3 | 0=>0 | 4=>4 | 21=>21 | 154=>174 | n=>n,fun | n=>n⟩
theorem Tryz.lays229:Go.Proofs.Lays.n229 Tryz.prog Tryz.lays229_ren:={
 mixed:=by kernel_rfl
 f229:=Tryz.func53.trans (congrArg some (by kernel_rfl))
 t0:=underlying0
 a0:=isAgg0
 z0:=sizeOf0
 v0:=zeroValue0
 t3:=underlying3
 a3:=isAgg3
 z3:=sizeOf3
 v3:=zeroValue3
 t4:=underlying4
 a4:=isAgg4
 z4:=sizeOf4
 v4:=zeroValue4
 t9:=underlying9
 a9:=isAgg9
 z9:=sizeOf9
 v9:=zeroValue9
 t21:=underlying21
 a21:=isAgg21
 z21:=sizeOf21
 v21:=zeroValue21
 t31:=underlying50
 a31:=isAgg50
 z31:=sizeOf50
 v31:=zeroValue50
 t40:=underlying112
 a40:=isAgg112
 z40:=sizeOf112
 v40:=zeroValue112
 t152:=underlying172
 a152:=isAgg172
 z152:=sizeOf172
 v152:=zeroValue172
 t154:=underlying174
 a154:=isAgg174
 z154:=sizeOf174
 v154:=zeroValue174}
open Go.RowKit Go.Lib in
theorem Tryz.strings_FieldsFunc_grows(g:Nat)(lb:Array Value)(eg:∀ args w,(callFunc g args).run Tryz.prog w= .ok (.enter g args) w)(p:Nat→Bool)(s:ByteArray)(w:World)(hs:s.size≤4294967296)(hp:PredGrows Tryz.prog g lb p w):
 Calls Tryz.prog 53 #[.string s,.func (.func g) #[] lb] w fun e w'=>∃ A,e= .returned (.slice (some ⟨A,0,none⟩) (Lib.goFieldsP p s).length (Lib.goFieldsP p s).length)∧w.heap.size≤A∧
  w'.ownsRow w.heap.size 9 1 (.slice (some ⟨A,0,none⟩) (Lib.goFieldsP p s).length (Lib.goFieldsP p s).length) (Lib.goFieldsP p s).length ((Lib.goFieldsP p s).map Value.string)∧Below w.heap.size w w':=Any.strings_FieldsFunc_grows Tryz.lays229 g lb eg p s w hs hp (by kernel_rfl) (by kernel_rfl)
structure GL(B:World):Prop where
 pow:Lib.TabIs Tryz.prog B "internal/strconv.uint64pow10" .u64 Lib.pow10Tab
 ml:∃ m,B.cell? ⟨3,0,none⟩=some (.int .i64 m)
 es:∃ te pe,B.cell? ⟨6,0,none⟩=some (.iface te pe)
 er:∃ te pe,B.cell? ⟨7,0,none⟩=some (.iface te pe)
section
variable {B:World} {H Fr:List HP}
theorem Bf(H:List HP)(l:List UInt8)(c:UInt8):∀ w,Holds B H w→Calls Tryz.prog 41 [str l,.string ⟨#[c]⟩].toArray w (aZ B H (i64 (Lib.indexByte l c))):=fun w hw=>
 (Tryz.strings_Index_one ⟨l.toArray⟩ c w).mono fun e w' ⟨h1,h2⟩=>by subst h2;exact⟨h1,hw⟩
theorem yY(H:List HP)(l:List UInt8)(c:UInt8):∀ w,Holds B H w→Calls Tryz.prog 67 [str l,.string ⟨#[c]⟩].toArray w (aZ B H (i64 (Lib.indexByte l c))):=fun w hw=>
 (Tryz.stringslite_Index_one ⟨l.toArray⟩ c w).mono fun e w' ⟨h1,h2⟩=>by subst h2;exact⟨h1,hw⟩
theorem yW(H:List HP)(i:Nat)(h:i<100):∀ w,Holds B H w→Calls Tryz.prog 63 [i64 i].toArray w (aZ B H (str (Lib.decDigits i))):=fun w hw=>
 (Tryz.internal_strconv_small i h w).mono fun e w' ⟨h1,h2⟩=>by subst h2;exact⟨h1,hw⟩
theorem Bw[cM H B](gl:GL B)(u:Nat)(h1:1≤u)(h2:u<18446744073709551616):∀ w,Holds B H w→Calls Tryz.prog 64 [.int .u64 u].toArray w (aZ B H (i64 (Lib.nDigits u))):=fun w hw=>by
 have ht:Lib.TabIs Tryz.prog w "internal/strconv.uint64pow10" .u64 Lib.pow10Tab:=by
  have h:=gl.pow
  unfold Lib.TabIs World.var? at*
  cases hg:Tryz.prog.globalNamed "internal/strconv.uint64pow10" with
  | none=>rw[hg] at h;cases h
  | some g=>
    rw[hg] at h
    simp only[Option.bind_some] at h ⊢
    cases hb:B.heap[g]? with
    | none=>rw[hb] at h;cases h
    | some o=>
      have:=hw.oldb.block g (Array.getElem?_eq_some_iff.1 hb).1
      rw[this];exact h
 exact(Tryz.internal_strconv_numDigits u h1 h2 w ht).mono fun e w' ⟨g1,g2⟩=>by subst g2;exact⟨g1,hw⟩
theorem zh[cM H B](gl:GL B)(l:List UInt8)(hl:l.length≤1000000):∀ w,Holds B H w→Calls Tryz.prog 55 [str l,i64 10,i64 64].toArray w (Ret B (fun v H'=>H'=H∧∃ (n:Int) (e:Value),v= .tuple #[.int .u64 n,e]∧((∃ u:Nat,Lib.parseUintB 64 l= .ok u∧n=u∧e= .nilIface)∨((∀ u,Lib.parseUintB 64 l≠ .ok u)∧∃ t x,e= .iface t x))) (fun _ _=>False)):=fun w hw=>by
 cases hp:Lib.parseUintB 64 l with
 | ok u=>
   refine(Tryz.strconv_ParseUint_10_at64_ok ⟨l.toArray⟩ (by rw[gb];omega) u hp w).mono fun e w' ⟨h1,h2⟩=> ?_
   subst h1
   refine⟨H,⟨rfl,_,_,rfl,.inl ⟨u,rfl,rfl,rfl⟩⟩,?_⟩
   rcases h2 with rfl | rfl
   ·exact hw
   ·exact hw.below ⟨rfl,rfl,rfl,by rw[Lib.bytesWorld_size];omega,fun j hj=>Lib.bytesWorld_at_old w _ _ j hj⟩
 | «syntax» =>
   obtain⟨te,pe,he⟩:=gl.es
   refine(Tryz.strconv_ParseUint_10_at64_syntax ⟨l.toArray⟩ (by rw[gb];omega) hp _ w (hw.oldcell he) (.inr ⟨_,_,rfl⟩)).mono fun e w' ⟨N,h1,_,_,h2⟩=> ?_
   subst h1
   exact⟨H,⟨rfl,_,_,rfl,.inr ⟨(fun u h=>(by cases h)),_,_,rfl⟩⟩,hw.below h2⟩
 | range=>
   obtain⟨te,pe,he⟩:=gl.er
   refine(Tryz.strconv_ParseUint_10_at64_range ⟨l.toArray⟩ (by rw[gb];omega) hp _ w (hw.oldcell he) (.inr ⟨_,_,rfl⟩)).mono fun e w' ⟨N,h1,_,_,h2⟩=> ?_
   subst h1
   exact⟨H,⟨rfl,_,_,rfl,.inr ⟨(fun u h=>(by cases h)),_,_,rfl⟩⟩,hw.below h2⟩
theorem xA{xs ys:List UInt8}{rest:List Value}(h:ys.length=xs.length):Go.Sort.putCells (fun b:UInt8=>Value.int .u8 (b.toNat:Int)) 0 ys.toArray (xs.map u8v++rest).toArray=(ys.map u8v++rest).toArray:=by
 apply Array.ext_getElem?
 intro j
 simp only[Go.Sort.putCells,Array.getElem?_mapIdx,List.getElem?_toArray]
 by_cases hj:j<xs.length
 ·rw[List.getElem?_append_left (by simpa using hj),List.getElem?_append_left (by simp;omega)]
  have hj':j<ys.length:=by omega
  simp[hj,hj']
 ·rw[List.getElem?_append_right (by simp;omega),List.getElem?_append_right (by simp;omega)]
  simp[h]
  cases e:rest[j - xs.length]? with
  | none=>rfl
  | some v=>simp;omega
theorem na:∀ (n:Nat) {w:World},Holds B H w→Holds B H (w.drewN n)
 | 0,_,h=>h
 | n+1,_,h=>(na n h).drew _
theorem BX(H:List HP)(b T cap u n:Nat)(xs:List UInt8)(rest:List Value)(hn:n=xs.length)(hl:xs.length=Lib.nDigits u)(hu:u<18446744073709551616):∀ w,Holds B (row b (xs.map u8v++rest) T::H) w→Calls Tryz.prog 65 [.slice (some ⟨b,0,none⟩) n cap,.int .u64 u].toArray w (Ret B (fun v H'=>v= .tuple #[]∧H'=row b ((Lib.decDigits u).map u8v++rest) T::H) (fun _ _=>False)):=fun w hw=>by
 subst hn
 have hd:=Lib.decDigits_length u
 have hdl:=kw u (by omega)
 have hh:Go.Sort.Holds (fun b:UInt8=>Value.int .u8 (b.toNat:Int)) w b 0 xs.toArray:=by
  intro j hj
  have hj':j<xs.length:=by simpa using hj
  have h1:=hw.cell 0 rfl (0+j)
  have h2:=hw.free 0 rfl (0+j)
  refine⟨h1.trans ?_,h2⟩
  rw[Nat.zero_add,List.getElem?_append_left (by simpa using hj')]
  simp[hj']
 have hpow:u<10 ^ xs.toArray.size:=by
  rw[show xs.toArray.size=xs.length by simp,hl]
  exact Lib.lt_pow_nDigits u
 have:=Tryz.internal_strconv_formatBase10 b 0 cap u xs.toArray w hh hpow hu (by simp;omega)
 rw[show xs.toArray.size=xs.length by simp] at this
 refine this.mono ?_
 rintro e w' ⟨rfl,n,v',dk,rfl,hf⟩
 have hdk:dk.toList=Lib.decDigits u:=by
  have h1:=hf.size
  rw[Lib.decDigits_eq, ←hl]
  apply List.ext_getElem?
  intro t
  by_cases ht:t<xs.length
  ·have h2:=hf.done t (Nat.zero_le _) ht
   rw[getElem!_pos dk t (by omega)] at h2
   simp[ht,h1,h2]
  ·rw[List.getElem?_eq_none (by simp;omega),List.getElem?_eq_none (by simp;omega)]
 refine⟨_,⟨rfl,rfl⟩,na n ?_⟩
 have hr:=hw.read 0 rfl
 have h1:=hw.put 0 rfl (.cells ((Lib.decDigits u).map u8v++rest).toArray T (0,0))
 have e:Go.Sort.putRow (fun b:UInt8=>Value.int .u8 (b.toNat:Int)) w b 0 dk={w with heap:=w.heap.setIfInBounds b (.cells ((Lib.decDigits u).map u8v++rest).toArray T (0,0))}:=by
  obtain⟨hlt,hg⟩:=Array.getElem?_eq_some_iff.1 hr
  simp only[Go.Sort.putRow,Go.Sort.mapBlock]
  congr 1
  apply Array.ext_getElem?
  intro k
  rw[Array.getElem?_modify]
  by_cases hk:b=k
  ·subst hk
   rw[hr]
   have hdk2:dk=(Lib.decDigits u).toArray:=by rw[←hdk]
   rw[hdk2]
   simp only[hlt]
   have hp:=xA (rest:=rest) (show(Lib.decDigits u).length=xs.length by rw[hd,hl])
   simp[hlt]
   show Obj.cells (Go.Sort.putCells _ 0 _ _) T (0,0)=_
   rw[hp]
  ·simp[hk]
 rw[e]
 exact h1
end
theorem D2{n:Nat}(h:n≤24):(List.replicate n (0:UInt8)).map u8v++List.replicate (24 - n) (u8v 0)=List.replicate 24 (u8v 0):=by
 rw[List.map_replicate,List.replicate_append_replicate,show n+(24 - n)=24 by omega]
theorem x7(B:World)(Fr:List HP)[cM Fr B](gl:GL B)(u:Nat)(hu:u<18446744073709551616):
 ∀ w,Holds B Fr w→Calls Tryz.prog 40 [.int .u64 u,i64 10].toArray w (aZ B Fr (str (Lib.decDigits u))):=by
 refine an func40 aa ntmps40 aa (ac (ab (kPa aa aa (ad (ac (ac (ab (kPm aa aa (kPv (ao aa aa aa) aa (ad (o7 aa (rfl) ?_)))))))))))
 refine ac (ac (ab (kPm aa aa (kPv (ao aa aa aa) aa (ad ?_)))))
 refine a8 aa (fun h12=> ?_) (fun h12=> ?_)
 ·have hlt:u<100:=by simp at h12;omega
  refine ac (ab (kPm aa aa (kPv (bR runUnderlying25 runUnderlying3 aa) aa (aw aa (au call63 aa) (yW _ u (by omega)) .free aa aa ?_))))
  refine kPa aa aa (ad (am [4,0,1] rfl (az ?_)))
  exact aq results40 aa (fun w hw=>⟨rfl,hw⟩)
 ·have hlt:¬ u<100:=by simp at h12;omega
  have hnd:Lib.nDigits u≤24:=by have:=kw u (by omega);rw[Lib.decDigits_length] at this;omega
  refine ar (ac (ab (kPb (aC zeroValue123 aa) aa fun b5=>(ad (ac (ab (kPm aa aa (aw aa (au call64 aa) (Bw gl u (by omega) hu) .free aa aa ?_))))))))
  refine kPa aa aa (ad (ac (aM (H':=row b5 ((List.replicate (Lib.nDigits u) 0).map u8v++List.replicate (24 - Lib.nDigits u) (u8v 0)) 123::Fr) (fun w hh=>by rw[D2 hnd];exact hh) (ab (kPm aa aa (kPv (kT runUnderlying123 sizeOf5 aa .no (.yesi aa aa) (Nat.zero_le _) hnd (.inr aa) aa) aa (kPm aa aa (dC aa (au call65 aa) (BX _ _ _ _ u _ (List.replicate (Lib.nDigits u) 0) _ (by simp) (by simp) hu) .free aa aa ?_))))))))
  refine ad (am [6,5,4,0,1] rfl (ac (ab (kPm aa aa (kPv (kT runUnderlying123 sizeOf5 aa .no (.yesi aa aa) (Nat.zero_le _) hnd (.inr aa) aa) aa (kPv (DE (l:=Lib.decDigits u) runUnderlying72 runUnderlying5 runUnderlying9 aa (Lib.decDigits_length u).symm (SlR.row (by simp[Lib.decDigits_length]) (by simp[Lib.decDigits_length]))) aa (kPa aa aa (ad (az ?_)))))))))
  exact aq results40 aa (fun w hw=>⟨rfl,hw.tail⟩)
theorem ub(B:World)(Fr:List HP)[cM Fr B](gl:GL B)(u:Nat)(hu:u<18446744073709551616):
 ∀ w,Holds B Fr w→Calls Tryz.prog 21 [.int .u64 u,i64 10].toArray w (aZ B Fr (str (Lib.decDigits u))):=by
 refine an func21 aa ntmps21 aa (ac (ab (kPa aa aa (ad (ac (ab (kPm aa aa (kPm aa aa (aw aa (au call40 aa) (x7 _ _ gl u hu) .free aa aa ?_)))))))))
 refine kPa aa aa (ad (az ?_))
 exact aq results21 aa (fun w hw=>⟨rfl,hw⟩)
theorem Dp{l:List UInt8}{c:UInt8}(h:0≤Lib.indexByte l c):(Lib.indexByte l c).toNat<l.length∧Lib.indexByte l c<l.length:=by
 rcases qz l c with h1 | ⟨i,h1,h2⟩
 ·omega
 ·rw[h1];omega
theorem DM{l:List UInt8}(h:0≤Lib.indexByte l 35):l.take (Lib.indexByte l 35).toNat=dw l:=by
 obtain⟨i,hi⟩:=Int.eq_ofNat_of_zero_le h
 rw[hi];exact AE hi
theorem wK{l:List UInt8}{c:UInt8}(h:¬ 0≤Lib.indexByte l c):Lib.indexByte l c= -1:=by
 have:=Lib.indexByte_ge l c
 omega
theorem py(l:List UInt8):(dw l).length≤l.length:=(List.takeWhile_sublist _).length_le
theorem Dc(x:Nat):(((x:Int)==32)||((x:Int)==9))=pB x:=by
 unfold pB
 congr 1
 ·rw[Bool.eq_iff_iff];simp;omega
 ·rw[Bool.eq_iff_iff];simp;omega
theorem yZ(B:World)(Fr:List HP)(l:List UInt8)(hl:l.length≤1000000):
 ∀ w,Holds B Fr w→Calls Tryz.prog 95 [str l,.string ⟨#[35]⟩].toArray w (Ret B (fun v H'=>(∃ a b,v= .tuple #[str (dw l),a,b])∧H'=Fr) (fun _ _=>False)):=by
 refine an func95 aa ntmps95 aa (ac (ab (kPa aa aa (kPa aa aa (kPa aa aa (ad (ac (ac (ab (kPm aa aa (kPm aa aa ?_)))))))))))
 refine aw aa (au call67 aa) (yY _ l 35) .free aa aa ?_
 refine kPa aa aa (ad (ac (ab (kPm aa aa (kPv (ao aa aa aa) aa (ad ?_))))))
 refine a8 aa (fun h12=> ?_) (fun h12=> ?_)
 ·have hge:0≤Lib.indexByte l 35:=by simpa using h12
  obtain⟨hi1,hi2⟩:=Dp hge
  refine ac (cV Tryz.mixed (by kernel_rfl) (by kernel_rfl) ?_)
  refine kQm aa aa (kQm aa aa (kQv (qV runUnderlying9 aa aa hge (by omega)) aa (kQm aa aa (kQm aa aa (kQm aa aa (kQv (me aa runUnderlying9 aa) aa (kQv (jJ aa aa (gV (by simp only[List.length_cons,List.length_nil];omega))) aa (kQv (qU runUnderlying9 aa aa (by simp only[List.length_cons,List.length_nil];omega) (by simp only[List.length_cons,List.length_nil];omega)) aa (kQa aa aa (kQa aa aa (kQa aa aa ?_)))))))))))
  refine bY (am [6,5,4,0] rfl (az ?_))
  exact tv results95 (.tmp aa) (.tmp aa) (.tmp aa) (fun w hw=>⟨_,⟨⟨_,_,by rw[DM hge]⟩,rfl⟩,hw⟩)
 ·have hlt:¬ 0≤Lib.indexByte l 35:=by simpa using h12
  refine ar (ac (ab (kPm aa aa (kPa aa aa (kPa aa aa (kPa aa aa (ad (am [6,5,4] rfl (az ?_)))))))))
  exact tv results95 (.tmp aa) (.tmp aa) (.tmp aa) (fun w hw=>⟨_,⟨⟨_,_,by rw[AF (wK hlt)]⟩,rfl⟩,hw⟩)
theorem Bi(B:World)(Fr:List HP)(l:List UInt8)(hl:l.length≤1000000):
 ∀ w,Holds B Fr w→Calls Tryz.prog 52 [str l,.string ⟨#[35]⟩].toArray w (Ret B (fun v H'=>(∃ a b,v= .tuple #[str (dw l),a,b])∧H'=Fr) (fun _ _=>False)):=by
 refine an func52 aa ntmps52 aa (ac (ab (kPa aa aa (kPa aa aa (kPa aa aa (ad (ac (ab (kPm aa aa (kPm aa aa (aH aa (au call95 aa) (yZ _ _ l hl) .free aa aa ?_)))))))))))
 rintro _ _ ⟨⟨a1,a2,rfl⟩,rfl⟩
 refine kPv (aA aa aa) aa (kPv (aA aa aa) aa (kPv (aA aa aa) aa (kPa aa aa (kPa aa aa (kPa aa aa (ad (am [6,5,4] rfl (az ?_))))))))
 exact tv results52 (.tmp aa) (.tmp aa) (.tmp aa) (fun w hw=>⟨_,⟨⟨_,_,rfl⟩,rfl⟩,hw⟩)
theorem yE(B:World)(Fr:List HP)(x:Nat):
 ∀ w,Holds B Fr w→Calls Tryz.prog 54 [.int .i32 x].toArray w (aZ B Fr (.bool (pB x))):=by
 refine an func54 aa ntmps54 aa (ac (ab (kPa aa aa (ad (ac (ab (kPm aa aa (kPv (ao aa aa aa) aa (kPm aa aa ?_)))))))))
 apply gP (tp:=8) (t:=5) (σ1:=[(5,_),(2,_)]) 3 rfl ⟨rfl,rfl,trivial⟩
 ·intro hg1
  refine al aa (ak aa) (.on aa aa (ae hg1)) aa aa (al aa (ao aa aa aa) (.on aa aa (ae hg1)) aa aa (kPv (aJ aa hg1 aa) aa ?_))
  exact aY aa ⟨rfl,rfl,trivial⟩ (gg hg1)
 ·intro hg1
  refine ap aa (.on aa aa (ai hg1)) aa (ap aa (.on aa aa (ai hg1)) aa (kPv (ay aa hg1 aa) aa ?_))
  exact aY aa ⟨rfl,rfl,trivial⟩ (ge hg1)
 refine kPa aa aa (ad (az ?_))
 exact aq results54 aa (fun w hw=>⟨by rw[Dc],hw⟩)
theorem C3{B:World}(H:List HP)(l:List UInt8)(hl:l.length≤1000000):∀ w,Holds B H w→Calls Tryz.prog 53 [str l,.func (.func 54) #[] #[]].toArray w (Ret B (fun sv H'=>H'=ra 9 sv (tok l none)::H) (fun _ _=>False)):=fun w hw=>by
 refine(Tryz.strings_FieldsFunc_grows 54 #[] call54 pB ⟨l.toArray⟩ w (by rw[gb];omega) (fun W x _ _=>(yE W [old W] x W (qD W)).mono fun e w' ⟨h1,h2⟩=>⟨h1,h2.oldb⟩)).mono fun e w' ⟨A,h1,_,h3,h4⟩=> ?_
 subst h1
 rw[pj,List.length_map,List.map_map] at h3
 refine⟨_,rfl,?_⟩
 rw[pj,List.length_map]
 exact yP hw h4 h3
theorem yG(B:World)(Fr:List HP)(l:List UInt8)(hl:l.length≤1000000):
 ∀ w,Holds B Fr w→Calls Tryz.prog 27 [str l].toArray w (Ret B (fun sv H'=>H'=ra 9 sv (tok (dw l) none)::Fr) (fun _ _=>False)):=by
 refine an func27 aa ntmps27 aa (ac (ab (kPa aa aa (ad (ac (ab (kPm aa aa (aH aa (au call52 aa) (Bi _ _ l hl) .free aa aa ?_))))))))
 rintro _ _ ⟨⟨a1,a2,rfl⟩,rfl⟩
 refine kPm aa aa (kPv (aA aa aa) aa (kPv (aA aa aa) aa (kPv (aA aa aa) aa (kPa aa aa (ad (ac (ab (kPm aa aa (aH aa (au call53 aa) (C3 _ (dw l) (by have:=py l;omega)) .free aa aa ?_)))))))))
 rintro sv _ rfl
 refine kPa aa aa (ad (am [2] rfl (az ?_)))
 exact aq results27 aa (fun w hw=>⟨_,rfl,hw⟩)
theorem fK{s:Dev}{c:Cfg}(hc:bA c):(s.block c).1.rts.length≤16:=by
 have:=hc.r2
 unfold Dev.block
 split
 ·exact Nat.zero_le _
 ·rw[aW];omega
theorem fJ{s:Dev}{c:Cfg}(hu:U64 s):∀ x∈(s.block c).1.rts,0≤x∧x<18446744073709551616:=by
 intro x hx
 unfold Dev.block at hx
 split at hx
 ·cases hx
 ·obtain⟨i,_,rfl⟩:=List.mem_map.1 hx
  exact hu.load _
theorem j7{ι:Type}{r:Loop}{cd:ι→Code}{y:Bool×ι}(h:r.state≠ .busy):(lst r cd y).state≠ .busy:=by
 unfold lst;split
 ·exact h
 ·simp
theorem tP{ι:Type}{r:Loop}{cd:ι→Code}{y:Bool×ι}(h:(lst r cd y).pending=none):y.1=true:=by
 unfold lst at h;split at h
 ·assumption
 ·cases h
theorem j6{ι:Type}{r:Loop}{cd:ι→Code}{y:Bool×ι}{c:Code}(hr:r.pending=none)(h:(lst r cd y).pending=some c):y.1=false∧c=cd y.2:=by
 unfold lst at h;split at h
 ·rw[hr] at h;cases h
 ·rename_i h1;exact⟨by simpa using h1,by simpa using h.symm⟩
def stS(p:db×Int)(x:List (Int×db)×Int):Bool×List (Int×db)×Int:=if p.2≠0 then (false,(x.1,p.2)) else (true,(mset x.1 p.1.2.2 p.1,x.2))
def Dev.startsI(s:Dev)(c:Cfg)(b:Blk):Bool×List (Int×db)×Int:=itl stS (s.objs c b (b.used.toNat+1) (b.place c 0)) ([],0)
def Dev.starts(s:Dev)(c:Cfg)(b:Blk):List (Int×db)×Int:=(s.startsI c b).2
theorem wH{α ι:Type}{st:α→ι→Bool×ι}{I:ι→Prop}(h:∀ a x,I x→(st a x).1=true→I (st a x).2):∀ (l:List α) (x:ι),I x→(itl st l x).1=true→I (itl st l x).2
 | [],x,hx,_=>hx
 | a::t,x,hx,h1=>by
   unfold itl at h1 ⊢
   split at h1
   ·rename_i ha;rw[if_pos ha];exact wH h t _ (h a x hx ha) h1
   ·cases h1
theorem xq{s:Dev}{c:Cfg}{b:Blk}(h:(s.startsI c b).1=true):(s.starts c b).2=0:=
 wH (I:=fun x=>x.2=0) (fun a x hx h=>by
  unfold stS at h ⊢;split at h
  ·cases h
  ·rename_i h1;rw[if_neg h1];exact hx) _ _ aa h
theorem we:∀ (l:List (db×Int)) (x:List (Int×db)×Int),(itl stS l x).1=false→¬ (itl stS l x).2.2=0
 | [],x,h=>by cases h
 | a::t,x,h=>by
   unfold itl at h ⊢
   split at h
   ·rename_i ha;rw[if_pos ha];exact we t _ h
   ·rename_i ha;rw[if_neg ha]
    unfold stS at ha ⊢
    split at ha
    ·rename_i h1;rw[if_pos h1];exact h1
    ·exact absurd aa ha
theorem uY{s:Dev}{c:Cfg}{b:Blk}(h:(s.startsI c b).1=false):¬ (s.starts c b).2=0:=we _ _ h
theorem nR(B:World)(Fr:List HP)(bd:Nat)(s:Dev)(c:Cfg)(hc:bA c)(b:Blk)(sv:Value)(hb:gh c b)(hsv:aL sv=true):
 ∀ w,Holds B (aB bd s::Fr) w→Calls Tryz.prog 180 [ptr bd,dY c,ly b sv].toArray w (Ret B (fun rv H'=>∃ mb,rv= .tuple #[.map (some mb),i64 (s.starts c b).2]∧H'=bx .i64 gQ mb (s.starts c b).1::aB bd s::Fr) (fun _ _=>False)):=by
 refine eI func180 aa ntmps180 aa (ac (ab (kPb (aX aa) aa fun b4=>(kPb (aX aa) aa fun b5=>(kPb (cf zeroValue259 aa) aa fun b6=>(kPb (cf zeroValue36 aa) aa fun b7=>(ad (ac (ab (kPb (dX .i64 gQ) aa fun mb=>(kPb (cf zeroValue259 aa) aa fun b8=> ?_)))))))))))
 refine kPs (aO sizeOf259 aa aa aa aa) aa (ad (ac (ac (ab (kPm aa aa (kPv (ag isAgg134 sizeOf134 aa aa) aa ?_))))))
 refine kPv (ag isAgg151 sizeOf151 aa aa) aa ?_
 refine aH aa (au call183 aa) (nW _ _ bd c b sv hsv) .free aa aa ?_
 rintro _ _ ⟨c3,c4,c5,rfl,rfl⟩
 refine ad (am [15,8,7,6] rfl (aG (kO aa call208 ?_)))
 intro l m tmps hts hkn w hh
 have hk6:=hkn 6 _ rfl
 have hk7:=hkn 7 _ rfl
 have hk8:=hkn 8 _ rfl
 refine(sE B (blk m (.deferred (some []))::row b5 [i64 b.act,i64 b.used,sv] 151::row b4 [i64 c.log,i64 c.roots,i64 c.space] 134::Fr) l 180 c3 c4 c5 bd c hc b sv hb hsv s (List (Int×db)×Int) _ aa aa (fun x=>True) (fun x=>[bx .i64 gQ mb x.1,row b6 [if x.2=0 then .map none else .map (some mb)] 259,row b7 [i64 x.2] 36,row b8 [.map (some mb)] 259]) (fun _=> .ret) stS ([],0) trivial ?_ w (hh.pk [0,1,1,1,7,2,3,2,1])).mono (Ret.mono ?_ fun _ _ h=>h.elim)
 ·intro p x _ _
  refine⟨trivial,fun E=> ?_⟩
  simp only[List.cons_append,List.nil_append]
  refine gG (n:=27) (σ:=[(16,gQ p.1),(17,i64 p.2),(6,ptr b6),(7,ptr b7),(8,ptr b8)]) func180 (by simp[fO,hts]) (KnA.knows (by simp[KnA,fO,hts];exact⟨(Array.getElem?_eq_some_iff.1 hk6).2,(Array.getElem?_eq_some_iff.1 hk7).2,(Array.getElem?_eq_some_iff.1 hk8).2⟩)) aa ?_
  refine ac (ab (kPb (aC zeroValue160 aa) aa fun b9=>(kPs (ax (vs:=[i64 p.1.1,i64 p.1.2.1,i64 p.1.2.2]) sizeOf160 aa aa aa aa aa) aa (ad (ab (kPa aa aa (ad (aP [1] (kh (aG (ac ?_)))))))))))
  refine ac (ab (kPm aa aa (kPv (ao aa aa aa) aa (ad ?_))))
  refine a8 aa (fun h19=> ?_) (fun h19=> ?_)
  ·have h19':p.2≠0:=by simpa using h19
   refine ac (ab (kPv (ah isAgg259 aa aa) aa (kPm aa aa (kPs (aO sizeOf259 aa aa aa aa) aa (kPs (aO sizeOf36 aa aa aa aa) aa (ad (am [9,6,7,8] rfl (az ?_))))))))
   have hst:stS p x=(false,(x.1,p.2)):=by unfold stS;rw[if_pos h19']
   exact wQ fun w hh=>⟨_,⟨by rw[hst],rfl⟩,by rw[hst];rw[if_neg h19'];exact(hh.dp [1])⟩
  ·have h19':p.2=0:=by simpa using h19
   refine ar (ab (kPv (ah isAgg259 aa aa) aa (kPl kq isAgg3 aa aa aa aa (kPv (ag isAgg160 sizeOf160 aa aa) aa ?_))))
   refine kPs (gA (enc:=gQ) (u:=p.1) runUnderlying259 runUnderlying3 aa aa aa aa) aa (ad (am [6,7] rfl ?_))
   have hst:stS p x=(true,(mset x.1 p.1.2.2 p.1,x.2)):=by unfold stS;rw[if_neg (by omega)]
   exact kg fun w hh=>⟨_,⟨by rw[hst],rfl⟩,by rw[hst];exact(hh.dp [1])⟩
 rintro _ _ ⟨_,rfl⟩
 simp only[List.cons_append,List.nil_append]
 refine⟨_,_,fun w hh=>hh,j7 (by simp[fO]),fun hp=> ?_,fun c' hc'=> ?_⟩
 rotate_left
 ·obtain⟨h1,rfl⟩:=j6 rfl hc'
  refine az ?_
  exact wo results180 (.at 9 .nil) (.aL aa isAgg259 aa) (.aL aa isAgg36 aa) fun w hh=>⟨_,⟨mb,by have hb:=uY h1;unfold Dev.starts Dev.startsI at hb ⊢;rw[if_neg hb],rfl⟩,((hh.dp [0,0,0,0,2,2,2,2,2,2]).pk [1])⟩
 have hy:=xq (s:=s) (c:=c) (b:=b) (tP hp)
 refine ac (ab (kPv (ah isAgg259 aa aa) aa (kPs (aO sizeOf259 aa aa aa aa) aa (kPs (aO sizeOf36 aa aa aa aa) aa (ad (az ?_))))))
 exact wo results180 (.at 9 (.nil)) (.aL aa isAgg259 aa) (.aL aa isAgg36 aa) (fun w hh=>⟨_,⟨mb,by rw[hy],rfl⟩,((hh.dp [0,0,0,0,2,2,2,2,2,2]).pk [1])⟩)
abbrev nj(o:db):List Value:=[i64 o.1,i64 o.2.1,i64 o.2.2]
theorem r9:lC 3 nj:=⟨fun _=>rfl,fun _=>rfl⟩
theorem oJ(o:Option Int):pS i64 (i64 0) o=i64 (o.getD 0):=by cases o<;>rfl
abbrev gU:=List (Int×Unit)×List db
def Dev.see(s:Dev)(c:Cfg)(b:Blk)(x:gU)(v:Int):gU:=
 if (bK x.1 v).isSome=true∨b.has c v=false then x
 else if (s.objOf c b v).2=0 then (mset x.1 v (),x.2++[(s.objOf c b v).1]) else x
def Dev.namesOf(s:Dev)(o:db):List Int:=(s.objNames o o.2.1.toNat 0).map fun p=>IntKind.u64.wrap p.2
def Dev.reachL(s:Dev)(c:Cfg)(b:Blk):Nat→gU→List db
 | 0,_=>[]
 | f+1,x=>match x.2 with
   | []=>[]
   | o::t=>o::s.reachL c b f ((s.namesOf o).foldl (s.see c b) (x.1,t))
def Dev.reach(s:Dev)(c:Cfg)(b:Blk)(ws:List Int):List db:=s.reachL c b (b.used.toNat+1) (ws.foldl (s.see c b) ([],[]))
structure pL(s:Dev)(c:Cfg)(b:Blk)(x:gU):Prop where
 nd:(x.1.map Prod.fst).Nodup
 rng:∀ k∈x.1.map Prod.fst,c.frm b.act≤k∧k<c.frm b.act+b.used
 obj:∀ o∈x.2,lB o
theorem Bh{s:Dev}{c:Cfg}{b:Blk}:pL s c b ([],[]):=⟨List.nodup_nil,fun _ h=>(by cases h),fun _ h=>(by cases h)⟩
theorem gv{α:Type}{l:List (Int×α)}{k:Int}{a:α}(h:bK l k=none):mset l k a=l++[(k,a)]:=by
 induction l with
 | nil=>rfl
 | cons p t ih=>
   unfold bK at h
   split at h
   ·cases h
   ·rename_i hp;unfold mset;rw[if_neg hp,ih h];rfl
theorem CE{s:Dev}{c:Cfg}(hc:bA c){b:Blk}(hb:gh c b){x:gU}(h:pL s c b x)(v:Int):pL s c b (s.see c b x v):=by
 unfold Dev.see
 split
 ·exact h
 split
 ·rename_i h1 h2
  have h3:bK x.1 v=none:=by cases hm:bK x.1 v with
   | none=>rfl
   | some _=>exact absurd (.inl (by rw[hm];rfl)) h1
  have h4:b.has c v=true:=by cases hm:b.has c v with
   | true=>rfl
   | false=>exact absurd (.inr hm) h1
  have h5:=kC hc hb h4
  rw[gv h3]
  refine⟨?_,fun k hk=> ?_,fun o ho=> ?_⟩
  ·rw[List.map_append,List.nodup_append]
   exact⟨h.nd,by simp,fun a ha b' hb'=>by simp at hb';subst hb';intro e;subst e;exact qu h3 ha⟩
  ·rw[List.map_append,List.mem_append] at hk
   rcases hk with hk | hk
   ·exact h.rng k hk
   ·simp at hk;subst hk;omega
  ·rcases List.mem_append.1 ho with ho | ho
   ·exact h.obj o ho
   ·rw[List.mem_singleton.1 ho];exact gY hc hb h2
 ·exact h
theorem kI:∀ (n:Nat) (a:Int) (l:List Int),l.Nodup→(∀ k∈l,a≤k∧k<a+n)→l.length≤n
 | 0,a,l,_,h=>by
   cases l with
   | nil=>exact Nat.le_refl 0
   | cons x t=>have:=h x (List.mem_cons_self ..);omega
 | n+1,a,l,hn,h=>by
   have h1:=kI n a (l.erase (a+n)) (hn.erase _) fun k hk=>by
    have h2:=h k (List.mem_of_mem_erase hk)
    have h3:k≠a+n:=fun e=>by subst e;exact(List.Nodup.not_mem_erase hn) hk
    omega
   have h4:l.length≤(l.erase (a+n)).length+1:=by rw[List.length_erase];split<;>omega
   omega
theorem lK{s:Dev}{c:Cfg}{b:Blk}(hb:gh c b){x:gU}(h:pL s c b x):x.1.length≤b.used.toNat:=by
 have h1:=hb.used
 have:=kI b.used.toNat (c.frm b.act) _ h.nd fun k hk=>by have:=h.rng k hk;omega
 simpa using this
def y5(b:Blk)(x:gU):Nat:=b.used.toNat+x.2.length - x.1.length
theorem y7{s:Dev}{c:Cfg}{b:Blk}(x:gU)(v:Int):(s.see c b x v).2.length+x.1.length=x.2.length+(s.see c b x v).1.length:=by
 unfold Dev.see
 split
 ·omega
 split
 ·rename_i h1 h2
  have h3:bK x.1 v=none:=by cases hm:bK x.1 v with
   | none=>rfl
   | some _=>exact absurd (.inl (by rw[hm];rfl)) h1
  rw[gv h3];simp;omega
 ·omega
theorem qO{s:Dev}{c:Cfg}{b:Blk}:∀ (l:List Int) (x:gU),(l.foldl (s.see c b) x).2.length+x.1.length=x.2.length+(l.foldl (s.see c b) x).1.length
 | [],_=>rfl
 | v::t,x=>by
   have h1:=qO (s:=s) (c:=c) (b:=b) t (s.see c b x v)
   have h2:=y7 (s:=s) (c:=c) (b:=b) x v
   rw[List.foldl_cons];omega
theorem y6(B:World)(Fr:List HP)(c1 c2 c3 c4 c5 mr bd:Nat)(s:Dev)(c:Cfg)(hc:bA c)(b:Blk)(sv:Value)(hb:gh c b)(hsv:aL sv=true)(x:gU)(hxl:x.2.length≤1000000)(v:Int)(hv:0≤v∧v<18446744073709551616):
 ∀ w,Holds B (row c1 [.map (some mr)] 278::row c2 [i64 b.act,i64 b.used,sv] 151::row c3 [i64 c.log,i64 c.roots,i64 c.space] 134::row c4 [ptr bd] 90::mM 279 160 3 nj c5 x.2::bx .u64 bX mr x.1::aB bd s::Fr) w→Calls Tryz.prog 195 [w64 v,ptr c1,ptr c2,ptr c3,ptr c4,ptr c5].toArray w (Ret B (fun _ H'=>H'=row c1 [.map (some mr)] 278::row c2 [i64 b.act,i64 b.used,sv] 151::row c3 [i64 c.log,i64 c.roots,i64 c.space] 134::row c4 [ptr bd] 90::mM 279 160 3 nj c5 (s.see c b x v).2::bx .u64 bX mr (s.see c b x v).1::aB bd s::Fr) (fun _ _=>False)):=by
 refine an func195 aa ntmps195 aa (ac (ac (ab (kPv (ah isAgg278 aa aa) aa (kPm aa aa (kPv ((fB runUnderlying278 runUnderlying25 zeroValue214 aa aa).eq (wD _)) aa (kPm aa aa (kPv (aA aa aa) aa (kPv (aA aa aa) aa (kPb (aC zeroValue214 aa) aa fun b7=>(kPs (ax (vs:=[]) sizeOf214 aa aa aa aa aa) aa ?_)))))))))))
 refine kPa aa aa (ad (am [8,0,1,2,3,4,5] rfl (ac (ab (kPm aa aa (kPm aa aa ?_))))))
 apply gP (tp:=24) (t:=18) (σ1:=[(18,_),(0,_),(1,_),(2,_),(3,_),(4,_),(5,_)]) 6 rfl (aE rfl)
 ·intro hg1
  refine al aa (ag isAgg151 sizeOf151 aa aa) (.on aa aa (ae hg1)) aa aa ?_
  refine al aa (ag isAgg134 sizeOf134 aa aa) (.on aa aa (ae hg1)) aa aa ?_
  refine al aa (ak aa) (.on aa aa (ae hg1)) aa aa (aw aa (au call182 aa) (rP _ _ c hc b sv hb hsv _ hv) (.on aa aa (ae hg1)) aa aa ?_)
  refine al aa (bz aa) (.on aa aa (ae hg1)) aa aa (kPv (aJ aa hg1 aa) aa ?_)
  exact aY aa (aE aa) (gg hg1)
 ·intro hg1
  refine ap aa (.on aa aa (ai hg1)) aa (ap aa (.on aa aa (ai hg1)) aa (ap aa (.on aa aa (ai hg1)) aa (ap aa (.on aa aa (ai hg1)) aa (ap aa (.on aa aa (ai hg1)) aa (kPv (ay aa hg1 aa) aa ?_)))))
  exact aY aa (aE aa) (ge hg1)
 refine ad ?_
 refine a8 aa (fun h24=> ?_) (fun h24=> ?_)
 ·have h1:(bK x.1 v).isSome=true∨b.has c v=false:=by simpa using h24
  have hres:s.see c b x v=x:=by unfold Dev.see;rw[if_pos h1]
  refine az ?_
  exact iX results195 (fun w hh=>⟨_,rfl,by rw[hres];exact(hh.dp [0])⟩)
 ·have h1:¬((bK x.1 v).isSome=true∨b.has c v=false):=by simpa using h24
  have hh0:b.has c v=true:=by cases hm:b.has c v with
   | true=>rfl
   | false=>exact absurd (.inr hm) h1
  have hvb:=kC hc hb hh0
  refine ar (ac (ab (kPv (ah isAgg90 aa aa) aa (kPv (ag isAgg134 sizeOf134 aa aa) aa ?_))))
  refine kPv (ag isAgg151 sizeOf151 aa aa) aa ?_
  refine kPm aa aa (kPv (bR runUnderlying25 runUnderlying3 aa) aa (aw aa (au call147 aa) (bI (q:=aB) (fun Fr=>j2 _ Fr _ _ c hc b sv hb hsv v (by omega))) .free aa aa ?_))
  refine kPm aa aa (kPv (aA aa aa) aa (kPv (aA aa aa) aa (kPb (aC zeroValue160 aa) aa fun b9=>(kPs (ax (vs:=_) sizeOf160 aa aa aa aa aa) aa (kPa aa aa (ad (am [10,9,0,1,5] rfl (ac (ab (kPm aa aa (kPv (ao aa aa aa) aa ?_)))))))))))
  refine ad ?_
  refine a8 aa (fun h35=> ?_) (fun h35=> ?_)
  ·have h2:(s.objOf c b v).2=0:=by simpa using h35
   have hres:s.see c b x v=(mset x.1 v (),x.2++[(s.objOf c b v).1]):=by unfold Dev.see;rw[if_neg h1,if_pos h2]
   refine ac (ab (kPv (ah isAgg278 aa aa) aa (kPm aa aa (kPv (aQ aa (nN)) aa (kPs (gA (enc:=bX) (u:=()) runUnderlying278 runUnderlying25 aa aa aa aa) aa (ad (am [9,5] rfl (ab (aP [6] (wO fun rv hrv=>(kPv (ah isAgg279 aa aa) aa ?_)))))))))))
   refine kPv (ag isAgg160 sizeOf160 aa aa) aa ?_
   refine kPb (pE r9 (v:=(s.objOf c b v).1) runUnderlying279 sizeOf160 zeroValue160 ⟨⟨by decide,by decide⟩,rfl⟩ rfl aa) aa fun b41=>(aP [2] (cJ aa (ix r9 (ys:=[(s.objOf c b v).1]) aa aa runUnderlying279 runUnderlying279 ⟨_,rfl⟩ sizeOf160 zeroValue160 aa CW aa aa (SlM.row (b:=b41) aa aa) (Nat.succ_pos _) (by simp;omega)) .free aa aa ?_))
   rintro rv2 _ ⟨hrv2,rfl⟩
   refine kPs (aO sizeOf279 aa aa (by first | rfl | assumption) rfl) rfl ?_;refine ad ?_
   exact cI results195 (fun w hh=>⟨_,rfl,by rw[hres];exact(li hrv2 ((hh.dp [1,2,2]).pk [1])).pk [1,1,1,1]⟩)
  ·have h2:¬ (s.objOf c b v).2=0:=by simpa using h35
   have hres:s.see c b x v=x:=by unfold Dev.see;rw[if_neg h1,if_neg h2]
   refine ar ?_
   exact cI results195 (fun w hh=>⟨_,rfl,by rw[hres];exact(hh.dp [0,0])⟩)
theorem oX{α ι:Type}{f:ι→α→ι}:∀ (l:List α) (x:ι),itl (fun p x=>(true,f x p)) l x=(true,l.foldl f x)
 | [],_=>rfl
 | a::t,x=>by unfold itl;rw[if_pos rfl];exact oX t _
theorem BC{α ι:Type}{st:α→ι→Bool×ι}{a:α}{t:List α}{x:ι}(h:(st a x).1=true):itl st (a::t) x=itl st t (st a x).2:=by
 conv=>lhs;unfold itl
 rw[if_pos h]
theorem CU(v:Int):0≤IntKind.u64.wrap v∧IntKind.u64.wrap v<18446744073709551616:=by
 simp[IntKind.wrap,IntKind.bits,IntKind.signed]
 omega
theorem ox{s:Dev}{c:Cfg}{b:Blk}{x:gU}(h:x.2=[]):∀ n,s.reachL c b n x=[]
 | 0=>rfl
 | n+1=>by unfold Dev.reachL;rw[h]
theorem xn(B:World)(E:List HP)(l f b1 b2 b3 b4 bd:Nat)(c:Cfg)(hc:bA c)(b:Blk)(sv:Value)(hb:gh c b)(hsv:aL sv=true)(s:Dev)(q:Option Addr)(cap:Nat)(ws:List Int)(hws:∀ v∈ws,0≤v∧v<18446744073709551616)(hwn:ws.length≤1000000)(hwq:∀ i,i<ws.length→∃ b off,q=some ⟨b,off,none⟩)(ι:Type)(r:Loop)(hrf:r.fn=f)(hrp:r.params.size=1)(I:ι→Prop)(Hx:ι→List HP)(cd:ι→Code)(st:db→ι→Bool×ι)(y0:ι)(h0:I y0)(hwl:SlR B (Hx y0++E) (.slice q ws.length cap) (ws.map w64))(hround:∀ (p:db) (x:ι),lB p→I x→I (st p x).2∧∀ (E:List HP) w,Holds B (blk l (.loop r)::aB bd s::(Hx x++E)) w→RoundIn (Wd (cxF f)) 0 Tryz.prog l f ((r.params.zip [gQ p].toArray).foldl (fun tmps (t,a)=>tmps.setIfInBounds t a) r.tmps) r.assign r.body w (Ret B (fun rv H'=>rv= .bool (st p x).1∧H'=blk l (.loop (lst r cd (st p x)))::aB bd s::(Hx (st p x).2++E)) (fun _ _=>False))):
 ∀ w,Holds B (blk l (.loop r)::row b1 [i64 b.act,i64 b.used,sv] 151::row b2 [i64 c.log,i64 c.roots,i64 c.space] 134::row b3 [ptr bd] 90::row b4 [.slice q ws.length cap] 30::aB bd s::(Hx y0++E)) w→Calls Tryz.prog 194 [.func (.yield l) #[] #[],ptr b1,ptr b2,ptr b3,ptr b4].toArray w (Ret B (fun _ H'=>I (itl st (s.reach c b ws) y0).2∧H'=blk l (.loop (lst r cd (itl st (s.reach c b ws) y0)))::aB bd s::(Hx (itl st (s.reach c b ws) y0).2++E)) (fun _ _=>False)):=by
 refine eI func194 aa ntmps194 aa ?_
 have hbu:=hb.used
 have hcs:=hc.s2
 refine ac (ab (kPb (dX .u64 bX) aa fun mr=>(kPb (cf zeroValue278 aa) aa fun b6=> ?_)))
 refine kPs (aO sizeOf278 aa aa (by first | rfl | assumption) rfl) rfl ?_;refine ad ?_;refine ac ?_;refine ab ?_;refine kPb (cf zeroValue279 aa) aa fun b7=> ?_;refine aM (fun w hh=>yH (α:=db) (T:=160) (m:=3) (enc:=nj) hh) ?_;refine ad ?_;refine ac ?_
 refine ab (kPv (dz aa aa) aa (kPb (cf zeroValue280 aa) aa fun b8=> ?_))
 refine kPs (aO sizeOf280 aa aa (by first | rfl | assumption) rfl) rfl ?_;refine ad ?_;refine ac ?_;refine ac ?_;refine ab ?_;refine kPv (ah isAgg30 aa aa) aa ?_;refine kPv (bD aa runUnderlying30 ⟨_,rfl⟩ rfl) aa ?_;refine kPm aa aa ?_;refine ad ?_;refine aG ?_
 refine cK (ι:=Nat×gU) [17,16,8,7,0,3] (fun (k,x)=>(k≤ws.length)∧(x=(ws.take k).foldl (s.see c b) ([],[]))∧(pL s c b x)∧(x.2.length≤x.1.length)) (fun (k,x)=>[(18,i64 k)]) (fun (k,x)=>row b6 [.map (some mr)] 278::row b1 [i64 b.act,i64 b.used,sv] 151::row b2 [i64 c.log,i64 c.roots,i64 c.space] 134::row b3 [ptr bd] 90::mM 279 160 3 nj b7 x.2::bx .u64 bX mr x.1::aB bd s::row b8 [.func (.func 195) #[] #[ptr b6,ptr b1,ptr b2,ptr b3,ptr b7]] 280::blk l (.loop r)::row b4 [.slice q ws.length cap] 30::(Hx y0++E)) (fun (k,x)=>ws.length - k) (0,([],[])) (⟨Nat.zero_le _,rfl,Bh,Nat.le_refl _⟩) (fun a w st=>st.to ⟨rfl,trivial⟩ (fun hh=>(hh.pk [2,4,4,4,1,1,3]))) ?_
 rintro⟨k,x⟩ ⟨hk0,hxe,hxw,hxl⟩
 try simp only at hk0 hxe hxw hxl ⊢
 refine cu (σ':=[(18,i64 k),(17,_),(16,_),(8,_),(7,_),(0,_),(3,_)]) (aE aa) (ac (ab (kPv (ao aa aa aa) aa (ad (ac ?_)))))
 refine a8 aa (fun h19=> ?_) (fun h19=> ?_)
 ·have hk:k<ws.length:=by simp at h19;omega
  obtain⟨bq,oq,rfl⟩:=hwq k hk
  have hsl:=lK hb hxw
  refine ar (ac (aG (ac (ab (kPv (cg runUnderlying30 sizeOf25 aa aa (by omega) (by omega)) aa ?_)))))
  refine kPv (bP (v:=w64 ws[k]) isAgg25 (hwl.up) aa (by rw[Int.toNat_natCast,List.getElem?_map,List.getElem?_eq_getElem hk];rfl)) aa ?_
  refine kPa aa aa (ad (ab (kPv (ah isAgg280 aa aa) aa (kPm aa aa ?_))))
  refine aU aa (iO call195 aa aa) (y6 B _ b6 b1 b2 b3 b7 mr bd s c hc b sv hb hsv x (by omega) ws[k] (hws _ (List.getElem_mem hk))) .free aa aa ?_ ?_
  rotate_left
  ·rintro _ _ ⟨⟩
  rintro _ _ rfl
  have hm1:=y7 (s:=s) (c:=c) (b:=b) x ws[k]
  refine ad (am [18,17,16,8,7,0,3] rfl (ab (kPv (aN aa aa) aa (kPm aa aa (ad ?_)))))
  exact fun a w st_=>⟨(k+1,(s.see c b x ws[k])),⟨by omega,by rw[hxe,List.take_succ_eq_append_getElem hk,List.foldl_append];rfl,CE hc hb hxw _,by simp only;omega⟩,by simp only;omega,st_.to (aE aa) (fun hh=>hh)⟩
 ·have hk:¬ k<ws.length:=by simp at h19;omega
  obtain rfl:k=ws.length:=by omega
  rw[List.take_length] at hxe
  refine bF (aG (ua (ι:=gU×ι×Nat×List Nat) [8,7,0,3] (fun (x,y,n,ms)=>(pL s c b x)∧(x.2.length≤x.1.length)∧(I y)∧(y5 b x<n)∧(itl st (s.reach c b ws) y0=itl st (s.reachL c b n x) y)) (fun (x,y,n,ms)=>vm ms) (fun (x,y,n,ms)=>[]) (fun (x,y,n,ms)=>blk l (.loop r)::aB bd s::row b6 [.map (some mr)] 278::row b1 [i64 b.act,i64 b.used,sv] 151::row b2 [i64 c.log,i64 c.roots,i64 c.space] 134::row b3 [ptr bd] 90::mM 279 160 3 nj b7 x.2::bx .u64 bX mr x.1::row b8 [.func (.func 195) #[] #[ptr b6,ptr b1,ptr b2,ptr b3,ptr b7]] 280::row b4 [.slice q ws.length cap] 30::gw ms::(Hx y++E)) (fun (x,y,n,ms)=>n) (x,y0,b.used.toNat+1,[]) (⟨hxw,hxl,h0,by unfold y5;omega,by rw[hxe];rfl⟩) (fun a w st=>st.to trivial (fun hh=>((vl (hh.pk [8,6])).pk [1,1,1,1,1,1,1,1,1,1]))) ?_))
  rintro⟨x,y,n,ms⟩ ⟨hxw,hxl,hIy,hn,hinv⟩
  try simp only at hxw hxl hIy hn hinv ⊢
  refine cu (σ':=[(8,_),(7,_),(0,_),(3,_)]) (aE aa) (ac (ac (aP [6] (wO fun rv hrv=>(aP [1] (iZ fun q2 cap2 hq2 hqi=> ?_))))))
  subst hq2
  refine ab (kPv (ah isAgg279 aa aa) aa (kPv (bD aa runUnderlying279 ⟨_,rfl⟩ rfl) aa (kPv (ao aa aa aa) aa (ad ?_))))
  refine a8 aa (fun h28=> ?_) (fun h28=> ?_)
  ·obtain⟨x1,x2⟩:=x
   obtain⟨o,t,rfl⟩:∃ o t,x2=o::t:=by
    cases x2 with
    | nil=>simp at h28
    | cons o t=>exact⟨o,t,rfl⟩
   obtain⟨bq2,oq2,rfl⟩:=hqi 0 (Nat.succ_pos _)
   have ho:lB o:=hxw.obj o (List.mem_cons_self ..)
   obtain⟨n,rfl⟩:∃ m,n=m+1:=⟨n - 1,by omega⟩
   have hrl:s.reachL c b (n+1) (x1,o::t)=o::s.reachL c b n ((s.namesOf o).foldl (s.see c b) (x1,t)):=rfl
   have hIy2:=(hround o y ho hIy).1
   simp only at hrv hxl ⊢
   refine ar (aG (ac (ab (kPv (ah isAgg279 aa aa) aa (kPv (jT (m:=oq2+0*3) runUnderlying279 sizeOf160 aa aa (by decide) (by simp only[List.length_cons];omega) aa) aa (kPv (gK (i:=0) isAgg160 sizeOf160 (iS r9 0 aa) aa aa) aa (kPb (aC zeroValue160 aa) aa fun b11=>(kPs (ax (vs:=_) sizeOf160 aa aa aa aa aa) aa (ad (ac (ab ?_)))))))))))
   refine kPv (ah isAgg279 aa aa) aa (aP [1] (cJ aa (sn r9 (v:=o) (xs:=t) runUnderlying279 sizeOf160 aa aa) .free aa aa ?_))
   rintro rv3 _ ⟨hrv3,rfl⟩
   refine kPs (aO sizeOf279 aa aa (by first | rfl | assumption) rfl) rfl ?_;refine ad ?_;refine am [11,8,7,0,3] rfl ?_;refine ac ?_;refine ac ?_;refine aP [2,0] ?_;refine aM (fun w hh=>li hrv3 hh) ?_;refine aP [2,2,1,1,1,1,1] ?_;refine ab ?_;refine kPm aa aa ?_;refine kPv (ag isAgg160 sizeOf160 aa aa) aa ?_
   refine fU (f:=f) (r:=r) (H1:=aB bd s::(Hx y++([row b11 [i64 o.1,i64 o.2.1,i64 o.2.2] 160,row b6 [.map (some mr)] 278,row b1 [i64 b.act,i64 b.used,sv] 151,row b2 [i64 c.log,i64 c.roots,i64 c.space] 134,row b3 [ptr bd] 90,mM 279 160 3 nj b7 t,bx .u64 bX mr x1,row b8 [.func (.func 195) #[] #[ptr b6,ptr b1,ptr b2,ptr b3,ptr b7]] 280,row b4 [.slice q ws.length cap] 30,gw ms]++E))) aa aa (fun w hh=>(Holds.hop [row b11 [i64 o.1,i64 o.2.1,i64 o.2.2] 160,row b6 [.map (some mr)] 278,row b1 [i64 b.act,i64 b.used,sv] 151,row b2 [i64 c.log,i64 c.roots,i64 c.space] 134,row b3 [ptr bd] 90,mM 279 160 3 nj b7 t,bx .u64 bX mr x1,row b8 [.func (.func 195) #[] #[ptr b6,ptr b1,ptr b2,ptr b3,ptr b7]] 280,row b4 [.slice q ws.length cap] 30,gw ms] (Hx y) hh)) (by rw[hrp];rfl) hrf ((hround o y ho hIy).2 ([row b11 [i64 o.1,i64 o.2.1,i64 o.2.2] 160,row b6 [.map (some mr)] 278,row b1 [i64 b.act,i64 b.used,sv] 151,row b2 [i64 c.log,i64 c.roots,i64 c.space] 134,row b3 [ptr bd] 90,mM 279 160 3 nj b7 t,bx .u64 bX mr x1,row b8 [.func (.func 195) #[] #[ptr b6,ptr b1,ptr b2,ptr b3,ptr b7]] 280,row b4 [.slice q ws.length cap] 30,gw ms]++E)) .free aa ?_ ?_
   rotate_left
   ·rintro _ _ ⟨⟩
   rintro _ _ ⟨rfl,rfl⟩
   refine aM (H':=blk l (.loop (lst r cd (st o y)))::aB bd s::([row b11 [i64 o.1,i64 o.2.1,i64 o.2.2] 160,row b6 [.map (some mr)] 278,row b1 [i64 b.act,i64 b.used,sv] 151,row b2 [i64 c.log,i64 c.roots,i64 c.space] 134,row b3 [ptr bd] 90,mM 279 160 3 nj b7 t,bx .u64 bX mr x1,row b8 [.func (.func 195) #[] #[ptr b6,ptr b1,ptr b2,ptr b3,ptr b7]] 280,row b4 [.slice q ws.length cap] 30,gw ms]++(Hx (st o y).2++E))) (fun w hh=>Holds.hop (Hx (st o y).2) [row b11 [i64 o.1,i64 o.2.1,i64 o.2.2] 160,row b6 [.map (some mr)] 278,row b1 [i64 b.act,i64 b.used,sv] 151,row b2 [i64 c.log,i64 c.roots,i64 c.space] 134,row b3 [ptr bd] 90,mM 279 160 3 nj b7 t,bx .u64 bX mr x1,row b8 [.func (.func 195) #[] #[ptr b6,ptr b1,ptr b2,ptr b3,ptr b7]] 280,row b4 [.slice q ws.length cap] 30,gw ms] hh) ?_
   simp only[List.cons_append,List.nil_append]
   refine kPv (bz aa) aa (ad ?_)
   refine a8 aa (fun h37=> ?_) (fun h37=> ?_)
   ·have hg:(st o y).1=false:=by simpa using h37
    refine az ?_
    exact vc results194 (tN 11) (fun w hh=>⟨_,⟨by rw[hinv,hrl,zG hg];exact hIy2,by rw[hinv,hrl,zG hg]⟩,(hh.dp [2,2,2,2,2,2,2,2,2])⟩)
   ·have hg:(st o y).1=true:=by simpa using h37
    refine ar (ac (ab (kPv (ag isAgg160 sizeOf160 aa aa) aa ?_)))
    refine kPv (ah isAgg90 aa aa) aa (aH aa (au call196 aa) (qj _ _ o bd) .free aa aa ?_)
    rintro _ _ ⟨n1,n2,rfl,rfl⟩
    refine ad (am [40,8,7,0,3] rfl (aG (kO aa call214 ?_)))
    intro l2 m tmps hts hkn w hh
    have hk8:=hkn 8 _ rfl
    have hlr:lst r cd (st o y)=r:=by unfold lst;rw[if_pos hg]
    have hh2:=((hh.dp [6]).pk [0,1,1,2,2,2,2,2,2,2,2,1,1,1])
    rw[hlr] at hh2
    refine(zo B l2 194 n1 n2 bd o ho s gU _ aa aa (fun x=>x.2.length≤x.1.length∧pL s c b x) (fun x=>row b6 [.map (some mr)] 278::row b1 [i64 b.act,i64 b.used,sv] 151::row b2 [i64 c.log,i64 c.roots,i64 c.space] 134::row b3 [ptr bd] 90::mM 279 160 3 nj b7 x.2::bx .u64 bX mr x.1::row b8 [.func (.func 195) #[] #[ptr b6,ptr b1,ptr b2,ptr b3,ptr b7]] 280::blk l (.loop r)::row b4 [.slice q ws.length cap] 30::gw ms::blk m (.deferred (some []))::(Hx (st o y).2++E)) (fun _=> .ret) (fun (p:Int×Int) (x:gU)=>(true,s.see c b x (IntKind.u64.wrap p.2))) (x1,t) ?_ ?_ w hh2).mono (Ret.mono ?_ fun _ _ h=>h.elim)
    ·exact⟨by simp only[List.length_cons] at hxl;simp only;omega,⟨hxw.nd,hxw.rng,fun o' ho'=>hxw.obj o' (List.mem_cons_of_mem _ ho')⟩⟩
    ·rintro p x ⟨hxl,hxw⟩
     have hsl:=lK hb hxw
     have hm1:=y7 (s:=s) (c:=c) (b:=b) x (IntKind.u64.wrap p.2)
     refine⟨⟨by simp only;omega,CE hc hb hxw _⟩,?_⟩
     refine gG (n:=47) (σ:=[(41,i64 p.1),(42,i64 p.2),(8,ptr b8)]) func194 (by simp[fO,hts]) (KnA.knows (by simp[KnA,fO,hts];exact(Array.getElem?_eq_some_iff.1 hk8).2)) aa ?_;refine ab ?_;refine kPa aa aa ?_;refine ad ?_;refine kh ?_;refine aG ?_;refine ab ?_;refine kPv (ah isAgg280 aa aa) aa ?_;refine kPm aa aa ?_;refine kPv (bR runUnderlying3 runUnderlying25 aa) aa ?_
     refine aP [4,4,4,4,4,4,3] ?_
     refine aU aa (iO call195 aa aa) (y6 B _ b6 b1 b2 b3 b7 mr bd s c hc b sv hb hsv x (by omega) (IntKind.u64.wrap p.2) (CU _)) .free aa aa ?_ ?_
     rotate_left
     ·rintro _ _ ⟨⟩
     rintro _ _ rfl
     refine ad (am [] rfl (aP [7] ?_))
     exact kg fun w hh=>⟨_,⟨rfl,rfl⟩,(hh.pk [0,7,7,6])⟩
    rintro _ _ ⟨⟨hxl2,hxw2⟩,rfl⟩
    rw[oX] at hxl2 hxw2 ⊢
    have hfe:List.foldl (fun x (p:Int×Int)=>s.see c b x (IntKind.u64.wrap p.2)) (x1,t) (s.objNames o o.2.1.toNat 0)=(s.namesOf o).foldl (s.see c b) (x1,t):=by unfold Dev.namesOf;rw[List.foldl_map]
    rw[hfe] at hxl2 hxw2 ⊢
    have hm2:=qO (s:=s) (c:=c) (b:=b) (s.namesOf o) (x1,t)
    simp only at hxl2 hxw2 hm2
    have hs1:=lK hb hxw2
    have hs2:=lK hb hxw
    simp only at hs1 hs2
    refine⟨_,_,fun w hh=>hh,j7 (by simp[fO]),fun hp=> ?_,fun c' hc'=>absurd (j6 aa hc').1 (fun h=>Bool.noConfusion h)⟩
    exact fun a w st_=>⟨(_,(st o y).2,n,m::ms),⟨hxw2,hxl2,hIy2,by unfold y5 at hn ⊢;simp only[List.length_cons] at hn ⊢;omega,by rw[hinv,hrl,BC hg]⟩,by simp only;omega,st_.to (aE aa) (fun hh=>((tO ((hh.dp [0,0,0]).pk [11,10,8])).pk [1,1,1,1,1,1,1,1,1,1]))⟩
  ·have hxn:x.2=[]:=by
    cases hx2:x.2 with
    | nil=>rfl
    | cons o t=>rw[hx2] at h28;simp at h28
   refine bF ?_
   exact ls results194 (tN 11) (fun w hh=>⟨_,⟨by rw[hinv,ox hxn];exact hIy,by rw[hinv,ox hxn];rfl⟩,(hh.dp [0,0,2,2,2,2,2,2,2])⟩)
theorem sG(B:World)(H:List HP)(bd:Nat)(c:Cfg)(b:Blk)(sv:Value)(hsv:aL sv=true)(wv:Value)(hwv:aL wv=true):
 ∀ w,Holds B H w→Calls Tryz.prog 154 [ptr bd,dY c,ly b sv,wv].toArray w (Ret B (fun v H'=>∃ b1 b2 b3 b4,v= .func (.func 194) [].toArray [ptr b1,ptr b2,ptr b3,ptr b4].toArray∧H'=row b4 [wv] 30::row b1 [i64 b.act,i64 b.used,sv] 151::row b2 [i64 c.log,i64 c.roots,i64 c.space] 134::row b3 [ptr bd] 90::H) (fun _ _=>False)):=by
 refine an func154 aa ntmps154 aa (ac (ab (kPb (dL aa aa) aa fun b4=>(kPb (aX aa) aa fun b5=>(kPb (aX aa) aa fun b6=>(kPb (dL aa hwv) aa fun b7=>(kPa aa aa (ad (ac (ab (kPv (dz aa aa) aa ?_)))))))))))
 refine kPa aa aa (ad (am [8] rfl (az ?_)))
 exact aq results154 aa (fun w hw=>⟨_,⟨_,_,_,_,rfl,rfl⟩,hw⟩)
def y3(n:Int)(o:db):Int:=IntKind.i64.wrap (n+(o.1+1))
def Dev.reachSize(s:Dev)(c:Cfg)(b:Blk)(ws:List Int):Int:=(s.reach c b ws).foldl y3 0
theorem nS(B:World)(Fr:List HP)(bd:Nat)(c:Cfg)(hc:bA c)(b:Blk)(sv:Value)(hb:gh c b)(hsv:aL sv=true)(s:Dev)(q:Option Addr)(cap:Nat)(ws:List Int)(hws:∀ v∈ws,0≤v∧v<18446744073709551616)(hwn:ws.length≤1000000)(hwq:∀ i,i<ws.length→∃ b off,q=some ⟨b,off,none⟩)(hwl:SlR B Fr (.slice q ws.length cap) (ws.map w64)):
 ∀ w,Holds B (aB bd s::Fr) w→Calls Tryz.prog 90 [ptr bd,dY c,ly b sv,.slice q ws.length cap].toArray w (aZ B (aB bd s::Fr) (i64 (s.reachSize c b ws))):=by
 refine eI func90 aa ntmps90 aa (ac (ab (kPb (aX aa) aa fun b5=>(kPb (aX aa) aa fun b6=>(kPa aa aa (ad (ac (ab (kPb (cf zeroValue3 aa) aa fun b9=>(kPs (aO sizeOf3 aa aa aa aa) aa (ad ?_)))))))))))
 refine ac (ac (ab (kPm aa aa (kPv (ag isAgg134 sizeOf134 aa aa) aa ?_))))
 refine kPv (ag isAgg151 sizeOf151 aa aa) aa ?_
 refine kPm aa aa (aH aa (au call154 aa) (sG _ _ bd c b sv hsv (.slice q ws.length cap) aa) .free aa aa ?_)
 rintro _ _ ⟨c1,c2,c3,c4,rfl,rfl⟩
 refine ad (am [15,9,8] rfl (aG (kO aa call194 ?_)))
 intro l m tmps hts hkn w hh
 have hk9:=hkn 9 _ rfl
 refine(xn B (blk m (.deferred (some []))::Fr) l 90 c1 c2 c3 c4 bd c hc b sv hb hsv s q cap ws hws hwn hwq Int _ aa aa (fun x=>True) (fun x=>[row b9 [i64 x] 3]) (fun _=> .ret) (fun o x=>(true,y3 x o)) 0 trivial ((hwl.cons _).cons _) ?_ w ((hh.dp [7,7]).pk [0,2,2,2,1,2,1])).mono (Ret.mono ?_ fun _ _ h=>h.elim)
 ·intro o x ho _
  have ho1:=ho.w
  refine⟨trivial,fun E=> ?_⟩
  simp only[List.cons_append,List.nil_append]
  refine gG (n:=23) (σ:=[(16,gQ o),(9,ptr b9)]) func90 (by simp[fO,hts]) (KnA.knows (by simp[KnA,fO,hts];exact(Array.getElem?_eq_some_iff.1 hk9).2)) aa ?_;refine ab ?_;refine kPb (aC zeroValue160 aa) aa fun b10=> ?_;refine kPs (ax (vs:=_) sizeOf160 aa aa aa aa aa) aa ?_;refine ad ?_;refine aP [1] ?_;refine kh ?_;refine aG ?_;refine cQ 5 Tryz.mixed (by kernel_rfl) (by kernel_rfl) ?_
  refine kQv (ah isAgg3 aa aa) aa (kQv (aD (m:=_) fc aa aa) aa (kQv (ag isAgg102 sizeOf102 aa aa) aa ?_))
  refine bG aa (au call139 aa) (eH _ _ _ _ (by omega)) .free aa ?_
  refine kQv (jJ (c:=y3 x o) aa aa aa) aa (bY (kPs (aO sizeOf3 aa aa aa aa) aa (ad (am [] rfl ?_))))
  exact kg fun w hh=>⟨_,⟨rfl,rfl⟩,(hh.dp [1])⟩
 rintro _ _ ⟨_,rfl⟩
 rw[oX]
 simp only[List.cons_append,List.nil_append]
 refine⟨_,_,fun w hh=>hh,j7 (by simp[fO]),fun hp=> ?_,fun c' hc'=>absurd (j6 aa hc').1 (fun h=>Bool.noConfusion h)⟩
 refine ac (ab (kPv (ah isAgg3 aa aa) aa (kPa aa aa (ad (az ?_)))))
 exact fE results90 aa (.at 3 (.nil)) (fun w hh=>⟨rfl,(hh.dp [0,1,1])⟩)
structure bE where
 bd:Nat
 c:Cfg
 b:Blk
 to_:Int
 scan:Int
 free:Int
 todo:List Int
 went:List (Int×Int)
 done:Bool
abbrev eW(S:bE)(rsv tsv:Value)(mw:Nat):List Value:=[ptr S.bd,i64 S.c.log,i64 S.c.roots,i64 S.c.space,i64 S.b.act,i64 S.b.used,rsv,i64 S.to_,i64 S.scan,i64 S.free,tsv,.map (some mw),.bool S.done]
def eY(x:Nat)(S:bE):HP:=hex fun (p:Value×Value×Nat)=>grp [row x (eW S p.1 p.2.1 p.2.2) 247,cS 0 (p.1,S.b.rts),cS 0 (p.2.1,S.todo),bx .u64 i64 p.2.2 S.went,pr (aL p.1=true∧aL p.2.1=true)]
theorem jF{B:World}{n:Nat}{D:List Deferred}{σ:Env}{x:Nat}{S:bE}{Fr:List HP}{K:Act→World→Prop}(h:∀ rsv tsv mw,aL rsv=true→aL tsv=true→GO B n D σ (row x (eW S rsv tsv mw) 247::cS 0 (rsv,S.b.rts)::cS 0 (tsv,S.todo)::bx .u64 i64 mw S.went::Fr) K):GO B n D σ (eY x S::Fr) K:=fun a w st=>by
 obtain⟨p,hx⟩:=st.holds.hex
 have h2:=(hx.grp.front 4 rfl).pr
 exact h _ _ _ h2.1.1 h2.1.2 a w ⟨st.toStA,h2.2⟩
theorem cC{B:World}{x mw:Nat}{S:bE}{rsv tsv:Value}{Fr:List HP}{w:World}(hr:aL rsv=true)(ht:aL tsv=true)(h:Holds B (row x (eW S rsv tsv mw) 247::cS 0 (rsv,S.b.rts)::cS 0 (tsv,S.todo)::bx .u64 i64 mw S.went::Fr) w):Holds B (eY x S::Fr) w:=
 Holds.unhex (rsv,tsv,mw) (Holds.ungrp (l:=[row x (eW S rsv tsv mw) 247,cS 0 (rsv,S.b.rts),cS 0 (tsv,S.todo),bx .u64 i64 mw S.went,pr _]) ((h.unpr ⟨hr,ht⟩).back 4 (by simp)))
def pW:Nat→Int→Int→Int→Dev→Out Unit
 | 0,_,_,_,s=> .ok () s
 | k+1,i,a,f,s=>(s.store (a+i) (s.load (f+i))).then fun _ s'=>pW k (i+1) a f s'
theorem mH(k:Nat)(i a f:Int)(s:Dev):pW (k+1) i a f s=(s.store (a+i) (s.load (f+i))).then fun _ s'=>pW k (i+1) a f s':=rfl
def bE.copied(S:bE)(s:Dev)(w:Int):Out (Int×bE):=
 if (bK S.went w).isSome=true then .ok ((bK S.went w).getD 0,S) s
 else if S.b.has S.c w=false then .ok (0,S) s
 else if (s.objOf S.c S.b w).2≠0 then .ok (0,S) s
 else (pW ((s.objOf S.c S.b w).1.1+1).toNat 0 S.free (s.objOf S.c S.b w).1.2.2 s).then fun _ s'=> .ok (S.free,{S with free:=S.free+((s.objOf S.c S.b w).1.1+1),went:=mset S.went w S.free}) s'
def jR:Nat→Int→bE→Dev→Out bE
 | 0,_,S,s=> .ok S s
 | k+1,i,S,s=>if s.load (S.scan+1+i)=0 then jR k (i+1) S s
   else (S.copied s (s.load (S.scan+1+i))).then fun r s1=>(s1.store (S.scan+1+i) r.1).then fun _ s2=>jR k (i+1) r.2 s2
def lS:Nat→Int→Int→Dev→Out Unit
 | 0,_,_,s=> .ok () s
 | f+1,i,e,s=>if i<e then (s.flush i).then fun _ s'=>lS f (i+8) e s' else .ok () s
def bE.keep(S:bE)(s:Dev):Out Unit:=
 (lS ((S.free - S.to_).toNat+1) S.to_ S.free s).then fun _ s'=>if S.to_<S.free then s'.fence else .ok () s'
def bE.step(S:bE)(s:Dev):Out (Bool×bE):=
 if S.done=true then .ok (true,S) s
 else match S.todo with
  | w::t=>(S.copied s w).then fun r s'=> .ok (false,{r.2 with todo:=t}) s'
  | []=>if S.scan<S.free then
   (jR (unp (s.load S.scan)).2.1.toNat 0 S s).then fun S' s'=> .ok (false,{S' with scan:=S'.scan+((unp (s.load S.scan)).1+1)}) s'
    else (S.keep s).then fun _ s'=> .ok (true,{S with done:=true}) s'
def u7:Nat→bE→Dev→Out bE
 | 0,S,s=> .ok S s
 | f+1,S,s=>(S.step s).then fun r s'=>if r.1=true then .ok r.2 s' else u7 f r.2 s'
def bE.meas(S:bE):Nat:=S.todo.length+(S.free - S.scan).toNat+66*(S.b.used.toNat - S.went.length)+(if S.done=true then 0 else 1)
def bE.run(S:bE)(s:Dev):Out bE:=u7 (S.meas+1) S s
def bE.block(S:bE):Blk:=⟨1 - S.b.act,S.free - S.to_,S.b.rts.map fun w=>(bK S.went w).getD 0⟩
def eA(bd:Nat)(c:Cfg)(b:Blk)(ws:List Int):bE:=⟨bd,c,b,c.frm (1 - b.act),c.frm (1 - b.act),c.frm (1 - b.act),ws,[],false⟩
structure fp(S:bE):Prop where
 c:bA S.c
 b:gh S.c S.b
 rl:S.b.rts.length≤16
 to_:0≤S.to_∧S.to_≤20000
 scan:S.to_≤S.scan∧S.scan≤400000
 free:S.to_≤S.free∧S.free≤S.to_+65*S.went.length
 nd:(S.went.map Prod.fst).Nodup
 rng:∀ k∈S.went.map Prod.fst,S.c.frm S.b.act≤k∧k<S.c.frm S.b.act+S.b.used
 val:∀ p∈S.went,0≤p.2∧p.2≤1000000
 todo:∀ v∈S.todo,0≤v∧v<18446744073709551616
 rts:∀ v∈S.b.rts,0≤v∧v<18446744073709551616
theorem fp.wl{S:bE}(h:fp S):S.went.length≤S.b.used.toNat:=by
 have h1:=h.b.used
 have:=kI S.b.used.toNat (S.c.frm S.b.act) _ h.nd fun k hk=>by have:=h.rng k hk;omega
 simpa using this
theorem fp.fb{S:bE}(h:fp S):S.free≤300000:=by
 have h1:=h.wl;have h2:=h.b.used;have h3:=h.c.s2;have h4:=h.free;have h5:=h.to_;omega
theorem fp.vb{S:bE}(h:fp S)(w:Int):0≤(bK S.went w).getD 0∧(bK S.went w).getD 0≤1000000:=by
 cases hm:bK S.went w with
 | none=>exact⟨Int.le_refl 0,by decide⟩
 | some v=>exact h.val _ (oM hm)
theorem mg{S:bE}(h:fp S){s s':Dev}{w:Int}{r:Int×bE}(e:S.copied s w= .ok r s'):fp r.2∧(0≤r.1∧r.1≤1000000)∧r.2.scan=S.scan∧r.2.todo=S.todo∧r.2.done=S.done∧r.2.b=S.b∧r.2.bd=S.bd∧r.2.c=S.c∧r.2.to_=S.to_∧S.free≤r.2.free∧r.2.free - S.free+66*(S.b.used.toNat - r.2.went.length:Nat)≤66*(S.b.used.toNat - S.went.length:Nat):=by
 have hwl:=h.wl;have hfb:=h.fb;have hto:=h.to_;have hfr:=h.free
 unfold bE.copied at e
 split at e
 ·cases e;exact⟨h,h.vb w,rfl,rfl,rfl,rfl,rfl,rfl,rfl,Int.le_refl _,by simp only;omega⟩
 rename_i h1
 split at e
 ·cases e;exact⟨h,⟨Int.le_refl 0,by simp only;omega⟩,rfl,rfl,rfl,rfl,rfl,rfl,rfl,Int.le_refl _,by simp only;omega⟩
 rename_i h2
 split at e
 ·cases e;exact⟨h,⟨Int.le_refl 0,by simp only;omega⟩,rfl,rfl,rfl,rfl,rfl,rfl,rfl,Int.le_refl _,by simp only;omega⟩
 obtain⟨_,s1,_,e⟩:=aK e
 cases e
 have h3:bK S.went w=none:=by cases hm:bK S.went w with
  | none=>rfl
  | some _=>exact absurd (by rw[hm];rfl) h1
 have h4:S.b.has S.c w=true:=by cases hm:S.b.has S.c w with
  | true=>rfl
  | false=>exact absurd hm h2
 have h5:=kC h.c h.b h4
 have h6:=ww (s:=s) (c:=S.c) (b:=S.b) (a:=w)
 have hnk:w∉S.went.map Prod.fst:=qu h3
 have hnd:((S.went++[(w,S.free)]).map Prod.fst).Nodup:=by
  rw[List.map_append,List.nodup_append]
  exact⟨h.nd,by simp,fun a ha b' hb'=>by simp at hb';subst hb';intro e;subst e;exact hnk ha⟩
 have hrng:∀ k∈(S.went++[(w,S.free)]).map Prod.fst,S.c.frm S.b.act≤k∧k<S.c.frm S.b.act+S.b.used:=fun k hk=>by
  rw[List.map_append,List.mem_append] at hk
  rcases hk with hk | hk
  ·exact h.rng k hk
  ·simp at hk;subst hk;omega
 have hl2:=kI S.b.used.toNat (S.c.frm S.b.act) _ hnd fun k hk=>by have:=hrng k hk;have:=h.b.used;omega
 simp only[List.length_map,List.length_append,List.length_cons,List.length_nil] at hl2
 refine⟨⟨h.c,h.b,h.rl,h.to_,h.scan,?_,by rw[gv h3];exact hnd,by rw[gv h3];exact hrng,fun p hp=> ?_,h.todo,h.rts⟩,⟨by simp only;omega,by simp only;omega⟩,rfl,rfl,rfl,rfl,rfl,rfl,rfl,by simp only;omega,?_⟩
 ·rw[gv h3];simp only[List.length_append,List.length_cons,List.length_nil];omega
 ·rw[gv h3] at hp
  rcases List.mem_append.1 hp with hp | hp
  ·exact h.val p hp
  ·rw[List.mem_singleton.1 hp];simp only;omega
 ·rw[gv h3];simp only[List.length_append,List.length_cons,List.length_nil];omega
theorem uy:∀ (k:Nat) (i a f:Int) (s s':Dev),U64 s→pW k i a f s= .ok () s'→U64 s'∧s'.n=s.n
 | 0,_,_,_,s,s',h,e=>by cases e;exact⟨h,rfl⟩
 | k+1,i,a,f,s,s',h,e=>by
   unfold pW at e
   obtain⟨_,s1,e1,e⟩:=aK e
   have h1:=cx h (h.load _) e1
   have h2:=uy k _ _ _ s1 s' h1.1 e
   exact⟨h2.1,h2.2.trans h1.2⟩
theorem jL{S:bE}{s s':Dev}{w:Int}{r:Int×bE}(hu:U64 s)(e:S.copied s w= .ok r s'):U64 s'∧s'.n=s.n:=by
 unfold bE.copied at e
 split at e
 ·cases e;exact⟨hu,rfl⟩
 split at e
 ·cases e;exact⟨hu,rfl⟩
 split at e
 ·cases e;exact⟨hu,rfl⟩
 obtain⟨_,s1,e1,e⟩:=aK e
 cases e;exact uy _ _ _ _ _ _ hu e1
theorem pH(B:World)(Fr:List HP)(x:Nat)(S:bE)(hS:fp S)(s:Dev)(hu:U64 s)(v:Int)(hv:0≤v∧v<18446744073709551616):
 ∀ w,Holds B (eY x S::aB S.bd s::Fr) w→Calls Tryz.prog 202 [ptr x,w64 v].toArray w (Ret B (fun rv H'=>∃ r s',S.copied s v= .ok r s'∧rv=i64 r.1∧H'=eY x r.2::aB S.bd s'::Fr) (fun c H'=>∃ s',S.copied s v= .off s'∧c=dV∧H'=aB S.bd s'::Fr)):=by
 refine an func202 aa ntmps202 aa (jF fun rsv tsv mw hrsv htsv=> ?_)
 have hfb:=hS.fb
 have hfr:=hS.free
 have hto:=hS.to_
 refine ac (ab (kPa aa aa (ad (ac (ac (ab (kPf l3 isAgg245 aa aa aa aa (kPm aa aa (kPv ((fB runUnderlying245 runUnderlying25 zeroValue3 aa aa).eq (congrArg (fun v=>Value.tuple #[v,.bool _]) (oJ _))) aa (kPm aa aa (kPv (aA aa aa) aa ?_)))))))))))
 refine kPv (aA aa aa) aa (kPa aa aa (kPa aa aa (ad (am [6,5,4,0,1] rfl (ac (ab (kPm aa aa (ad ?_))))))))
 refine a8 aa (fun h20=> ?_) (fun h20=> ?_)
 ·have h1:(bK S.went v).isSome=true:=by simpa using h20
  have hres:S.copied s v= .ok ((bK S.went v).getD 0,S) s:=by unfold bE.copied;rw[if_pos h1]
  refine ac (ab (kPm aa aa (kPa aa aa (ad (az ?_)))))
  exact aq results202 aa (fun w hh=>⟨_,⟨_,_,hres,rfl,rfl⟩,cC hrsv htsv hh⟩)
 ·have h1:¬ (bK S.went v).isSome=true:=by simpa using h20
  refine ar (ac (ac (cV Tryz.mixed (by kernel_rfl) (by kernel_rfl) ?_)))
  refine kQm aa aa (kQv (aI aa) aa (kQv (aD (m:=_) l5 aa aa) aa (kQv (ag isAgg151 sizeOf151 aa aa) aa ?_)))
  refine kQm aa aa (kQv (aI aa) aa (kQv (aD (m:=_) uk aa aa) aa (kQv (ag isAgg134 sizeOf134 aa aa) aa ?_)))
  refine kQm aa aa (bG aa (au call182 aa) (rP _ _ S.c hS.c S.b rsv hS.b hrsv _ hv) .free aa ?_)
  refine kQv (bz aa) aa (bY (am [32,4,0,1] rfl ?_))
  refine a8 aa (fun h32=> ?_) (fun h32=> ?_)
  ·have h2:S.b.has S.c v=false:=by simpa using h32
   have hres:S.copied s v= .ok (0,S) s:=by unfold bE.copied;rw[if_neg h1,if_pos h2]
   refine ac (ab (kPa aa aa (ad (az ?_))))
   exact aq results202 aa (fun w hh=>⟨_,⟨_,_,hres,rfl,rfl⟩,cC hrsv htsv hh⟩)
  ·have hh0:S.b.has S.c v=true:=by simpa using h32
   have h2:¬ S.b.has S.c v=false:=by rw[hh0];decide
   have hvb:=kC hS.c hS.b hh0
   refine ar (ac ?_)
   refine iE (.br [0,1,2,3,4,5,6,7,8,9,10,11,12,13] 14 (.fin [15,16,17,18,19,20]) 18 (.fin [14,15,16,17,19,20])) [14,18,19] [0,1,2,3,4,5,6,7,8,9,10,11,12,13,15,16,17] [18,19] [row x (eW S rsv tsv mw) 247] [4,0,1] (G:=Nat) (fun b7=>[(7,ptr b7),(8,i64 (s.objOf S.c S.b v).2)]) (fun b7=>row b7 [i64 (s.objOf S.c S.b v).1.1,i64 (s.objOf S.c S.b v).1.2.1,i64 (s.objOf S.c S.b v).1.2.2] 160::row x (eW S rsv tsv mw) 247::cS 0 (rsv,S.b.rts)::cS 0 (tsv,S.todo)::bx .u64 i64 mw S.went::aB S.bd s::Fr) Tryz.mixed (by kernel_rfl) ?_ ?_
   ·skip
    refine sS (aj aa aa aa (ak aa) .free aa (aj aa aa aa (aI aa) .free aa (aj aa aa aa (aD (m:=_) gJ aa aa) .free aa (aj aa aa aa (ah isAgg90 aa aa) .free aa (aj aa aa aa (ak aa) .free aa (aj aa aa aa (aI aa) .free aa (aj aa aa aa (aD (m:=_) uk aa aa) .free aa (aj aa aa aa (ag isAgg134 sizeOf134 aa aa) .free aa ?_))))))))
    refine aj aa aa aa (ak aa) .free aa (aj aa aa aa (aI aa) .free aa (aj aa aa aa (aD (m:=_) l5 aa aa) .free aa (aj aa aa aa (ag isAgg151 sizeOf151 aa aa) .free aa ?_)))
    refine aj aa aa aa (ak aa) .free aa ?_
    have hvb:=kC hS.c hS.b hh0
    refine aj aa aa aa (dh runUnderlying25 runUnderlying3 aa (gV (by omega))) .free aa (cy ?_)
    refine mT aa aa ?_ ?_
    ·skip
     refine aw aa (au call147 aa) (bI (q:=aB) (fun Fr=>j2 _ Fr _ _ S.c hS.c S.b rsv hS.b hrsv v (by omega))) .free aa aa ?_
     refine ad (sR aa (gR (aj aa aa aa (ak aa) .free aa (aj aa aa aa (aA aa aa) .free aa (aj aa aa aa (aA aa aa) .free aa (aT aa aa (kPb (aC zeroValue160 aa) aa fun b7=>(ad (cN (aT aa aa (kPs (ax (vs:=_) sizeOf160 aa aa aa aa aa) aa ?_)))))))))))
     refine ad (cN (aS aa aa aa (bu aa) .free aa (cy ?_)))
     exact fun a w st_=>⟨b7,st_.to (aE aa) (fun hh=>hh)⟩
    ·skip
     refine kPb (aC zeroValue160 aa) aa fun b7=>(ad (rj (gR (aT aa aa (aw aa (au call147 aa) (bI (q:=aB) (fun Fr=>j2 _ Fr _ _ S.c hS.c S.b rsv hS.b hrsv v (by omega))) .free aa aa ?_)))))
     refine ad (c7 aa (aj aa aa aa (ak aa) .free aa (aj aa aa aa (aA aa aa) .free aa (aj aa aa aa (aA aa aa) .free aa (aT aa aa (kPs (ax (vs:=_) sizeOf160 aa aa aa aa aa) aa (ad (cN (aS aa aa aa (bu aa) .free aa (cy ?_))))))))))
     exact fun a w st_=>⟨b7,st_.to (aE aa) (fun hh=>hh)⟩
   intro b7
   refine cu (σ':=[(7,ptr b7),(8,i64 (s.objOf S.c S.b v).2),(4,_),(0,_),(1,_)]) (aE aa) (ac (ac (ab (kPm aa aa (kPv (ao aa aa aa) aa (ad ?_))))))
   refine a8 aa (fun h52=> ?_) (fun h52=> ?_)
   ·have h3:(s.objOf S.c S.b v).2≠0:=by simpa using h52
    have hres:S.copied s v= .ok (0,S) s:=by unfold bE.copied;rw[if_neg h1,if_neg h2,if_pos h3]
    refine ac (ab (kPa aa aa (ad (az ?_))))
    exact aq results202 aa (fun w hh=>⟨_,⟨_,_,hres,rfl,rfl⟩,cC hrsv htsv (hh.dp [0])⟩)
   ·have h3:¬ (s.objOf S.c S.b v).2≠0:=by simpa using h52
    have ho:=gY hS.c hS.b (a:=v) (s:=s) (by omega)
    have ho1:=ho.w
    have ho3:=ho.at_
    have hcp:S.copied s v=(pW ((s.objOf S.c S.b v).1.1+1).toNat 0 S.free (s.objOf S.c S.b v).1.2.2 s).then fun _ s'=> .ok (S.free,{S with free:=S.free+((s.objOf S.c S.b v).1.1+1),went:=mset S.went v S.free}) s':=by unfold bE.copied;rw[if_neg h1,if_neg h2,if_neg h3]
    refine ar (ac (ab (kPf io isAgg3 aa aa aa aa (kPa aa aa (ad (am [9,7,4,0,1] rfl (ac (ac (ab (kPv (aD (m:=_) fc aa aa) aa (kPv (ag isAgg102 sizeOf102 aa aa) aa ?_)))))))))))
    refine aw aa (au call139 aa) (eH _ _ _ _ (by omega)) .free aa aa ?_
    refine kPm aa aa (ad (aG ?_))
    refine cK (ι:=Nat×Dev) [59,9,7,4,0,1] (fun (i,sI)=>((i:Int)≤(s.objOf S.c S.b v).1.1+1)∧(pW ((s.objOf S.c S.b v).1.1+1).toNat 0 S.free (s.objOf S.c S.b v).1.2.2 s=pW (((s.objOf S.c S.b v).1.1+1).toNat - i) i S.free (s.objOf S.c S.b v).1.2.2 sI)) (fun (i,sI)=>[(60,i64 i)]) (fun (i,sI)=>row b7 [i64 (s.objOf S.c S.b v).1.1,i64 (s.objOf S.c S.b v).1.2.1,i64 (s.objOf S.c S.b v).1.2.2] 160::row x (eW S rsv tsv mw) 247::cS 0 (rsv,S.b.rts)::cS 0 (tsv,S.todo)::bx .u64 i64 mw S.went::aB S.bd sI::Fr) (fun (i,sI)=>((s.objOf S.c S.b v).1.1+1).toNat - i) (0,s) (⟨by first | omega | (simp only;omega),rfl⟩) (fun a w st=>st.to ⟨rfl,trivial⟩ (fun hh=>hh)) ?_
    rintro⟨i,sI⟩ ⟨hi0,hinv⟩
    try simp only at hi0 hinv ⊢
    refine cu (σ':=[(60,i64 i),(59,_),(9,_),(7,_),(4,_),(0,_),(1,_)]) (aE aa) (ac (ab (kPv (ao aa aa aa) aa (ad (ac ?_)))))
    refine a8 aa (fun h61=> ?_) (fun h61=> ?_)
    ·have hi:(i:Int)<(s.objOf S.c S.b v).1.1+1:=by simpa using h61
     refine ar (ac (aG (ac (ab (kPm aa aa (kPa aa aa (ad (cQ 16 Tryz.mixed (by kernel_rfl) (by kernel_rfl) ?_))))))))
     refine kQm aa aa (kQv (aI aa) aa (kQv (aD (m:=_) gJ aa aa) aa (kQv (ah isAgg90 aa aa) aa (kQm aa aa (kQm aa aa (kQv (aN aa aa) aa (kQm aa aa (kQv (aI aa) aa (kQv (aD (m:=_) gJ aa aa) aa (kQv (ah isAgg90 aa aa) aa (kQv (aD (m:=_) kq aa aa) aa ?_)))))))))))
     refine kQv (ah isAgg3 aa aa) aa (kQm aa aa (kQv (aN aa aa) aa (bG aa (au call173 aa) (bI (q:=aB) (fun Fr=>cq _ Fr _ _ _)) .free aa ?_)))
     refine bY ?_
     refine aU aa (au call145 aa) (cF (fun Fr=>cA _ Fr _ _ _ _)) .free aa aa ?_ ?_
     rotate_left
     ·rintro _ _ ⟨s9,⟨hm9,rfl⟩,rfl⟩
      exact bi fun w hh=>⟨_,⟨s9,by rw[hcp,hinv,show((s.objOf S.c S.b v).1.1+1).toNat - i=(((s.objOf S.c S.b v).1.1+1).toNat - (i+1))+1 by omega,mH,hm9];rfl,rfl,rfl⟩,(hh.dp [0,0,0,0,0])⟩
     rintro _ _ ⟨s1,⟨e1,hm1,rfl⟩,rfl⟩
     refine ad (am [60,59,9,7,4,0,1] rfl (ab (kPv (aN aa aa) aa (kPm aa aa (ad ?_)))))
     exact fun a w st_=>⟨(i+1,s1),⟨by first | omega | (simp only;omega),by rw[hinv,show((s.objOf S.c S.b v).1.1+1).toNat - i=(((s.objOf S.c S.b v).1.1+1).toNat - (i+1))+1 by omega,mH,hm1];rfl⟩,by first | omega | (simp only;omega),st_.to (aE aa) (fun hh=>hh)⟩
    ·have hi:¬ (i:Int)<(s.objOf S.c S.b v).1.1+1:=by simpa using h61
     refine bF (ac (cQ 10 Tryz.mixed (by kernel_rfl) (by kernel_rfl) ?_))
     refine kQm aa aa (kQv (aI aa) aa (kQv (aD (m:=_) io aa aa) aa (kQv (ah isAgg3 aa aa) aa (kQv (aD (m:=_) fc aa aa) aa (kQv (ag isAgg102 sizeOf102 aa aa) aa ?_)))))
     refine bG aa (au call139 aa) (eH _ _ _ _ (by omega)) .free aa ?_
     refine kQv (aN aa aa) aa (kQv (aI aa) aa (kQv (aD (m:=_) io aa aa) aa (bY (kPs (aO sizeOf3 aa aa aa aa) aa (ad (am [9,4,0,1] rfl (ac (ab (kPf l3 isAgg245 aa aa aa aa (kPm aa aa (kPm aa aa ?_)))))))))))
     refine kPs (gA (enc:=i64) runUnderlying245 runUnderlying25 aa aa aa aa) aa (ad (am [9,4] rfl (ac (ab (kPm aa aa (kPa aa aa (ad (az ?_))))))))
     exact aq results202 aa (fun w hh=>⟨_,⟨_,_,by rw[hcp,hinv,show((s.objOf S.c S.b v).1.1+1).toNat - i=0 by omega];rfl,rfl,rfl⟩,cC (S:={S with free:=S.free+((s.objOf S.c S.b v).1.1+1),went:=mset S.went v S.free}) hrsv htsv (hh.dp [0])⟩)
end Go.Proofs.YtoakdoeajpjgkaaGreatDoor
