import Derived.Test.YtiapejgiinidhaaGreatDoorChecked
import Derived.RangeFuncNested
import Derived.RangeFuncBound
import Derived.RangeFuncCalls
import Derived.RangeFuncLeaves
import Derived.Below
import Derived.OpenShut
import Derived.Laws.Rows
import Derived.WalkKit
import Derived.WalkSpells
import Derived.WalkLawsBesides
import Derived.Deep.QuietTactic
import Derived.Defers
import Derived.BigQuiet
import Derived.IntWalk
import Derived.Laws.BitsAllLaws
import Derived.Laws.Tables
import Derived.Deep.AppendLies
import Derived.Laws.IdiomStrings
import Derived.Lib.AppendStr
import Derived.Deep.MidRow
import Derived.Shelf.Abstract
import Derived.Shelf.RegionOpen
import Derived.OwnWalkIn
import Derived.TacticsInMore
import Derived.LoopNIn
import Derived.LoopIn
import Derived.Lib.Hide
import Derived.Laws.Externs
import Derived.Laws.Bits64b
import Derived.Laws.EntriesVeiled
import Derived.Shelf.Strings.Builder1
import Derived.Shelf.Small.Bits
import Derived.Shelf.Bits.Mul64
set_option linter.all false
set_option maxRecDepth 100000
set_option maxHeartbeats 40000000
namespace Go.Proofs.Tryz
open Go.Shelf
def lays169_ren:Go.Shelf.Ren:=⟨fun|169=>262|n=>n,fun|70=>311|9=>9|0=>0|72=>313|37=>32|127=>378|3=>3|5=>5|n=>n,fun|n=>n⟩
theorem lays169:Go.Proofs.Lays.n169 prog lays169_ren:={mixed:=by kernel_rfl,f169:=func262.trans (congrArg some (by kernel_rfl)),t0:=underlying0,a0:=isAgg0,z0:=sizeOf0,v0:=zeroValue0,t3:=underlying3,a3:=isAgg3,z3:=sizeOf3,v3:=zeroValue3,t9:=underlying9,a9:=isAgg9,z9:=sizeOf9,v9:=zeroValue9,t37:=underlying32,a37:=isAgg32,z37:=sizeOf32,v37:=zeroValue32,t70:=underlying311,a70:=isAgg311,z70:=sizeOf311,v70:=zeroValue311,t72:=underlying313,a72:=isAgg313,z72:=sizeOf313,v72:=zeroValue313,t127:=underlying378,a127:=isAgg378,z127:=sizeOf378,v127:=zeroValue378}
theorem Builder_Extra_169:Builder.Extra prog lays169_ren:={sizeBuilder:=by kernel_rfl,liesBuilder:=by kernel_rfl,t5:=underlying5,a5:=isAgg5,z5:=sizeOf5,v5:=zeroValue5,infoByte:=by kernel_rfl,cellsByte:=by kernel_rfl,sizeByte:=by kernel_rfl,neB5:=by decide}
open Go.RowKit in
theorem Builder_String (B b:Nat) (l:List UInt8) (w:World) (h:Lib.IsBuilder 313 5 B b (Lib.byteCells l) w) (h0:l≠[]):Calls prog 262 #[.pointer (some ⟨b,0,none⟩)] w fun e w'=>e=.returned (.string ⟨l.toArray⟩)∧Below B w w':=Any.Builder_String lays169 Builder_Extra_169 B b l w h h0
def lays125_ren:Go.Shelf.Ren:=⟨fun|125=>271|128=>321|129=>311|n=>n,fun|46=>199|3=>3|51=>196|53=>22|4=>4|5=>5|9=>9|n=>n,fun|n=>n⟩
theorem lays125:Go.Proofs.Lays.n125 prog lays125_ren:={mixed:=by kernel_rfl,f125:=func271.trans (congrArg some (by kernel_rfl)),f128:=func321.trans (congrArg some (by kernel_rfl)),f129:=func311.trans (congrArg some (by kernel_rfl)),t3:=underlying3,a3:=isAgg3,z3:=sizeOf3,v3:=zeroValue3,t4:=underlying4,a4:=isAgg4,z4:=sizeOf4,v4:=zeroValue4,t5:=underlying5,a5:=isAgg5,z5:=sizeOf5,v5:=zeroValue5,t9:=underlying9,a9:=isAgg9,z9:=sizeOf9,v9:=zeroValue9,t46:=underlying199,a46:=isAgg199,z46:=sizeOf199,v46:=zeroValue199,t51:=underlying196,a51:=isAgg196,z51:=sizeOf196,v51:=zeroValue196,t53:=underlying22,a53:=isAgg22,z53:=sizeOf22,v53:=zeroValue22}
theorem bits_Len (x:Int) (w:World) (h0:0≤x) (h1:x≤18446744073709551615):Calls prog 271 #[.int .u64 x] w fun e w'=>e=.returned (.int .i64 (Lib.bitLen x.toNat))∧w'=w:=Any.bits_Len lays125 x w h0 h1
def lays129_ren:Go.Shelf.Ren:=⟨fun|129=>311|n=>n,fun|53=>22|3=>3|4=>4|46=>199|5=>5|9=>9|n=>n,fun|n=>n⟩
theorem lays129:Go.Proofs.Lays.n129 prog lays129_ren:={mixed:=by kernel_rfl,f129:=func311.trans (congrArg some (by kernel_rfl)),t3:=underlying3,a3:=isAgg3,z3:=sizeOf3,v3:=zeroValue3,t4:=underlying4,a4:=isAgg4,z4:=sizeOf4,v4:=zeroValue4,t5:=underlying5,a5:=isAgg5,z5:=sizeOf5,v5:=zeroValue5,t9:=underlying9,a9:=isAgg9,z9:=sizeOf9,v9:=zeroValue9,t46:=underlying199,a46:=isAgg199,z46:=sizeOf199,v46:=zeroValue199,t53:=underlying22,a53:=isAgg22,z53:=sizeOf22,v53:=zeroValue22}
theorem bits_Len64 (x:Int) (w:World) (h0:0≤x) (h1:x≤18446744073709551615):Calls prog 311 #[.int .u64 x] w fun e w'=>e=.returned (.int .i64 (Lib.bitLen x.toNat))∧w'=w:=Any.bits_Len64 lays129 x w h0 h1
def lays264_ren:Go.Shelf.Ren:=⟨fun|264=>173|n=>n,fun|53=>22|46=>199|n=>n,fun|n=>n⟩
theorem lays264:Go.Proofs.Lays.n264 prog lays264_ren:={mixed:=by kernel_rfl,f264:=func173.trans (congrArg some (by kernel_rfl)),t46:=underlying199,a46:=isAgg199,z46:=sizeOf199,v46:=zeroValue199,t53:=underlying22,a53:=isAgg22,z53:=sizeOf22,v53:=zeroValue22}
open Go.RowKit Go.Lib in
theorem bits_Mul64 (x y:Nat) (hx:x<18446744073709551616) (hy:y<18446744073709551616) (w:World):Calls prog 173 #[.int .u64 x,.int .u64 y] w fun e w'=>e=.returned (.tuple #[.int .u64 ((x*y/18446744073709551616:Nat):Int),.int .u64 ((x*y%18446744073709551616:Nat):Int)])∧w'=w:=Any.bits_Mul64 lays264 x y hx hy w
end Go.Proofs.Tryz
namespace Go.Proofs.YtiapejgiinidhaaGreatDoor
open Go
structure Shut (p:Prop):Prop where
 out:p
theorem sq {p:Prop} (h:p):Shut p:=⟨h⟩
theorem Shut.o {p:Prop} (h:Shut p):p:=h.out
theorem gA9 {α:Type} {i:Nat} {xs:List α} (h:i<xs.toArray.size):xs.toArray[i]=xs[i]'(by simpa using h):=rfl
theorem gB9 {α:Type} {a:α} {l:List α} {h:0<(a::l).length}:(a::l)[0]=a:=rfl
theorem gC9 {α:Type} {a:α} {i:Nat} {l:List α} {h:i+1<(a::l).length}:(a::l)[i+1]=l[i]'(Nat.lt_of_succ_lt_succ h):=rfl
theorem gD9 {α:Type} {l:List α} {i:Nat} {a:α}:l.toArray.setIfInBounds i a=(l.set i a).toArray:=List.setIfInBounds_toArray _ _ _
theorem gE9 {α:Type} {x y:α} {l:List α}:(x::l).set 0 y=y::l:=rfl
theorem gF9 {α:Type} {x y:α} {l:List α} {i:Nat}:(x::l).set (i+1) y=x::l.set i y:=rfl
instance:Coe Nat Addr:=⟨fun g=>⟨g,0,none⟩⟩
instance:Coe Nat (Option Addr):=⟨fun g=>some ⟨g,0,none⟩⟩
theorem tz{p q:Prop}(hq:q)(h:q→p:=by intro h;(try simp only[gA9,gB9,gC9,Act.put,gD9,gE9,gF9]);exact h):p:=h hq
def AMc:=@And.intro
def AMd:=@List.getD_eq_getElem?_getD
def AMe:=@List.getElem?_eq_getElem
def AMf:=@List.length_append
def AMg:=@Go.World.cell?_of_block
def AMh:=@List.mem_singleton
def AMi:=@Nat.le_refl
def AMj:=@Nat.le_trans
def AMk:=@Go.World.size_alloc
theorem AMl{α:Type}{a:α}{l:List α}:(a::l).length=l.length+1:=rfl
def AMm:=@Array.getElem?_eq_some_iff
def AMn:=@Nat.lt_of_lt_of_le
def AMo:=@Go.bodyPost_ret
def AMp:=@List.take_of_length_le
def AMq:=@Array.getElem?_eq_getElem
theorem AMr{α:Type}:([]:List α).length=0:=rfl
def AMs:=@List.take_add_one
def AMt:=@List.mem_of_getElem?
def AMu:=@if_neg
def AMv:=@Array.getElem?_setIfInBounds_ne
def AMw:=@Option.mem_toList
def AMx:=@if_pos
def AMy:=@Go.World.ownsRow_nil
def AMz:=@Array.getElem?_eq_none
def AM0:=@Array.getElem?_setIfInBounds
def AM1:=@List.mem_cons
def AM2:=@List.append_nil
def AM3:=@List.mem_append
def AM4:=@Nat.zero_le
def AM5:=@Nat.pow_le_pow_right
def AM6:=@List.length_take
def AM7:=@Nat.lt_or_ge
def AM8:=@List.length_map
def AM9:=@List.getElem?_append_right
def ANA:=@List.append_assoc
def ANB:=@List.getElem?_append_left
def ANC:=@Nat.zero_add
def ANE:=@Go.callsIn_wide
def ANF:=@Go.RowKit.Below.refl
def ANI:=@List.getElem?_map
def ANG:=@Array.getElem?_setIfInBounds_self_of_lt
def ANH:=@List.append_toArray
def ANJ:=@List.not_mem_nil
def ANK:=@Nat.le_of_ble_eq_true
def ANL:=@List.getElem?_take_of_lt
def ANM:=@Array.size_setIfInBounds
def ANN:=@Go.run_callFunc_extern
def ANO:=@List.push_toArray
def ANP:=@Array.getD_eq_getD_getElem?
def ANQ:=@Go.results_tmp2
def ANR:=@List.map_append
def ANT:=@decide_eq_false
def ANU:=@List.mem_map
def ANV:=@decide_eq_true
def ANW:=@Option.some.inj
def ANX:=@Nat.div_div_eq_div_mul
def ANZ:=@List.getElem_mem
def ANa:=@List.mem_range
def ANb:=@congrArg
def ANc:=@List.length_drop
def ANd:=@List.all_eq_true
def ANe:=@Go.IntKind.wrap_u64
def ANf:=@Nat.mul_le_mul_right
def ANg:=@Nat.lt_of_le_of_lt
def ANh:=@Bool.false_eq_true
def ANi:=@List.map_cons
def ANj:=@Array.getElem?_modify
def ANk:=@Nat.div_le_self
def ANl:=@Bool.eq_iff_iff
def ANm:=@List.length_replicate
def ANn:=@List.take_succ_eq_append_getElem
def ANo:=@Option.some.injEq
def ANp:=@Array.ext_getElem?
def ANq:=@Go.run_convert_bytes_back
def ANr:=@Nat.le_succ
def ANs:=@List.getElem?_toArray
def ANt:=@List.range_succ
def ANu:=@Nat.mod_lt
def ANv:=@Nat.mod_eq_of_lt
def ANw:=@Bool.and_eq_true
def ANx:=@Go.World.cell?_alloc_lt
def ANy:=@Nat.two_pow_add_eq_or_of_lt
def ANz:=@List.flatten_append
def AN0:=@Nat.mul_one
def AN1:=@Nat.shiftRight_eq_div_pow
def AN2:=@or_false
def AN3:=@List.take_append_drop
def AN4:=@Array.getElem?_toList
def AN5:=@Nat.lt_log2_self
def AN6:=@Nat.sub_self
def AN7:=@List.drop_append_of_le_length
def AN8:=@Go.Region.noSelect_spec
def AN9:=@Go.wp_loop_rounds
def AOA:=@Nat.mul_le_mul
def AOB:=@decide_eq_true_eq
def AOC:=@Nat.two_pow_pos
def AOD:=@Nat.min_eq_left
def AOE:=@List.getD_cons_zero
def AOF:=@beq_eq_false_iff_ne
def AOG:=@List.map_nil
def AOH:=@Prod.mk.injEq
def AOI:=@Go.wpList_store_row
def AOJ:=@Nat.lt_succ_self
def AOK:=@UInt8.toNat_ofNat'
def AOL:=@Nat.mod_two_eq_zero_or_one
def AOM:=@List.drop_eq_getElem_cons
def AON:=@List.getElem?_eq_some_iff
def AOO:=@Nat.pow_add
def AOP:=@Ne.symm
def AOQ:=@List.mem_of_mem_take
def AOR:=@Go.Calls.mono
def AOS:=@List.getD_cons_succ
def AOT:=@List.getElem_of_mem
def AOU:=@List.map_congr_left
def AOV:=@List.flatMap_append
def AOW:=@Go.RowKit.Below.heap_alloc
def AOX:=@Go.World.ownsRow.lt
def AOY:=@Go.Region.free_spec
def AOZ:=@List.length_eq_zero_iff
def AOa:=@Go.World.frozen?_alloc_old
def AOb:=@List.take_length
def AOc:=@Nat.log2_self_le
def AOd:=@Nat.testBit_succ
def AOe:=@List.take_append_of_le_length
def AOf:=@Go.RowKit.Below.heap_setCell
def AOg:=@List.drop_of_length_le
def AOh:=@Go.callsIn_of_wp
def AOi:=@Go.Value.slice.injEq
def AOj:=@beq_iff_eq
def AOk:=@Go.run_underlying
def AOl:=@Go.leaves_cons
def AOm:=@Nat.eq_of_testBit_eq
def AOn:=@Go.mem_ready
def AOo:=@Nat.zero_mul
def AOp:=@List.getElem?_range
def AOq:=@Nat.mul_assoc
def AOr:=@Go.ready_mono
def AOs:=@Nat.eq_or_lt_of_le
def AOt:=@Nat.eq_zero_or_pos
def AOu:=@decide_eq_false_iff_not
def AOv:=@List.foldl_append
def AOw:=@List.drop_eq_nil_of_le
def AOx:=@Option.map_eq_some_iff
def AOy:=@Nat.testBit_lt_two_pow
def AOz:=@Go.size_madeCells
def AO0:=@Nat.le_of_lt_succ
def AO1:=@Go.Lib.wpList_append_own_string
def AO2:=@List.getElem?_eq_none
def AO3:=@List.length_filter_le
def AO4:=@Nat.div_eq_of_lt
def AO5:=@List.find?_eq_some_iff_getElem
def AO6:=@Go.results_tmp
def AO7:=@Go.below_drewN
def AO8:=@UInt8.toNat_inj
def AO9:=@Go.bits_or_u64_nat
def APA:=@Nat.testBit_xor
def APB:=@Nat.testBit_two_pow_sub_succ
def APC:=@Go.Calls.quiet_of_same
def APD:=@Go.Sem.run_bind
def APE:=@List.map_map
def APF:=@Nat.mul_lt_mul_of_pos_right
def APG:=@Go.Act.put_comm
def APH:=@Go.wpOp_mono
def API:=@List.drop_drop
def AQE:=@List.getElem?_take
def APJ:=@Go.execOp_put
def APK:=@List.find?_eq_none
def APL:=@true_and
def APM:=@Array.toList_setIfInBounds
def APN:=@Go.wpList_append_lies
def APO:=@List.isEmpty_eq_false_iff
def APP:=@Go.getD_set_ne
def APQ:=@of_decide_eq_true
def APR:=@Go.wp_region_any
def APS:=@Go.callsD_of_wpS
def APT:=@Nat.add_assoc
def APU:=@Array.getElem?_replicate
def APV:=@Go.Maps.has_false_of_atKey
def APW:=@Go.wanted_put
def APX:=@List.range_succ_eq_map
def APY:=@Nat.succ_mul
def APZ:=@Go.Maps.has_true_of_atKey
def APa:=@Go.Code.wp_mono
def APb:=@Go.Oper.apart_spec
def APc:=@Go.IntKind.wrap_u8
def APd:=@List.mem_filter
def APe:=@Go.DataW.agg.injEq
def APf:=@Go.World.var?_cell
def APg:=@List.drop_zero
def APh:=@ByteArray.ext
def APi:=@Go.Value.agg.inj
def APj:=@bne_iff_ne
def APk:=@Go.wpS_region
def APl:=@Nat.add_comm
def APm:=@Nat.mul_comm
def APn:=@Go.results_none
def APo:=@Go.run_make
def APp:=@Go.wp_store_row
def APq:=@Go.wpS_of_wp
def APr:=@Go.run_store
def APs:=@Go.wpIn_wide
def APt:=@Go.wp_ret
variable {p:Prop}
def KA(h:p:=by omega):=h
def NA(h:p:=by kernel_rfl):=h
def NC(h:p:=by simp):=h
def ND(h:p:=by decide):=h
def NF(h:p:=by simp only[intOf];omega):=h
def NG(h:p:=by simp;omega):=h
def NH(h:p:=by intro W1 hl;obtain⟨c1,c2,c3,lb⟩:=CE0.o W1 (L0.o.trans hl);go_simp<;>with_reducible rfl):=h
def NI(h:p:=by intro W1 hl;go_simp<;>(first|with_reducible rfl|exact E1.o|exact E2.o|exact E3.o|exact E4.o|exact E5.o)):=h
def PB(h:p:=by intro W1 hl;obtain⟨c1,c2,c3,lb⟩:=CE.o W1 (L0.o.trans hl);go_simp<;>with_reducible rfl):=h
def PD(h:p:=by intro W1 hl;have lg:=(XG.o.drew.later hl).lt;go_simp<;>with_reducible rfl):=h
def PE(h:p:=by rfl):=h
def PG(h:p:=by intro W1 hl;have q0:=(HBB.o.but (hd.nil.trans hl) HXN.o.1).cell 0 (v:=U g) rfl;go_simp<;>(first|with_reducible rfl|exact E1.o|exact E2.o|exact E3.o|exact E4.o|exact E5.o)):=h
def PH(h:p:=by obtain⟨k,rfl⟩:=h.2;exact AO7 (ANF _ _) k):=h
def PI(h:p:=by simp[Value.oneCell']):=h
def PJ(h:p:=by intro W1 hl;have q0:=(HGB.o.but (hd.nil.trans hl) HXN.o.2.1).cell 0 (v:=v) rfl;go_simp<;>(first|with_reducible rfl|exact E1.o|exact E2.o|exact E3.o|exact E4.o|exact E5.o)):=h
def PK(h:p:=by rw[AOF];omega):=h
def PL(h:p:=by intro W1 hl;obtain⟨c1,e2,e3,lq⟩:=CE.o W1 hl;go_simp<;>with_reducible rfl):=h
def PM(h:p:=by have:=run_endLoop (P:=P) hl AB0;rw[hrec] at this;exact this):=h
def PN(h:p:=by intro W1 hl;have e0:=(V32.out.but (hd2.nil.trans hl) HX.out.1).cell 0 rfl;go_simp<;>with_reducible rfl):=h
def PO(h:p:=by intro W1 hl;obtain⟨d0,d1,c1,e1,lq⟩:=CE.o W1 hl;go_simp<;>with_reducible rfl):=h
def PQ(h:p:=by rw[ANe];omega):=h
def PT(h:p:=by intro W1 hl;have q0:=(HRB.o.but (hd.nil.trans hl) HXN.o.2.2.1).cell 1 (v:=Yg Yq (fb.toNat:Nat)) rfl;go_simp<;>(first|with_reducible rfl|exact E1.o|exact E2.o|exact E3.o|exact E4.o|exact E5.o)):=h
def PU(h:p:=by have:=D.out;simp;omega):=h
def PV(h:p:=by decide+kernel):=h
def PW(h:p:=by rw[hx,AMd,AMe UD];rfl):=h
def PX(h:p:=by intro W1 hl;obtain⟨q1,q2,q3,q4,q5,q6,q7,q8,q9⟩:=CE.o W1 hl;go_simp<;>with_reducible rfl):=h
def PY(h:p:=by have:=HB.o;simp;omega):=h
def QA(h:p:=by have:=HV.o;omega):=h
def QC(h:p:=by intro W1 hl;have q0:=(HNB.o.but (hd.nil.trans hl) HXN.o.2.2.2).cell 0 (v:=Yg V n) rfl;go_simp<;>(first|with_reducible rfl|exact E1.o|exact E2.o|exact E3.o|exact E4.o|exact E5.o)):=h
def QD(h:p:=by intro W1 hl;obtain⟨p0,p1,p9,p14,p5,f5⟩:=CE.out W1 hl;go_simp<;>with_reducible rfl):=h
def QE(h:p:=by intro W1 hl;have c0:=(XG.o.drew.later hl).cell 0 rfl;have lg:=(XG.o.drew.later hl).lt;go_simp<;>with_reducible rfl):=h
def RB(h:p:=by rw[hxx,AMd,AMe hjl];rfl):=h
def RG(h:p:=by intro W1 hl;have e:=(XG.o.drew.later hl).cell 9 rfl;have lg:=(XG.o.drew.later hl).lt;go_simp<;>with_reducible rfl):=h
def RJ(h:p:=by intro W1 hl;have e:=(XG.o.drew.later hl).cell 4 rfl;have lg:=(XG.o.drew.later hl).lt;go_simp<;>with_reducible rfl):=h
def RQ(h:p:=by have:=HCS.o.1;omega):=h
def SK(h:p:=by simp at hu;subst hu;rfl):=h
def SQ(h:p:=by dsimp only;omega):=h
def TC(h:p:=by simpa using hj):=h
def TD(h:p:=by intro W1 hl;obtain⟨p0,p1,p9,p14,p5,f5⟩:=CE.out W1 ((D0.out).trans hl);go_simp<;>with_reducible rfl):=h
def TF(h:p:=by intro W1 hl;obtain⟨p0,p1,p9,p14,p5,f5⟩:=CE.out W1 ((D2.out).trans hl);go_simp<;>with_reducible rfl):=h
def TG(h:p:=by have:=(AL (AA HR1'.o h9 NC) k (AMw.2 hm)).1;have:=AMh.1 hk;omega):=h
def TH(h:p:=by have:=(AL (AA HR2.o h9 NC) k (AMw.2 hm)).1;have:=AMh.1 hk;omega):=h
def TJ(h:p:=by intro W1 hl;have c0:=CE.out _ W1 hl HNX0.out;go_simp<;>with_reducible rfl):=h
def AFN(h:p:=by go_simp<;>with_reducible rfl):=h
def UB(h:p:=by rw[show (j:Int)-1=(i:Int) by omega];exact IntWalk.i64_in _ KA):=h
def UC(h:p:=by simp only[ANe];omega):=h
def UD(h:p:=by rw[←HN.o.1];exact hjn):=h
def UE(h:p:=by intro W1 hl;obtain⟨c0,l0⟩:=CE.o W1 (L0.o.nil.trans hl);go_simp<;>with_reducible rfl):=h
def UF(h:p:=by rw[h] at hr;cases hr):=h
def UG(h:p:=by show (n:Int)%18446744073709551616=_;omega):=h
def UH(h:p:=by rw[e];simp):=h
def UI(h:p:=by intro W1 hl;have xx:=XB.o W1 hl;have y0:=xx.cell 0 rfl;have y1:=xx.cell 1 rfl;have lx:=xx.lt;go_simp<;>with_reducible rfl):=h
def UJ(h:p:=by have:=(AL r1 k (AMw.2 hm)).1;have:=AMh.1 hk;omega):=h
def UK(h:p:=by have:=(AL r2 k (AMw.2 hm)).1;have:=AMh.1 hk;omega):=h
def UL(h:p:=by rw[←APG a v Yx h2];exact h):=h
def UM(h:p:=by have:=(hr j (AMw.1 hj)).1;have:=h.sz;omega):=h
def UN(h:p:=by unfold wrap64;omega):=h
def UO(h:p:=by intro W1 hl;have e:=(XG.o.drew.later hl).cell 5 rfl;have lg:=(XG.o.drew.later hl).lt;go_simp<;>with_reducible rfl):=h
def UQ(h:p:=by intro W1 hl;have e:=(XG.o.drew.later hl).cell 8 rfl;have lg:=(XG.o.drew.later hl).lt;go_simp<;>with_reducible rfl):=h
def UR(h:p:=by intro W1 hl;have e:=(XG.o.drew.later hl).cell 0 rfl;have lg:=(XG.o.drew.later hl).lt;go_simp<;>with_reducible rfl):=h
def US(h:p:=by intro W1 hl;have e0:=c0.o _ (hd.nil.trans hl);go_simp<;>with_reducible rfl):=h
def UT(h:p:=by intro W1 hl;have e0:=(X2.out.but (hd2.nil.trans hl) HX.out.2.1).cell k HKS.out;go_simp<;>with_reducible rfl):=h
def UU(h:p:=by simpa [Act.put] using hdf):=h
def UV(h:p:=by intro W1 hl;have e0:=(Q2.out.but (hd2.nil.trans hl) HX.out.2.2.1).cell 0 rfl;go_simp<;>with_reducible rfl):=h
def UW(h:p:=by intro W1 hl;obtain⟨p0,p1,p9,p14,p5,f5⟩:=CE.out W1 ((D3.out).trans hl);go_simp<;>with_reducible rfl):=h
def UX(h:p:=by unfold AU;exact AMj (AO3 _ _) NC):=h
def UY(h:p:=by go_num):=h
def VA(h:p:=by intro W1 hl;have e0:=(V32.o.but (hd2.nil.trans hl) HX.o.1).cell 0 rfl;go_simp<;>with_reducible rfl):=h
def VC(h:p:=by intro W1 hl;obtain⟨c0,c1,lg⟩:=CE.o W1 (hd.trans (APv hl));go_simp<;>with_reducible rfl):=h
def VD(h:p:=by rw[ANc];omega):=h
def VE(h:p:=by intro W1 hl;obtain⟨c0,l0⟩:=CD.out W1 (L0.out.nil.trans hl);go_simp<;>with_reducible rfl):=h
def VG(h:p:=by intro W1 hl;obtain⟨_,⟨c0,l0⟩,_⟩:=HC.o _ (hd.trans hl);go_simp<;>with_reducible rfl):=h
def VI(h:p:=by rw[hxx,AMd,AMe ACC];rfl):=h
def VJ(h:p:=by trivial):=h
def VK(h:p:=by rw[hx,AMd,AMe (by rw[HA.o.1];exact hj3)];rfl):=h
def VL(h:p:=by have:=AMh.1 hk;have:=HG.o;have:=HBS.o;omega):=h
def VM(h:p:=by have h:=HX5.o;unfold Ip;rw[show p+(k+1)=pk1 by have:=HPK.o;have:=HP1.o;omega];exact h):=h
def VN(h:p:=by rw[ANM];exact HS.out):=h
def VO(h:p:=by have:=H.o;omega):=h
def VP(h:p:=by unfold Ag;split<;>(try omega);split<;>(try omega);split<;>(try omega);split<;>omega):=h
def VQ(h:p:=by have:=HGL.o;simp;omega):=h
def VS(h:p:=by have:=HR1.o.2.2.2.1;have:=HP.o.2.2;omega):=h
def YA(h:p:=by intro W1 hl;obtain⟨q1,q2,q3,q4,q5,q6⟩:=CE.o W1 hl;go_simp<;>with_reducible rfl):=h
def YB(h:p:=by rw[RX,AMx hC];exact h3'.mono (fun k _ hm=>hX k hm)):=h
def YC(h:p:=by simp at hj;omega):=h
def YD(h:p:=by simpa using hk):=h
def YE(h:p:=by unfold Bv at hlen;simp only[AMl,AMf] at hlen;omega):=h
def YF(h:p:=by rw[AMp ZH];simp[Full.DV]):=h
def YG(h:p:=by unfold Oper.asks at*;rw[APJ oj hsj a oi.dst v h1] at hasks;exact hasks):=h
def YH(h:p:=by intro W1 hl;obtain⟨c0,c1,f1,_⟩:=CE.out W1 hl;go_simp<;>with_reducible rfl):=h
def YI(h:p:=by rw[←APG a v u h2];exact he):=h
def YJ(h:p:=by simpa using AOP D.o.2.2.1):=h
def YK(h:p:=by intro W1 hl;obtain⟨p0,p1,p2⟩:=CE.out W1 hl;go_simp<;>with_reducible rfl):=h
def YL(h:p:=by rw[show (8*(7-(t:Int)))=(u:Int) by omega];exact IntWalk.i64_in _ KA):=h
def YM(h:p:=by rw[hP];exact AMj (AM5 ND hd) ND):=h
def YN(h:p:=by have:=D.o;simp;omega):=h
def YO(h:p:=by simp only[AMl,AMr];omega):=h
def YP(h:p:=by intro W1 hl;obtain⟨p7,pt⟩:=CE.out _ W1 hl;go_simp<;>with_reducible rfl):=h
def YQ(h:p:=by intro W1 hl;have e0:=r0.o _ (hd.nil.trans hl);go_simp<;>with_reducible rfl):=h
def YR(h:p:=by simp only[AM1,ANJ,AN2] at hk;have:=HGW.o;omega):=h
def YS(h:p:=by intro W1 hl;have lg:=(XG3.o.drew.later hl).lt;go_simp<;>with_reducible rfl):=h
def YT(h:p:=by rw[BU];decide):=h
def YU(h:p:=by have:=HSZ.o;have:=HBX.o.size;have:=hz.size;omega):=h
def YV(h:p:=by intro W1 hl;obtain⟨p1,p2⟩:=CE.out W1 hl;go_simp<;>with_reducible rfl):=h
def YW(h:p:=by intro W1 hl;obtain⟨cl,ll⟩:=CL.out W1 hl;go_simp<;>with_reducible rfl):=h
def YX(h:p:=by rw[show (t:Int)-15=(m1:Int) by omega];exact IntWalk.i64_in _ KA):=h
def YZ(h:p:=by rw[show (t:Int)-2=(m14:Int) by omega];exact IntWalk.i64_in _ KA):=h
def Y0(h:p:=by simpa using AOP D.o.2.1):=h
def Y4(h:p:=by rw[show (t:Int)-16=(m:Int) by omega];exact IntWalk.i64_in _ KA):=h
def Y5(h:p:=by rw[show (t:Int)-7=(m9:Int) by omega];exact IntWalk.i64_in _ KA):=h
def Y6(h:p:=by rw[AQ];exact hat):=h
def Y7(h:p:=by rw[hh.2];exact hl.drew):=h
def Y8(h:p:=by intro W1 hl;obtain⟨ca,cb⟩:=HC.o W1 hl;go_simp<;>with_reducible rfl):=h
def Y9(h:p:=by intro W1 hl;have e0:=c0.o _ (hd.trans hl);go_simp<;>with_reducible rfl):=h
def ZA(h:p:=by intro W1 hl;have e0:=cx.o _ (hd.trans hl);go_simp<;>with_reducible rfl):=h
def ZB(h:p:=by simp only[intOf];have:=HJ.o;omega):=h
def ZC(h:p:=by have:=HSS.o.2.2;omega):=h
def ZE(h:p:=by have:=HPK.o;rw[hpk1];show ((pk:Int)+1)%18446744073709551616=_;omega):=h
def ZF(h:p:=by have:=HS.out;unfold wrap64;omega):=h
def ZG(h:p:=by rw[hx,AMd,AMe hjl];rfl):=h
def ZH(h:p:=by rw[D0.out.1];exact AMi _):=h
def ZI(h:p:=by rw[←hW1];exact hI.alloc _ (hI.alloc _ h0)):=h
def ZJ(h:p:=by show (18446744073709551615-(lf:Int))%18446744073709551616=_;omega):=h
def ZK(h:p:=by intro W1 hl;have lg:=(XS.o W1 hl).lt;go_simp<;>with_reducible rfl):=h
def ZL(h:p:=by have:=ANW (AMw.1 hk);have:=HSZ.o;omega):=h
def ZM(h:p:=by intro W1 hl;have c0:=HC.out W1 hl;go_simp<;>with_reducible rfl):=h
def ZN(h:p:=by simpa using hJ):=h
def ZO(h:p:=by have:=HTM.out;omega):=h
def ZP(h:p:=by have:=HY.o;omega):=h
def ZQ(h:p:=by intro j hj;have:=HP.o.1;simp at hj;omega):=h
def ZR(h:p:=by rw[AMd,AMe h];rfl):=h
def ZS(h:p:=by rw[hp,hd];decide):=h
def ZT(h:p:=by obtain⟨k,rfl⟩:=hh.2;exact AO7 (ANF _ _) k):=h
def ZU(h:p:=by rw[Da,ANC];exact XN.out.cell j TC):=h
def ZV(h:p:=by unfold Gv;rw[show p/32=0 by omega,show p%32=p by omega,hbl]):=h
def ZW(h:p:=by have:=HL.out;omega):=h
def ZX(h:p:=by rw[Lib.cell_of_heap hbk];rfl):=h
def ZY(h:p:=by rw[Lib.cell_of_heap hb2];rfl):=h
def ZZ(h:p:=by have:=HB1.out.size;have:=HBW.out;omega):=h
def Za(h:p:=by cases e;omega):=h
def Zb(h:p:=by show ((rungs.length:Nat):Int)%18446744073709551616=_;omega):=h
def Zc(h:p:=by cases e;exact⟨_,hK3,rfl⟩):=h
def Zd(h:p:=by simp at t;omega):=h
def Ze(h:p:=by cases h):=h
def Zf(h:p:=by rw[ANA,AN3];exact HS.out):=h
def Zg(h:p:=by rw[hkd k hk cs t hB];decide):=h
def Zh(h:p:=by simpa using D.o.2.2.2):=h
def Zi(h:p:=by rw[←APG a v u h2];exact h):=h
def Zj(h:p:=by have:=HJL.o;omega):=h
def Zk(h:p:=by simpa using hB):=h
def Zl(h:p:=by rw[AQ]):=h
def Zm(h:p:=by simp[go_sem]):=h
def Zn(h:p:=by rw[←HN.out.1];exact AMi _):=h
def Zo(h:p:=by rw[hw5];exact (B3.o.nil).setCell (Or.inl NC) _):=h
def Zp(h:p:=by rw[←HN.out.1];exact hjn):=h
def Zq(h:p:=by have:=HJ.o;omega):=h
def Zr(h:p:=by have:=HQ.o;omega):=h
def Zt(h:p:=by have:=HJN.o;have:=HP.o.2.2.2;omega):=h
def Zu(h:p:=by show ((r:Int)-(f:Int))%18446744073709551616=_;omega):=h
def Zv(h:p:=by rw[hr] at e;cases e):=h
def Zw(h:p:=by simp at hk;simp[hk]):=h
def Zx(h:p:=by rw[AOu];omega):=h
def Zy(h:p:=by rw[←HN.o.1];omega):=h
def Zz(h:p:=by have:=HBL.out;simp;omega):=h
def Z4(h:p:=by rw[←AOO];congr 1;omega):=h
def Z5(h:p:=by unfold QI;rw[AMs,hxe];simp[Full.Dg]):=h
def Z7(h:p:=by have:=HB.out;simp;omega):=h
def Z8(h:p:=by rw[AMf,AM6,h3];omega):=h
def Z9(h:p:=by show (p.length:Int)%18446744073709551616=_;omega):=h
def AAX(h:p:=by have:=HJ.out;have:=HM.out.1;have:=HQ.out.1;omega):=h
def AAY(h:p:=by cases hm):=h
def AAZ(h:p:=by have:=HSZ.o;have:=Bwd.o.size;have:=hz.size;omega):=h
def AAa(h:p:=by simpa [Value.ownBlock] using hk):=h
def AAb(h:p:=by show ((a:Int)*256)%18446744073709551616=_;omega):=h
def AAc(h:p:=by simpa using hr):=h
def AAd(h:p:=by simp[results,Tryz.results216,go_sem,CK,FD.agg]):=h
def AAt(h:p:=by have:=HCW.out;simp at hk;omega):=h
def AAu(h:p:=by have:=(hr r e).1;omega):=h
def ABn(h:p:=by rw[←HCL.o];exact hjn):=h
def ABr(h:p:=by simp[results,Tryz.results236,go_sem,g0,g1,l4]):=h
def ABt(h:p:=by obtain⟨j,hj,e⟩:=aG ws 0 h0;exact h j hj e):=h
def ABu(h:p:=by show (1+(r:Int))%18446744073709551616=_;omega):=h
def ABv(h:p:=by simp at hb;subst hb;exact fun e=>hni (e▸ha)):=h
def ABw(h:p:=by rw[←AOO,show n+(32-n)=32 by omega]):=h
def ABx(h:p:=by rw[AOD KA];push_cast;rfl):=h
def ABy(h:p:=by have:=(AL HO2.out _ hm).1;have:=HB.out;omega):=h
def ABz(h:p:=by simp at hj;exact hj.1):=h
def AB0(h:p:=by rw[hrec];simp):=h
def AB1(h:p:=by rw[AMf];omega):=h
def AB2(h:p:=by rw[AOD KA];exact iJ x a):=h
def AB3(h:p:=by show ((a0:Int)*16777216)%4294967296=_;omega):=h
def AB4(h:p:=by rw[h.2];exact ANF _ _):=h
def AB5(h:p:=by rw[AM8,AM6];omega):=h
def AB6(h:p:=by rw[ANM];exact HSZ.out):=h
def ACA(h:p:=by have:=HN.out.1;omega):=h
def ACB(h:p:=by rw[Jl,AM6];have:=D0.out;omega):=h
def ACC(h:p:=by rw[←hnn];exact hjn):=h
def ACF(h:p:=by rw[Bj,Bi]):=h
def ACG(h:p:=by rw[hz];exact HSB.o.2):=h
def ACH(h:p:=by rw[AMh.1 hk,←hJ.sz];omega):=h
def ACJ(h:p:=by cases e;exact⟨_,hK,rfl⟩):=h
def ACK(h:p:=by show (j:Int)%18446744073709551616=_;omega):=h
def ACN(h:p:=by have:=(AL HO2.o k hk).1;have:=HBS.o;omega):=h
def ACP(h:p:=by have:=(AL HO2.o j hj).1;have:=HBA.o;omega):=h
def ACQ(h:p:=by have:=(AL HO2.o g hm).1;have:=HBA.o;omega):=h
def ACR(h:p:=by show (i:Int)%18446744073709551616=_;omega):=h
def ACS(h:p:=by intro j hj;have:=HOB.o.1;simp at hj;omega):=h
def ACT(h:p:=by rw[hw1,hn];simp):=h
def ACV(h:p:=by simpa [hq] using hs):=h
def ACW(h:p:=by show ((a1:Int)*65536)%4294967296=_;omega):=h
def ACX(h:p:=by rw[AM6];omega):=h
def ACY(h:p:=by rw[AQ];omega):=h
def ACZ(h:p:=by rw[h.2];exact AP0 _):=h
def ACa(h:p:=by rw[hsp x hx];decide):=h
def ACb(h:p:=by intro W1 hl;go_simp<;>with_reducible rfl):=h
def ACc(h:p:=by intro j hj;have:=HQB.o;simp at hj;omega):=h
def ACd(h:p:=by rw[hrec] at hl3;exact hl3):=h
def ACe(h:p:=by rw[AM8];omega):=h
def ACf(h:p:=by rw[HX.o];exact fun _ h=>h):=h
def ACg(h:p:=by rw[←HM.out.1];exact hjm):=h
def ACh(h:p:=by show ((a2:Int)*256)%4294967296=_;omega):=h
def ACi(h:p:=by have:=HS.out;omega):=h
def ACj(h:p:=by simpa using hi):=h
def ACk(h:p:=by have:=hdd.out;have:=hm0.out;simp;omega):=h
def ACl(h:p:=by have:=hdd.out;have:=hv0.out;simp;omega):=h
def ACm(h:p:=by have:=hL _ m;omega):=h
def ACn(h:p:=by rw[ANC];exact hcl i W' hi hb):=h
def ACo(h:p:=by show (p:Int)%256=_;omega):=h
def ACp(h:p:=by have:(D4 i lw lp).length=3:=rfl;omega):=h
def ACq(h:p:=by rw[←HNR.o.1];exact hch):=h
def ACr(h:p:=by have:=hgW.out.2;have:=hSZ'.out;omega):=h
def ACs(h:p:=by simp[results,Tryz.results105,go_sem]):=h
def ACt(h:p:=by have:=HL.out;simp;omega):=h
def ACu(h:p:=by rw[hb1];omega):=h
def ACv(h:p:=by rw[AN6];decide):=h
def ACw(h:p:=by rw[←HT.o.1];exact hjn):=h
def ACx(h:p:=by simp only[intOf];have:=HJ.out;omega):=h
def ACy(h:p:=by have:=HBR.o.size;have:=HB17.o;omega):=h
def ACz(h:p:=by rw[hkt];exact HKA.out t KA):=h
def AC0(h:p:=by have:=HR.o;omega):=h
def AC1(h:p:=by simp[Full.Dg,JN]):=h
def AC2(h:p:=by have:=AOC k;simp;omega):=h
def AC3(h:p:=by have:=HSZ.o;simp;omega):=h
def AC4(h:p:=by have:=E.g1;omega):=h
def AC5(h:p:=by have:=E.g3;omega):=h
def AC6(h:p:=by have:=HNL.o _ hk;have:=HB3.o;omega):=h
def AC7(h:p:=by rw[←HDD.o];exact hin):=h
def AC8(h:p:=by rw[hwt];exact HC.out t KA):=h
def ADA(h:p:=by show (tag.length:Int)%256=_;omega):=h
def ADB(h:p:=by have:=hl.size;have:=HBW.out;omega):=h
def ADC(h:p:=by rw[←HN.o.1];exact AMi _):=h
def ADE(h:p:=by rw[Dk];have:=HCS.o;simp[Ah];omega):=h
def ADF(h:p:=by have:=HLA.out;have:=HBL.out;omega):=h
def ADG(h:p:=by simp[WideAt.IsKeyLit]):=h
def ADH(h:p:=by rw[Gh] at hj;exact hj):=h
def ADI(h:p:=by show (a0:Int)%4294967296=_;omega):=h
def ADJ(h:p:=by show (a1:Int)%4294967296=_;omega):=h
def ADK(h:p:=by show (a2:Int)%4294967296=_;omega):=h
def ADL(h:p:=by show (a3:Int)%4294967296=_;omega):=h
def ADM(h:p:=by rw[hrec];exact hps x):=h
def ADN(h:p:=by rw[hp];push_cast;rfl):=h
def ADO(h:p:=by rw[←HN.o];exact hi):=h
def ADP(h:p:=by have:=HQ.out.1;omega):=h
def ADQ(h:p:=by rw[hbl];exact EU _ _):=h
def ADR(h:p:=by simp[DC,←HN.out.1]):=h
def ADS(h:p:=by rw[HB1S.out];exact HB1.out.size):=h
def ADT(h:p:=by rw[ANe];simp;omega):=h
def ADU(h:p:=by have:=HSB.o.2;have:=hgz.o;omega):=h
def ADV(h:p:=by rw[HC.o.1];exact hjn):=h
def ADW(h:p:=by rw[AM6,Jr];decide):=h
def ADX(h:p:=by rw[hw5];exact AP3 RD4.o 1 _):=h
def ADY(h:p:=by simpa using hl):=h
def ADZ(h:p:=by rw[HML.out];have:=HL.out;omega):=h
def ADa(h:p:=by simpa using h2):=h
def ADb(h:p:=by rw[Int.toNat_natCast];exact hs):=h
def ADc(h:p:=by simpa using hb):=h
def ADd(h:p:=by rw[HF1.out];simp only[hcn];rfl):=h
def ADe(h:p:=by rw[HB12.out.2];exact HN5.out.2):=h
def ADf(h:p:=by simp at hi;exact hi):=h
def ADg(h:p:=by have:=HLA.out;omega):=h
def ADh(h:p:=by have:=HAL.out;omega):=h
def ADi(h:p:=by simp[results,Tryz.results235]):=h
def ADj(h:p:=by rw[hh.2];exact APy W'):=h
def ADk(h:p:=by rw[hw5];exact BP4.o.far hgp _):=h
def ADl(h:p:=by simp[results,Tryz.results152]):=h
def ADm(h:p:=by rw[hm];exact UInt8.toNat_lt _):=h
def ADn(h:p:=by rw[HQE.out];exact BB.out.size):=h
def ADo(h:p:=by have:=(AL HO1.o _ hm).1;omega):=h
def ADp(h:p:=by rw[HGX.o];exact AMi _):=h
def ADq(h:p:=by rw[De];rfl):=h
def ADr(h:p:=by rw[hw5];exact BT.o.far hgt _):=h
def ADs(h:p:=by simp[he]):=h
def ADt(h:p:=by rw[AQ,LY];have:=HN.out;omega):=h
def ADu(h:p:=by rw[hy];exact Qz x KA):=h
def ADv(h:p:=by have:=B1.out.size;simp;omega):=h
def ADw(h:p:=by have:=D0.out;omega):=h
def ADx(h:p:=by simpa using h):=h
def ADy(h:p:=by have:=HB17.o;omega):=h
def ADz(h:p:=by have:=hqz.o;simp at hk;omega):=h
def AD0(h:p:=by rw[hws];exact OX (Ll bl) 48):=h
def AD1(h:p:=by have:=ho.1;simpa using this):=h
def AD2(h:p:=by have:=h.sz;have:=h.ct;omega):=h
def AD3(h:p:=by rw[HLE.o,AMu KA]):=h
def AD4(h:p:=by simpa using h.hne):=h
def AD5(h:p:=by rw[Pre,AMx hb]):=h
def AD6(h:p:=by rw[h w1 hl];exact hc w1 hl):=h
def AD7(h:p:=by have:=HL.o;omega):=h
def AD8(h:p:=by rw[Bj,Bi];decide):=h
def AD9(h:p:=by rw[hGj];rfl):=h
def AEA(h:p:=by simpa using hvg):=h
def AEB(h:p:=by simpa using hxg):=h
def AEC(h:p:=by simpa using hlt):=h
def AED(h:p:=by simpa using ho1):=h
def AEE(h:p:=by simpa using he):=h
def AEF(h:p:=by rw[ht]):=h
def AEG(h:p:=by assumption):=h
def AEH(h:p:=by push_cast;rfl):=h
def AEI(h:p:=by simp[hx]):=h
def AEJ(h:p:=by cases hk):=h
def AEK(h:p:=by
 refine Be (i:=8) rfl NA PE PE _ _ 25 rfl (n+1+1+1+1+1) 9 is (O ⟨#[]⟩) 1 16 Tryz.underlying25 HIS.o.1 HIS.o.2.1 HIS.o.2.2.1 HIS.o.2.2.2 rfl ND ND Bd v2 j 1 1 (Full.Dg (ts.take j)) (fun k hk=>AM3.2 (Or.inr hk)) rfl g7 [.string slf] rfl rfl (fun u hu=>SK) Zj (fun wz hz=>⟨YU,AA HO2c.o hz NC,X7.o.but hz NC⟩) ?_;intro wy v8 w8 hy ho8 hb8;refine tz ?_;obtain⟨pb,mb,cb,rfl⟩:=BH ho8;have HBX8:Shut (But (v1.ownBlock.toList++v2.ownBlock.toList) W4 w8):=⟨(HBX.o.trans hy.nil).trans (hb8.mono (fun k _ hk=>AM3.2 (Or.inr hk)))⟩;have HR1':Shut (w8.ownsRow (n+1+1+1+1+1) 22 1 (.slice pa ma ca) (j+1) (Full.DV (ps.take (j+1)))):=⟨AA (AA HR1.o hy NC) hb8 (fun k hk hm=>Nh (AA HO2c.o hy NC) (AA HR1.o hy NC) ND k hk (AMw.2 hm))⟩;rw[←HT2.o] at ho8;have HR2:=sq ho8;clear ho8 hb8 hy HO2c X7 HBX HR1;refine KO (i:=9) (f:=fun W1=>W1.setCell (n+1+1:Nat) (.slice pa ma ca)) rfl NA PE PE ?_ ?_;(intro W1 hl;obtain⟨x1,q1,q2,q3⟩:=AHb;clear x1;exact AFN);intro w9 h9;refine tz ?_;have hS9:But [n+1+1] w9 (w9.setCell (n+1+1:Nat) (.slice pa ma ca)):=(APu _ _).setCell (Or.inl NC) _;have e1:Boxed w9 (n+1+1) 24 v1:=APx HX1.o (HBX8.o.trans h9.nil) NB1.o.1;have p1:Boxed (w9.setCell (n+1+1:Nat) (.slice pa ma ca)) (n+1+1) 24 (.slice pa ma ca):=Boxed.set _ e1;have e2:Boxed (w9.setCell (n+1+1:Nat) (.slice pa ma ca)) (n+1+1+1) 25 v2:=APx (APx HX2.o (HBX8.o.trans h9.nil) NB1.o.2.1) hS9 NC;have r1:=AA (AA HR1'.o h9 NC) hS9 (fun k hk hm=>TG);have r2:=AA (AA HR2.o h9 NC) hS9 (fun k hk hm=>TH);have bx9:But ((v1.ownBlock.toList++v2.ownBlock.toList)++[n+1+1]) W4 (w9.setCell (n+1+1:Nat) (.slice pa ma ca)):=((HBX8.o.trans h9.nil).mono (fun k _ hk=>AM3.2 (Or.inl hk))).trans (hS9.mono (fun k _ hk=>AM3.2 (Or.inr hk)))
 have k9:KeepsOthers W4 (w9.setCell (n+1+1:Nat) (.slice pa ma ca)):=((HBX8.o.trans h9.nil).keeps (fun k hk=>by
  rcases AM3.1 hk with h|h
  ·exact OW1.o k h
  ·exact OW2.o k h)).trans (KeepsOthers.setCell _ _ _)
 have F9:=sq (AMc p1 (AMc e2 (AMc r1 (AMc r2 (AMc bx9 k9)))));clear h9 hS9 e1 p1 e2 r1 r2 bx9 k9 HBX8 HR1' HR2;generalize w9.setCell (n+1+1:Nat) (.slice pa ma ca)=wq at*;refine Bu (i:=10) (f:=?_) rfl NA NA NA PE ?_ ?_;rotate_left;(exact AFc);intro w10 w11 h10 h11;refine tz ?_;obtain⟨p1,e2,r1,r2,bx9,k9⟩:=F9.o;have hS10:But [n+1+1+1] w10 (w10.setCell (n+1+1+1:Nat) (.slice pb mb cb)):=(APu _ _).setCell (Or.inl NC) _;have hU:But [n+1+1+1] wq w11:=(h10.nil.trans hS10).trans h11.nil;have q1:Boxed (w10.setCell (n+1+1+1:Nat) (.slice pb mb cb)) (n+1+1+1) 25 (.slice pb mb cb):=Boxed.set (v:=v2) _ (APx e2 h10 NC);have hT:But ((v1.ownBlock.toList++v2.ownBlock.toList)++[n+1+1]++[n+1+1+1]) W4 w11:=(bx9.mono (fun k _ hk=>AM3.2 (Or.inl hk))).trans (hU.mono (fun k _ hk=>AM3.2 (Or.inr hk)));have hni:∀k,k<n+1+1∨k=n+1+1+1+1→k∉((v1.ownBlock.toList++v2.ownBlock.toList)++[n+1+1]++[n+1+1+1]):=fun k hk hm=>AFn;have HF:Shut (KeepsFrom w1.heap.size Wr w11∧jJ n W q (G (M lay) #[] #[]) ps ts (pre++[(j,v)]).length w11):=⟨((HB4.o.keepsO.trans k9).trans ((h10.keepsO.trans (KeepsOthers.setCell _ _ _)).trans h11.keepsO)).from _,AEj⟩;clear p1 e2 r1 r2 bx9 k9 hS10 hU q1 hT hni h10 h11 F9 HJ4 HB4 hd;simp only[LA];gi_wp2_with fail;exact HF.o):=h
def AEL(h:p:=by obtain⟨b0,bp,hrd⟩:=AL2;have hgs:=h.lt;have HERE:Shut (∀W',But [] (W.alloc (Yk #[Yn] 129)) W'→Yv Yw 237 #[U g] W' fun e w'=>e=Yi (O (AB (S.drop at_)))∧But [] (W.alloc (Yk #[Yn] 129)) w'):=⟨fun W' hl=>AFb⟩;have HEAD:Shut (∀W',But [] (W.alloc (Yk #[Yn] 129)) W'→Yv Yw 236 #[O (AB (S.drop at_)),.slice (Z ⟨gb,go,Y⟩) L.length c] W' fun e w'=>Lp (Cb L (S.drop at_)) e∧But [] (W.alloc (Yk #[Yn] 129)) w'):=⟨fun W' hl=>AEp⟩;have HB0:=sq b0;have HP:=sq bp;have HRD:=sq hrd;have HSS:=sq (AMc hat (AMc hS hmost));have HSZ:=sq hs;exact AMc b0 (AMc bp (AMc hrd (AMc hgs (AMc HERE (AMc HEAD (AMc HB0 (AMc HP (AMc HRD (AMc HSS HSZ)))))))))):=h
def AEM(h:p:=by have X1:=sq (APw W1 (LP (x.rvs.getD j Ai).p (x.rvs.getD j Ai).L (x.rvs.getD j Ai).i (.slice Aw (x.rvs.getD j Ai).lw.length cw) (.slice Ap (x.rvs.getD j Ai).lp.length cp) (AB (x.rvs.getD j Ai).r) (x.rvs.getD j Ai).w (x.rvs.getD j Ai).f (x.rvs.getD j Ai).l (x.rvs.getD j Ai).k) 70);have A1:=sq ((APu [] W1).alloc (Yk (LP (x.rvs.getD j Ai).p (x.rvs.getD j Ai).L (x.rvs.getD j Ai).i (.slice Aw (x.rvs.getD j Ai).lw.length cw) (.slice Ap (x.rvs.getD j Ai).lp.length cp) (AB (x.rvs.getD j Ai).r) (x.rvs.getD j Ai).w (x.rvs.getD j Ai).f (x.rvs.getD j Ai).l (x.rvs.getD j Ai).k) 70));have HK:=sq hK;exact AMc X1 (AMc A1 HK)):=h
def AEN(h:p:=by refine⟨_,rfl,rfl,fun a w hl hg hs=>?_⟩;have e0:=AF (hs 0 ND);refine AP5 (v:=U gx) ?_ rfl;go_simp):=h
def AEO(h:p:=by clear hF hm5;refine AX NA [4] ?_;refine AY 0 ?_;refine AY 1 ?_;refine Eb 2 (fun W1 hl=>(PAR.o W1).mono fun e w' h=>⟨h.1,AB4⟩) ?_;refine AY 3 (h:=UI) ?_;refine DJ (i:=4) (f:=?_) rfl NA NA NA PE ?_ ?_;rotate_left;(exact AKY);intro w8 w9 h8 h9;refine tz ?_;have B8:=sq (APv ((APy w7).trans h8));have hpl:pb∉([]:List Nat):=NC;obtain⟨_,hmq,hbq⟩:=HF.o w8 m _ (HR7.o.2.1.but B8.o NC) VS;have hr8:=HR7.o.1.but B8.o NC NC;have hl8:w8.rangeLeft mb (pb+1)=w7.rangeLeft mb (pb+1):=CQ B8.o NC NC HR7.o.1.map.lt HR7.o.1.lt;(have hq1:mb∉[pb]:=by have:=HP.o.2.1;simp;omega);have hq2:pb+1∉[pb]:=NC;have hr9:=(hr8.but hbq hq1 hq2).but (APv h9) NC NC;have hl9:w9.rangeLeft mb (pb+1)=w8.rangeLeft mb (pb+1):=(CQ (APv h9) NC NC (hr8.but hbq hq1 hq2).map.lt (hr8.but hbq hq1 hq2).lt).trans (CQ hbq hq1 hq2 hr8.map.lt hr8.lt);have hm9:=hmq.but (APv h9) NC;rw[←HSTK.o] at hm9;have hB9:But [] W w9:=(((B1.o.trans B7.o).trans B8.o).trans' hbq ZQ).trans (APv h9);have HE:=sq (AMc hr9 (AMc hm9 (AMc (show m+1+w9.rangeLeft mb (pb+1)≤n by have h1:=HR1.o.2.2.1;have h2:=HR1.o.2.2.2.1;have h3:=HR7.o.2.2;omega) (AMc hB9 (show w9.rangeLeft mb (pb+1)<wr.rangeLeft mb (pb+1) by have h1:=HR1.o.2.2.1;have h3:=HR7.o.2.2;omega)))));clear h8 h9 hmq hbq hr8 hl8 hq1 hq2 hr9 hl9 hm9 hB9 B8 MP XB HF X7 hrn hen hand' hpl;go_wp2_with fail;exact⟨⟨_,m+1,HE.o.1,HE.o.2.1,HE.o.2.2.1,HE.o.2.2.2.1⟩,HE.o.2.2.2.2⟩):=h
def AEP(h:p:=by go_in;go_wp2_with fail;refine Yd.o.mono ?_;rintro e w1 ⟨rfl,hb⟩;exact AL9):=h
def AEQ(h:p:=by have E:=Lib.hid (AMc (e1.trans (Bk HM.out.symm)) (e2.trans (Bk HO.out.symm)));clear e1 e2;go_round;(case rel=>exact⟨j+1,KA,UY,Hr (E.out.1.trans (Bk HM1.out.symm)),Hr (E.out.2.trans (Bk HO1.out.symm))⟩);case measure=>simp[intOf];omega):=h
def AER(h:p:=by have HF:=sq hF;have HC:=sq hcl;have HN:=sq (AMc hn (AMc hc hn2));have HOO:=sq ho;clear hF hcl hn hc hn2 ho;go_in;go_wp2_with fail;go_loopw [8] (fun k wr=>∃j:Nat,k=Yg Yj j∧j≤n∧firstIdx p n 0=firstIdx p (n-j) j∧But [] W wr) (fun k _=>n-(intOf k).toNat);(case atStart=>exact⟨0,rfl,KA,rfl,APu _ _⟩);case round=>exact AEa):=h
def AES(h:p:=by have hun:listed.getD i Yy=false:=(AOn.1 hr).1;have hnot:∀e∈oj.after,Region.binds md e=Yy→e.on≠i:=fun e he hb heq=>AEi;exact AMc hun hnot):=h
def AET(h:p:=by go_wp2_with fail;go_ret;exact⟨rfl,rfl⟩):=h
def AEU(h:p:=by refine⟨BN.lt,fun i hi=>?_⟩;match i,hi with|0,_=>rw[show [f0,f1,f2].getD 0 fd0=f0 from rfl,k0,m0,K0.eval_,hmv0,hpv0,K0.gval];exact AFQ|1,_=>rw[show [f0,f1,f2].getD 1 fd0=f1 from rfl,k1,m1,K1.eval_,hmv1,hpv1,K1.gval];exact AFO|2,_=>rw[show [f0,f1,f2].getD 2 fd0=f2 from rfl,k2,m2,K2.eval_,hmv2,hpv2,K2.gval];exact AFM|m+3,hi=>exact absurd (show m+3<3 from hi) KA):=h
def AEV(h:p:=by (intro W1 hl;go_simp<;>with_reducible rfl)):=h
def AEW(h:p:=by refine AP5 (v:=U gx) ?_ rfl;go_simp):=h
def AEX(h:p:=by rintro e w1 ⟨rfl,hb⟩;exact AL9):=h
def AEY(h:p:=by rintro e w' ⟨v,rfl,⟨b,rfl,hb,hz⟩,hlt⟩;exact⟨_,rfl,⟨_,rfl,⟨⟨_,_,rfl⟩,⟨_,_,rfl⟩,⟨_,_,rfl⟩,⟨_,_,rfl⟩⟩,b,rfl,hb⟩,hlt⟩):=h
def AEZ(h:p:=by obtain⟨b0,bp,hrd⟩:=AL2;have hgs:=h.lt;exact AMc b0 (AMc bp (AMc hrd hgs))):=h
def AEa(h:p:=by obtain⟨j,rfl,hj,hp,hb⟩:=hrel;have hcn:=HN.o.2.1;have hN2:=HN.o.2.2;have hn1:=HN.o.1;by_cases hjn:j<n;(exact AEn);have hjn':¬((j:Int)<(n:Int)):=KA;have HB:=sq hb;have HP:=sq hp;rw[show n-j=0 by omega,firstIdx] at HP;clear hb hp;go_wp2_with fail;go_ret;refine⟨?_,HB.o⟩;rw[HP.o];rfl):=h
def AEb(h:p:=by unfold wpOp at*;simp only[hj] at*;rw[APW oj a oi.dst v h1] at h;split;(exact AEg);exact AMK):=h
def AEc(h:p:=by have BN:=APw w cc 220;have hF:Em (w.alloc (.cells cc 220)) w.heap.size [f0,f1,f2]:=AEh;have hl2:=AMI;exact AMc BN (AMc hF hl2)):=h
def AEd(h:p:=by go_ret;exact⟨rfl,rfl⟩):=h
def AEe(h:p:=by refine⟨w.heap.size,[f0,f1,f2],rfl,rfl,hF,(hd.trans hl).size,fun i=>?_,fun i=>?_,⟨fun i hi=>?_⟩⟩;(exact AIT);(exact AIU);match i,hi with|0,_=>exact K0.later (APv hl2).nil|1,_=>exact K1.later (APv hl2).nil|2,_=>exact K2.later (APv hl2).nil|m+3,hi=>exact absurd (show m+3<3 from hi) KA):=h
def AEf(h:p:=by clear h;go_in;go_wp2_with fail;refine HC.o.mono ?_;rintro e w1 ⟨rfl,hw1,hk1⟩;have H:=sq (AMc hw1 hk1);clear hw1 hk1;go_wp2_with fail;go_ret;exact⟨rfl,H.o⟩):=h
def AEg(h:p:=by rename_i hw;simp only[hw,if_true] at h;rcases h with h|⟨hasks,hlets⟩;(case inr=>exact .inr ⟨YG,hlets⟩);refine .inl ?_;unfold Oper.wp at*;rw[APJ oj hsj a oi.dst v h1] at h;generalize (execOp a.eval oj).run P w=r at*;cases r with|ok n w'=>exact AE8|halt x w'=>exact AJ2):=h
def AEh(h:p:=by rw[hcc] at BN⊢;refine⟨BN.lt,fun i hi=>?_⟩;match i,hi with|0,_=>exact AFD|1,_=>exact AFC|2,_=>exact AFB|m+3,hi=>exact absurd (show m+3<3 from hi) KA):=h
def AEi(h:p:=by have h2:=hall e he hb;rw[heq] at h2;rcases AM7 i listed.size with h'|h';(exact AGu);simp[AMz h'] at h2):=h
def AEj(h:p:=by rw[HKK.o.2.2.2];refine⟨APx HJ4.o.lb hT (hni _ KA),APx HJ4.o.rb hT (hni _ KA),⟨_,APx p1 hU NC,AA r1 hU (fun k hk hm=>UJ)⟩,⟨_,APx q1 h11 NC,AA r2 hU (fun k hk hm=>UK)⟩,APx HJ4.o.ib hT (hni _ KA),HJ4.o.but.transN hT (fun k hk=>?_),HJ4.o.sz,AMj HJ4.o.hs hT.size⟩;rw[←HJ4.o.sz];rcases AM7 k n with h|h;(exact absurd hk (hni k KA));exact h):=h
def AEk(h:p:=by have HH:=sq (show x.hit b=Yz by simp[FB.hit];omega);have HN':Shut (∀j,j<m+1→(L.getD j Mj).hit b=Yz):=⟨fun j hj=>AIz⟩;go_wp2_with fail;go_region;go_wp2_with fail;(exact AGB);rename_i hq;have hml:m+1≠L.length:=AIf;exact⟨⟨m+1,NC,KA,HN'.out,(HB.out.alloc _).drew,(B4.out.alloc _).drew,(B5.out.alloc _).drew⟩,NF⟩):=h
def AEl(h:p:=by rintro e a3 W3 hp;cases e with|normal=>exact AHd|ret=>exact AFg|exit id=>exact AFY|goto t=>exact AFZ|panic ch=>exact hp.elim|outgrown=>exact hp.elim):=h
def AEm(h:p:=by obtain⟨i,hi,hz⟩:=AOx.1 h;simp only[AOH] at hz;exact⟨i,hi,hz⟩):=h
def AEn(h:p:=by have hjn':((j:Int)<(n:Int)):=KA;obtain⟨f,hf⟩:∃f,f=F.getD (fr+j) fd0:=⟨_,rfl⟩;have hcell:=(HF.o.but hb NC).2 (fr+j) KA;rw[←hf,show (fr+j)*6=o+j*6 by have:=HOO.o KA;omega] at hcell;obtain⟨c0,c1,c2,c3,c4,c5⟩:=hcell;have HCJ:=sq (HC.o j wr hjn hb);rw[←hf] at HCJ;simp only[FD.agg] at HCJ;have HB:=sq hb;have HP:=sq hp;rw[show n-j=(n-(j+1))+1 by omega,firstIdx] at HP;clear hf hb hp;go_wp2_with fail;refine HCJ.o.mono ?_;rintro e w2 ⟨rfl,hb2⟩;rcases hpj:p j with _|_;(exact AIL);rw[hpj] at HP;have HPJ:=sq hpj;clear hpj;go_wp2_with fail;go_ret;exact⟨by rw[HP.o];rfl,HB.o.trans hb2⟩):=h
def AEo(h:p:=by have HV:=sq (show L8 W (x.rvs.getD j Ai) (Yr (LP (x.rvs.getD j Ai).p (x.rvs.getD j Ai).L (x.rvs.getD j Ai).i (.slice Aw (x.rvs.getD j Ai).lw.length cw) (.slice Ap (x.rvs.getD j Ai).lp.length cp) (AB (x.rvs.getD j Ai).r) (x.rvs.getD j Ai).w (x.rvs.getD j Ai).f (x.rvs.getD j Ai).l (x.rvs.getD j Ai).k)) from ⟨Aw,cw,Ap,cp,rfl,h1,h2,h3,h4⟩);exact HV):=h
def AEp(h:p:=by have hgb:gb<(W.alloc (Yk #[Yn] 129)).heap.size:=NG;refine (JL (S.drop at_) gb go c L W' (QN hT hg (b0.trans hl)) (AMn hgb hl.size) hL0 hL hc hs VD).mono ?_;rintro e w' ⟨h1,h2⟩;exact⟨h1,hl.trans h2⟩):=h
def AEq(h:p:=by refine EN (i:=5) (R:=fun _ v w'=>∃p,v=Ym #[Yg V 0,Yo 286 (U (p:Nat))]) rfl NA PE PE (fun W1 hl=>(RP (H.o.zero (hd.trans hl))).mono ?_) (fun W1 hl=>?_) ?_;(exact AJX);(exact AFN);rintro W1 _ w' hl hb ⟨p,rfl⟩;have B5:=sq ((hd.trans hl).nil.trans hb);clear hl hb hd;refine tz ?_;refine Ay 6 ?_;refine Ay 7 ?_;refine JS (i:=8) rfl NA PE (fun W2 hl=>?_) (fun W2 hl=>(Fl (Yg V 0) p W2).mono ?_);(exact AFN);rintro e w2 ⟨rfl,rfl⟩;refine⟨_,rfl,rfl,Cv (B5.o.trans hl.nil),?_⟩;exact AMN):=h
def AEr(h:p:=by have bset:=AL7;have B9:Shut (But (g::[gx]) W W9):=⟨(((BW2.out.trans2 (LX.out.trans (hl7.trans hl8).nil) (fun b hb=>Or.inr (HX.out.2.2.2.2.2 b hb))).trans2 bset NC).trans hl9.nil)⟩;have R9:Shut (RS B gR g S W9 l'):=⟨((((RS2.out.but LX.out HX.out.2.2.2.1 HX.out.2.2.2.2.1 (fun b hb=>AMj HBW.out.1 (HX.out.2.2.2.2.2 b hb))).zero (hl7.trans hl8)).but bset PU PU PU).zero hl9)⟩;have X9:Shut (AJ W9 gx (cs.setIfInBounds k (.slice A6 (j+1) cap)) tx):=⟨AHs⟩;exact AMc bset (AMc B9 (AMc R9 X9))):=h
def AEs(h:p:=by refine AP5 (v:=.pointer (Z ⟨gx,6,Y⟩)) ?_ rfl;go_simp):=h
def AEt(h:p:=by go_in;go_wp2_with fail;refine HM.o.mono ?_;rintro e w1 ⟨rfl,hw1⟩;rw[hw1];clear hw1;go_wp2_with fail;refine HR.o.mono ?_;exact AG2):=h
def AEu(h:p:=by have hL1:W1.heap[w.heap.size+1]?=Z (.loop (rec .ready Y)):=AF3;have hK1:W1.heap[w.heap.size]?=Z (.deferred (Z [])):=AHH;have hI1:I [] W1:=ZI;exact AMc hL1 (AMc hK1 hI1)):=h
def AEv(h:p:=by rintro e W2 ⟨⟨v,rfl⟩,(⟨xs,hS,hi,hl,hk⟩|⟨c,pre,hi,hl,hk⟩)⟩;(exact AGh);exact⟨Z c,_,PM,hstop c pre _ (hIx c _ _ _ _ _ hi KA hl rfl) ((World.putObj_heap_other KA).trans hk)⟩):=h
def AEw(h:p:=by rcases ho.2 with⟨rfl,h0⟩|⟨g',cap,cur,rfl,_,hh,_,_,_,ht⟩;(exact AHC);refine ANq w _ _ _ ⟨g',0,Y⟩ cap bs Tryz.underlying32 Tryz.underlying5 Tryz.underlying9 (fun j hj=>?_);(have h1:(BI bs)[j]?=Z (Yg Yq (bs[j].toNat:Int)):=by simp[BI,hj]);rw[Da,ANC];refine AJ.cell (t:=5) (cs:=cur) hh j ?_;rw[←AN4,←h1,←ht,ANL KA]):=h
def AEx(h:p:=by refine AP5 (v:=.pointer (Z ⟨gx,3,Y⟩)) ?_ rfl;go_simp):=h
def AEy(h:p:=by refine AP5 (v:=.pointer (Z ⟨gx,1,Y⟩)) ?_ rfl;go_simp):=h
def AEz(h:p:=by refine AP5 (v:=.pointer (Z ⟨gx,2,Y⟩)) ?_ rfl;go_simp):=h
def AE0(h:p:=by refine hfree k ok hk hki ?_ hno;by_cases hjk:j=k;(exact AKK);rw[APP Yy hjk] at hku;exact hku):=h
def AE1(h:p:=by have hr2:∀r,row=Z r→∃o:Obj,W.heap[r]?=Z o∧o.isCells=false:=fun r e=>(hr r e).2;have hb:=AP8 hg hr2;exact AMc hr2 hb):=h
def AE2(h:p:=by have e1':=AF e1;have EW:=AML;exact AMc e1' EW):=h
def AE3(h:p:=by go_wp2_with fail;go_ret;exact⟨rfl,APu _ _⟩):=h
def AE4(h:p:=by go_in;go_wp2_with fail;refine CN.o.mono ?_;exact ALu):=h
def AE5(h:p:=by clear hg1 hg2 hg3 h hG;go_in;go_wp2_with fail;refine HC.o.mono ?_;rintro e w' ⟨⟨p,rfl⟩,hb⟩;go_wp2_with fail;go_ret2;exact⟨⟨_,⟨p,rfl⟩,rfl⟩,hb⟩):=h
def AE6(h:p:=by rintro v w6 ⟨rfl,hb6⟩;refine⟨hb6,?_⟩;refine tz ?_;have BC:=sq ((BB.o.trans hw5).trans hb6);clear hb6 hw5 HRC XA2 XB2 BB;refine KC 12 ?_;refine KC 13 ?_;refine KC 14 ?_;refine KC 15 ?_;refine KC 16 ?_;refine LM NA ?_ _;intro w8 hb8;have BD:=sq (BC.o.trans hb8);obtain⟨⟨_,l0⟩,_,_,_,p0⟩:=HC.o _ BD.o;clear hb8 BC;go_wp2_with fail;refine (HU.o _).mono ?_;rintro e w9 ⟨rfl,hw9⟩;rw[hw9];clear hw9;go_wp2_with fail;go_ret;exact⟨rfl,BD.o⟩):=h
def AE7(h:p:=by generalize r.p=rp at*;generalize r.L=rL at*;generalize r.i=ri at*;generalize r.lw.length=rwl at*;generalize r.lp.length=rpl at*;generalize AB r.r=rr at*;generalize r.w=rw' at*;generalize r.f=rf at*;generalize r.l=rl' at*;generalize r.k=rk at*;unfold LP at*;go_in;go_wp2_with fail;refine HE.o.mono ?_;rintro e w2 ⟨rfl,hb2⟩;have HB:=sq (BA.o.trans hb2);clear hb2;go_wp2_with fail;refine AMo (ANQ rfl _ _ _) rfl ?_;exact⟨rfl,HB.o⟩):=h
def AE8(h:p:=by cases n<;>simp only[Oper.upon] at h⊢;(case value u=>exact⟨keep a hy u,Zi⟩);(case skip=>exact⟨keep a hy _,UL⟩);(case defer d=>exact AI7);(case enter f args=>exact AHV);case row row args=>exact Rows.mono h fun u w'' he=>⟨keep a hy u,YI⟩):=h
def AE9(h:p:=by exact fun s A' B' row hs hg hr=>hs.own hg (fun r e=>⟨AMj KA (hr r e).1,(hr r e).2⟩)):=h
def AFA(h:p:=by intro listed a w _ hr hy H;refine⟨fun h=>UF,fun j hj w1 h1=>?_⟩;by_cases hji:j=i;(exact AGz);exact AH2):=h
def AFB(h:p:=by exact⟨BN.cell 12 rfl,BN.cell 13 rfl,(BN.cell 14 rfl).trans (ANb Z x21.symm),(BN.cell 15 rfl).trans (ANb Z x22.symm),(BN.cell 16 rfl).trans (ANb Z x23.symm),(BN.cell 17 rfl).trans (ANb Z x24.symm)⟩):=h
def AFC(h:p:=by exact⟨BN.cell 6 rfl,BN.cell 7 rfl,(BN.cell 8 rfl).trans (ANb Z x11.symm),(BN.cell 9 rfl).trans (ANb Z x12.symm),(BN.cell 10 rfl).trans (ANb Z x13.symm),(BN.cell 11 rfl).trans (ANb Z x14.symm)⟩):=h
def AFD(h:p:=by exact⟨BN.cell 0 rfl,BN.cell 1 rfl,(BN.cell 2 rfl).trans (ANb Z x01.symm),(BN.cell 3 rfl).trans (ANb Z x02.symm),(BN.cell 4 rfl).trans (ANb Z x03.symm),(BN.cell 5 rfl).trans (ANb Z x04.symm)⟩):=h
def gF(h:p:=by exact AG2):=h
def AFF(h:p:=by have D3:(x:Int)/16777216=(y3:Int):=KA;have D2:(x:Int)/65536=(y2:Int):=KA;have D1:(x:Int)/256=(y1:Int):=KA;(have W3:IntKind.u8.wrap (y3:Int)=((y3%256:Nat):Int):=by show (y3:Int)%256=_;omega);(have W2:IntKind.u8.wrap (y2:Int)=((y2%256:Nat):Int):=by show (y2:Int)%256=_;omega);(have W1:IntKind.u8.wrap (y1:Int)=((y1%256:Nat):Int):=by show (y1:Int)%256=_;omega);(have W0:IntKind.u8.wrap (x:Int)=((x%256:Nat):Int):=by show (x:Int)%256=_;omega);have M3:(y3:Int)%256=((y3%256:Nat):Int):=KA;have M2:(y2:Int)%256=((y2%256:Nat):Int):=KA;have M1:(y1:Int)%256=((y1%256:Nat):Int):=KA;have M0:(x:Int)%256=((x%256:Nat):Int):=KA;exact AMc D3 (AMc D2 (AMc D1 (AMc W3 (AMc W2 (AMc W1 (AMc W0 (AMc M3 (AMc M2 (AMc M1 M0)))))))))):=h
def AFG(h:p:=by have hjn':¬((j:Int)<(n:Int)):=KA;exact hjn'):=h
def AFH(h:p:=by clear hb;go_wp2_with fail;go_ret;exact⟨rfl,HB.o⟩):=h
def AFI(h:p:=by intro l R Rx hl hR hRx hlt hY W1 hIW hRW;refine (Ge x q (n+1+1) g HS.o.2.1 W HS.o.1 (fun _ W1=>Uj n W q 36 (Yg Yj 0) W1) (fun k W1 h=>⟨h.ib,h.but⟩) (fun k W1 W2 h hb=>h.bt hb) l R Rx (fun W1 W2 h hb=>hR _ _ h ((hb.keepsO).from _)) (fun pre v W2 h hr=>hY pre v W2 h hr) W1 hIW hRW).mono ?_;rintro e W2 ⟨hv,hJ,hr⟩;exact⟨hv,.inl ⟨List.replicate x.rvs.length (0,Yn),NC,hJ,hr⟩⟩):=h
def AFJ(h:p:=by have hxm:∀b∈XX,W.heap.size≤b∧b<q:=AIY;have HX:Shut (v3∉XX∧gx∉XX∧q∉XX∧g∉XX∧gR∉XX∧(∀b∈XX,W.heap.size≤b)):=⟨by have h1:=V3.out.lt;have h2:=X0.out.lt;have h3:=H.out.rd.lt;have h4:=H.out.rR.lt;exact AGV⟩;exact AMc hxm HX):=h
def AFK(h:p:=by refine Eb 11 (fun W1 hl=>(HPR.o W1 (APv ((APy W).trans hl))).mono fun e w' h=>⟨h.1,h.2.later⟩) ?_;refine AY 12 ?_;refine Bl NA (fun w1 hl6=>?_) _;refine tz ?_;have BL:=sq (APv ((APy W).trans hl6));clear hl6 XG HPR;go_wp2_with fail;refine (NO.o _).mono ?_;rintro r w6 ⟨rfl,hw6⟩;rw[hw6];clear hw6 w6;go_wp2_with fail;go_ret;exact⟨rfl,BL.o⟩):=h
def AFL(h:p:=by have C1:Shut (∀ad,Z (⟨g,o,Y⟩:Addr)=Z ad→∀i u,(Full.DV (l.take j))[i]?=Z u→wr.cell? (ad.add i)=Z u):=⟨fun ad e i u hu=>by cases e;exact Gi HN.out.2 (aD hu)⟩;have C2:Shut (∀ww,But [] wr ww→∀ad,Z (⟨g,o+j,Y⟩:Addr)=Z ad→∀i u,(Full.DV (l.drop j))[i]?=Z u→ww.cell? (ad.add i)=Z u):=⟨fun ww hb ad e i u hu=>AI9⟩;exact AMc C1 C2):=h
def AFM(h:p:=by exact⟨BN.cell 12 rfl,BN.cell 13 rfl,BN.cell 14 rfl,BN.cell 15 rfl,BN.cell 16 rfl,BN.cell 17 rfl⟩):=h
def AFO(h:p:=by exact⟨BN.cell 6 rfl,BN.cell 7 rfl,BN.cell 8 rfl,BN.cell 9 rfl,BN.cell 10 rfl,BN.cell 11 rfl⟩):=h
def AFP(h:p:=by have c1:=hJ.rb.cell;have f1:=hJ.rb.frozen;have l1:=hJ.rb.lt;have hset:But [n+1] W1 (W1.setCell (n+1:Nat) (Yg Yj 0)):=(APu _ _).setCell (Or.inl NC) _;have hJ3:Uj n W q 36 (Yg Yj 0) (W1.setCell (n+1:Nat) (Yg Yj 0)):=⟨APx hJ.qb hset NC,Boxed.set _ hJ.rb,APx hJ.ib hset NC,hJ.but.transN hset (fun k hk=>ACH),hJ.sz⟩;have hK3:(W1.setCell (n+1:Nat) (Yg Yj 0)).heap[w1.heap.size]?=Z (.deferred (Z [])):=(hset.block w1.heap.size (AMm.1 hK).1 NG).trans hK;exact AMc c1 (AMc f1 (AMc l1 (AMc hset (AMc hJ3 hK3))))):=h
def AFQ(h:p:=by exact⟨BN.cell 0 rfl,BN.cell 1 rfl,BN.cell 2 rfl,BN.cell 3 rfl,BN.cell 4 rfl,BN.cell 5 rfl⟩):=h
def AFR(h:p:=by have HX5:=sq (AP3 HX4.o 1 (Yg V pk1));have HB5:=sq (HB4.o.setCell (p:=⟨g,1,Y⟩) (Or.inl NC) (Yg V pk1));have HO5:Shut ((w4.setCell ⟨g,1,Y⟩ (Yg V pk1)).ownsRow base 5 1 (Yh g4 (k+1) cap) (k+1) (BI (Cn seed p (k+1)))):=⟨AA HO4.o ((APu [g] w4).setCell (p:=⟨g,1,Y⟩) (Or.inl NC) _) (fun j hj hm=>AIo)⟩;exact AMc HX5 (AMc HB5 HO5)):=h
def AFS(h:p:=by have SL:=run_slice_all 254 5 8 b8 0 NA NA Tryz.underlying254 NA;have CV2:∀cap:Nat,(convert 32 9 (Yh b8 8 cap)).run Yw wr=.ok (O (AB (AV N))) wr:=fun cap=>AF8;exact AMc SL CV2):=h
def AFT(h:p:=by have hI0:Uj n W q 36 (Yg Yj 0) w1:=AFX;have hsz:w1.heap.size=n+3:=ACT;exact AMc hI0 hsz):=h
def AFU(h:p:=by exact fun a'=>AP7 (fun s A' B' row hs hg hr=>AFs)):=h
def AFV(h:p:=by have A1:=Df x0 (Pi x1);have A2:=Df (m32 (x0+Pi x1)) x9;have A3:=Df (m32 (m32 (x0+Pi x1)+x9)) (WU x14);have HW:Shut ((Gu (Cl bl) (m+1)).getD t 0=m32 (m32 (m32 (x0+Pi x1)+x9)+WU x14)):=⟨AH7⟩;have HOLD:Shut (∀j,j<16+m→(Gu (Cl bl) (m+1)).getD j 0=(Gu (Cl bl) m).getD j 0):=⟨fun j hj=>iL _ (F4 bl) m j hj⟩;exact AMc A1 (AMc A2 (AMc A3 (AMc HW HOLD)))):=h
def AFW(h:p:=by have V0:IntKind.u32.wrap (a0:Int)=(a0:Int):=ADI;have V1:IntKind.u32.wrap (a1:Int)=(a1:Int):=ADJ;have V2:IntKind.u32.wrap (a2:Int)=(a2:Int):=ADK;have V3:IntKind.u32.wrap (a3:Int)=(a3:Int):=ADL;have S0:IntKind.u32.wrap ((a0:Int)*16777216)=(p0:Int):=AB3;have S1:IntKind.u32.wrap ((a1:Int)*65536)=(p1:Int):=ACW;have S2:IntKind.u32.wrap ((a2:Int)*256)=(p2:Int):=ACh;have O1:=RI p0 p1 KA KA;have O2:=RI (p0 ||| p1) p2 (Jj KA KA) KA;have O3:=RI ((p0 ||| p1) ||| p2) a3 (Jj (Jj KA KA) KA) KA;have hwo:=gu a0 a1 a2 a3 hw hw1 hw2 hw3;exact AMc V0 (AMc V1 (AMc V2 (AMc V3 (AMc S0 (AMc S1 (AMc S2 (AMc O1 (AMc O2 (AMc O3 hwo)))))))))):=h
def AFX(h:p:=by rw[hw1,hn];have r0:=Boxed.new W 86 (U q);have r1:=Boxed.new (W.alloc (Yk #[U q] 86)) 36 (Yg Yj 0);have r2:=Boxed.new ((W.alloc (Yk #[U q] 86)).alloc (Yk #[Yg Yj 0] 36)) 86 (U q);simp only[AMk] at r1 r2;exact⟨(r0.alloc _).alloc _,r1.alloc _,r2,(((APu [] W).alloc _).alloc _).alloc _,rfl⟩):=h
def AFY(h:p:=by obtain⟨hk3,hi3⟩:=hp;obtain⟨hr,hl3,hl4,hk4⟩:=fin (Z (.exit id)) W3 hk3;exact⟨_,_,hr,.inr ⟨rfl,.exit id,hIx _ _ _ _ _ _ hi3 KA hl3 rfl,hl4,hk4⟩⟩):=h
def AFZ(h:p:=by obtain⟨hk3,hi3⟩:=hp;obtain⟨hr,hl3,hl4,hk4⟩:=fin (Z (.goto t)) W3 hk3;exact⟨_,_,hr,.inr ⟨rfl,.goto t,hIx _ _ _ _ _ _ hi3 KA hl3 rfl,hl4,hk4⟩⟩):=h
def AFa(h:p:=by go_wp2_with fail;go_ret;exact⟨NA,rfl⟩):=h
def AFb(h:p:=by have:=GI g at_ most (AB S) W' (DU hrd hl) Y6;rw[AQ,EY] at this;exact this.mono fun e w' hh=>⟨hh.1,Y7⟩):=h
def AFc(h:p:=by (intro W1 hl;have x1:AJ W1 _ _ _:=APx F9.o.2.1 hl NC;have q1:=x1.cell 0 rfl;have q2:=x1.lt;have q3:=x1.frozen 0;clear x1;go_simp<;>with_reducible rfl)):=h
def AFd(h:p:=by have R6:=sq (((R5.o.zero hl).but bset Y0 YJ Zh).zero hl3);clear hl hl3 bset;go_wp2_with fail;go_end0;refine⟨B6.o,?_⟩;rw[ho];exact⟨rfl,R6.o,X6.o⟩):=h
def AFe(h:p:=by have c0:=AL0;have r0:Shut (∀W',But [g] W W'→W'.cell? gR=Z (U g)):=⟨fun W' hb=>(h.rR.but hb AD4).cell 0 rfl⟩;have X0:=AMH;have H:=sq h;have D:=sq (AMc hk (AMc hxg (AMc hxR hBx)));exact AMc c0 (AMc r0 (AMc X0 (AMc H D)))):=h
def AFf(h:p:=by have HI:=sq (AMc hii (AMc hz (AMc hsz1 hby)));exact HI):=h
def AFg(h:p:=by obtain⟨hk3,hi3⟩:=hp;obtain⟨hr,hl3,hl4,hk4⟩:=fin (Z .ret) W3 hk3;exact⟨_,_,hr,.inr ⟨rfl,.ret,hIx _ _ _ _ _ _ hi3 KA hl3 rfl,hl4,hk4⟩⟩):=h
def AFh(h:p:=by have hje:j=n:=KA;subst hje;obtain⟨A,c,rfl⟩:=VF.out;have TI0:=TI.out;rw[AN6,Dp,Option.map_some,AM2] at TI0;have TT:=sq TI0;clear TI0;go_wp2_with fail;go_end0;refine⟨BB.out,?_⟩;simp only[Mc,HO.out,TT.out];rw[AC.out];exact⟨trivial,RS0.out,A,c,BX.out,RW.out⟩):=h
def AFi(h:p:=by go_in;go_wp2_with fail;go_ret;exact⟨ANb (fun x=>Ending.returned (Yl x)) (N9 n),APu _ _⟩):=h
def AFj(h:p:=by (intro W1 hl;obtain⟨c0,l0,f0⟩:=CE5.o W1 hl;go_simp<;>with_reducible rfl)):=h
def AFk(h:p:=by have m0:=S0.o.blk.cell 0 rfl;have m1:=S0.o.blk.cell 1 rfl;have m2:=S0.o.blk.cell 2 rfl;have m3:=S0.o.blk.cell 3 rfl;have m4:=S0.o.blk.cell 4 rfl;exact ALm):=h
def AFl(h:p:=by have m0:=S1.o.blk.cell 0 rfl;have m1:=S1.o.blk.cell 1 rfl;have m2:=S1.o.blk.cell 2 rfl;have m3:=S1.o.blk.cell 3 rfl;have m4:=S1.o.blk.cell 4 rfl;exact ALm):=h
def AFm(h:p:=by have m0:=S2.o.blk.cell 0 rfl;have m1:=S2.o.blk.cell 1 rfl;have m2:=S2.o.blk.cell 2 rfl;have m3:=S2.o.blk.cell 3 rfl;have m4:=S2.o.blk.cell 4 rfl;exact ALm):=h
def AFn(h:p:=by simp only[AM3,AMh] at hm;rcases hm with ((h|h)|h)|h;(have:=OB1.o k h;omega);(have:=OB2.o k h;omega);(omega);omega):=h
def AFo(h:p:=by have hl2:(W.putObj (w.heap.size+1) (.loop {rec .ready Y with state:=.busy})).heap[w.heap.size+1]?=Z (.loop {rec .ready Y with state:=.busy}):=World.putObj_heap_same hlt;have hk2:(W.putObj (w.heap.size+1) (.loop {rec .ready Y with state:=.busy})).heap[w.heap.size]?=Z (.deferred (Z [])):=(World.putObj_heap_other KA).trans hk;exact AMc hl2 hk2):=h
def AFp(h:p:=by have HBX:Shut (But (v1.ownBlock.toList++v2.ownBlock.toList) W4 w7):=⟨((Bwd.o.trans hy).nil).trans (hb5.mono (fun k _ hk=>AM3.2 (Or.inl hk)))⟩;have HO2c:Shut (w7.ownsRow (n+1+1+1+1+1) 9 1 v2 j (Full.Dg (ts.take j))):=⟨AA (AA HO2.o (Bwd.o.trans hy) NC) hb5 (fun k hk hm=>OD.o k hk (AMw.2 hm))⟩;exact AMc HBX HO2c):=h
def AFq(h:p:=by split<;>(try omega);split<;>(try omega);split<;>(try omega);split<;>omega):=h
def AFr(h:p:=by obtain⟨⟨n,rfl⟩,hb⟩:=hs;refine FE (r:=2) (ce:=3) Tryz.results164 _ (Yg V 0) g at_ most pe (AB S) n w' rfl rfl (APx HRD.out hb NC) (APx HP.out hb NC) fun p W' hW=>⟨⟨p,rfl⟩,?_⟩;rw[hW];exact ((HB0.out.trans hb).setCell (Or.inr hpw.out) _).alloc _):=h
def AFs(h:p:=by obtain⟨h1,h2,h2',b,cs,h4,h3,h5⟩:=hs;have hr2:=AH0;exact⟨h1.own hg (fun r e=>⟨AMj KA (hr r e).1,(hr r e).2⟩),h2,h2',b,cs,h4,APx h3 (AP8 hg hr2) (Az hr2 h3),h5⟩):=h
def AFt(h:p:=by go_wp2_with fail;go_ret;exact⟨rfl,HB.out⟩):=h
def AFu(h:p:=by refine S3.o.whole.mono ?_;rintro e z ⟨rfl,hb⟩;have BZ:=sq (S3.o.but.trans hb);exact AH1):=h
def AFv(h:p:=by have V1:=sq (fun (W1:J) (hb:But [] W W1)=>Ps i lw lp Aw Ap cw cp W1 hi (hw.but hb) (hp.but hb) hcw hcp hlw hlp hsw hsp);have V2:=sq (fun (W1:J) (hb:But [] W W1)=>Du L W1 hL);have V3:=sq (fun (W1:J) (hb:But [] W W1)=>Du 1 W1 ND);have HV:=sq (AMc (AMj (Gt _) (Qq i lw lp hi hsw hsp hlw hlp)) (AMc (Cr L hL) (Cr 1 ND)));exact AMc V1 (AMc V2 (AMc V3 HV))):=h
def AFw(h:p:=by have B1:=sq ((APu [] W).alloc (Yk (LP p L i (.slice a1 n1 c1) (.slice a2 n2 c2) r w f l k) 70));exact B1):=h
def AFx(h:p:=by have TI9:=sq (TI.out.trans (KS hjn HD.out acc));have AC9:Shut ((acc++[x]).length=j+1):=⟨by simp[AC.out]⟩;clear bset hl7 hl8 hl9;go_wp2_with fail;exact⟨⟨j+1,_,l',acc++[x],NC,KA,R9.out,TI9.out,AC9.out,X9.out,⟨_,_,rfl⟩,RW9.out,B9.out⟩,NF⟩):=h
def AFy(h:p:=by have hgb:gb<(W.alloc (Yk #[Yn] 129)).heap.size:=NG;have ht:uj W' gb go numsL:=fun j hj=>AGa;exact AMc hgb ht):=h
def AFz(h:p:=by have h2:=OL (w0:=w1) hoj (hfree j oj hoj hji hjun hnot) (fun cs b=>hsel i oi cs b hi) (fun cs b=>hsel j oj cs b hoj) hQ (hy.later hl) h1;exact h2):=h
def AF0(h:p:=by have HERE:Shut (∀W',But [] (W.alloc (Yk #[Yn] 129)) W'→Yv Yw 237 #[U g] W' fun e w'=>e=Yi (O (AB (S.drop at_)))∧Later W' w'):=⟨fun W' hl=>AIC⟩;exact HERE):=h
def AF1(h:p:=by unfold Go.wpOp;simp only[hi,hw,if_true,Oper.wp,h w1 hl,Oper.upon];refine .inl ⟨fun hn=>absurd Zk hn,?_⟩;cases fuel with|zero=>exact⟨hr2,fun w2 h2=>hk w1 w2 hl h2⟩|succ n=>exact AKz):=h
def AF2(h:p:=by have:=(((APw (W.alloc (Yk #[.pointer (Z tgt)] 222)) #[Yg Yj m] 3).alloc (Yk #[G (M f1) #[] #[]] 291)).alloc (Yk #[G (M f2) #[] #[]] 293)).alloc (Yk #[G (M f3) #[] #[]] 294);rw[AMk] at this;exact AKJ):=h
def AF3(h:p:=by rw[←hW1];have:=World.alloc_heap_new (w.alloc (.deferred (Z []))) (.loop (rec .ready Y));rwa [AMk] at this):=h
def AF4(h:p:=by have e0:=AF (hs 0 ND);exact e0):=h
def AF5(h:p:=by have HZ:=sq hz;clear hz;go_wp2_with fail;refine CL.o.mono ?_;rintro e w3 ⟨rfl,hb3⟩;have HB3:=sq (HB2.o.trans hb3);clear hb3;go_wp2_with fail;refine AMo (ANQ rfl _ _ _) rfl ?_;exact⟨by rw[HZ.o];rfl,HB3.o⟩):=h
def AF6(h:p:=by clear h;go_in;go_wp2_with fail;refine Yd.o.mono ?_;rintro e w1 ⟨rfl,hb⟩;go_wp2_with fail;go_ret2;exact⟨rfl,hb⟩):=h
def AF7(h:p:=by exact⟨_,rfl,⟨W.heap.size,rfl,(APw _ _ _).alloc _,AMi _⟩,((APu [] W).alloc _ |>.alloc _).later⟩):=h
def AF8(h:p:=by have h:=ANq (P:=Yw) wr 32 9 5 ⟨b8,0,Y⟩ cap (AV N) Tryz.underlying32 Tryz.underlying5 Tryz.underlying9 (fun k hk=>AJh);exact h):=h
def AGB(h:p:=by rename_i hq _ _;(have hml:m+1=L.length:=by have:=eq_of_beq hq;omega);refine (FU _ _).mono ?_;rintro e w1 ⟨rfl,rfl⟩;go_wp2_with fail;refine⟨rfl,?_,(HB.out.alloc _).drew⟩;rw[Nq (fun j hj=>HN'.out j KA)];exact⟨5,rfl⟩):=h
def AGC(h:p:=by have HR7:Shut (Gj w7 mb (pb+1) n (Ph f) (fun j=>left j&& !(j==k))∧MapU w7 pb m (Tf (Gr f left))∧w7.rangeLeft mb (pb+1)=w1.rangeLeft mb (pb+1)):=⟨⟨HR1.o.1.but B7.o NC NC,HR1.o.2.1.but B7.o NC,CQ B7.o NC NC HR1.o.1.map.lt HR1.o.1.lt⟩⟩;exact HR7):=h
def AGD(h:p:=by have hg:=grownBy_putObj' W1 w1.heap.size (.deferred Y);have hr2:∀r,Z w1.heap.size=Z r→∃o:Obj,W1.heap[r]?=Z o∧o.isCells=false:=fun r e=>ACJ;exact AMc hg hr2):=h
def AGE(h:p:=by obtain⟨i,h1,h2⟩:=AOx.1 h;simp only[AOH] at h2;exact⟨i,h1,h2.1,h2.2.1,h2.2.2⟩):=h
def AGF(h:p:=by have H24:=sq h24;generalize a.tmps.getD 15 Yx=vv at H24⊢;rename_i K hK;refine hK _ _ (APt (AMo (v:=vv) ?_ UU ⟨vv,rfl,H24.o,hd.trans hl⟩));rw[AO6 Tryz.results199];exact AL4):=h
def AGG(h:p:=by have H24:=sq h24;generalize a.tmps.getD 23 Yx=vv at H24⊢;rename_i K hK;refine hK _ _ (APt (AMo (v:=vv) ?_ UU ⟨vv,rfl,H24.o,hd.trans hl⟩));rw[AO6 Tryz.results141];exact AL4):=h
def AGH(h:p:=by have H24:=sq h24;generalize a.tmps.getD 16 Yx=vv at H24⊢;rename_i K hK;refine hK _ _ (APt (AMo (v:=vv) ?_ UU ⟨vv,rfl,H24.o,hd.trans hl⟩));rw[AO6 Tryz.results140];exact AL4):=h
def AGI(h:p:=by unfold Go.wpOp;simp only[hi,hw,if_true,Oper.wp,h w1 hl,Oper.upon];exact .inl ⟨fun hn=>absurd Zk hn,hk w1 hl⟩):=h
def AGT(h:p:=by exact AH2):=h
def AGK(h:p:=by rw[ho] at hE;obtain⟨p,rfl⟩:=hE;go_wp2_with fail;refine⟨rfl,Cv hb1,?_⟩;simp only[Mc,ho];exact⟨p,rfl⟩):=h
def AGL(h:p:=by have e1':=AF e1;refine AP5 (v:=.pointer (Z ⟨gx,4,Y⟩)) ?_ rfl;go_simp):=h
def AGM(h:p:=by have BA:=sq ((APu [] W).alloc (Yk (LP r.p r.L r.i (.slice Aw r.lw.length cw) (.slice Ap r.lp.length cp) (AB r.r) r.w r.f r.l r.k) 70));have XA:=sq (APw W (LP r.p r.L r.i (.slice Aw r.lw.length cw) (.slice Ap r.lp.length cp) (AB r.r) r.w r.f r.l r.k) 70);exact AMc BA XA):=h
def AGN(h:p:=by have hjn':((j:Int)<(n:Int)):=KA;exact hjn'):=h
def AGO(h:p:=by have hg1':(W.alloc (Yk #[Yn] 129)).cell? (0:Nat)=Z (.slice (Z ⟨gb,go,Y⟩) 5 c):=hg1;have GL:Shut (∀W',But [] (W.alloc (Yk #[Yn] 129)) W'→W'.cell? (0:Nat)=Z (.slice (Z ⟨gb,go,Y⟩) 5 c)):=⟨fun W' hl=>(AMg (hl.block _ NC NC)).trans hg1'⟩;exact AMc hg1' GL):=h
def AGP(h:p:=by have hby2:(n+m)*bytes≤140737488355328:=AMj (AOA (show n+m≤100000 by omega) hby) ND;exact AMC):=h
def AGQ(h:p:=by go_in;go_wp2;go_ret;exact⟨rfl,ANF _ _⟩):=h
def AGR(h:p:=by rw[Array.setIfInBounds_comm _ _ hji];exact h3.2.2):=h
def AGS(h:p:=by obtain⟨hs1,hs2⟩:=hs.low HX2.out hlt;have hT:((yy:Int)/9223372036854775808==0)=true:=NG;have hj2:j<63:=KA;clear hs;go_wp2;go_round;(case rel=>exact⟨j+1,yy*2,KA,UY,UY,hs2⟩);case measure=>simp[intOf];omega):=h
def AFE(h:p:=by have hr2:=AH0;exact hr2):=h
def AGU(h:p:=by rw[AMk,AMk,AMk,AMk] at this;exact AKJ):=h
def AGV(h:p:=by refine⟨fun h=>?_,fun h=>?_,fun h=>?_,fun h=>?_,fun h=>?_,fun b hb=>(hxm b hb).1⟩<;>(have:=hxm _ h;omega)):=h
def AGW(h:p:=by have c0:W.cell? g=Z (.string pt):=hx.cell 0 rfl;have c1:W.cell? ⟨g,1,Y⟩=Z (Yg V c):=hx.cell 1 rfl;have c2:W.cell? ⟨g,2,Y⟩=Z (.string dg):=hx.cell 2 rfl;have c4:W.cell? ⟨g,4,Y⟩=Z (Yg V w):=hx.cell 4 rfl;have c5:W.cell? ⟨g,5,Y⟩=Z (Yg V s):=hx.cell 5 rfl;have c6:W.cell? ⟨g,6,Y⟩=Z (Yg Yj mo):=hx.cell 6 rfl;exact AMc c0 (AMc c1 (AMc c2 (AMc c4 (AMc c5 c6))))):=h
def AGX(h:p:=by have cl:=hrow.lt;have A7:=sq ((APu [] wr).alloc (Yk #[O (AB f.key),Yl f.must,G (M ef) #[] ec,G (M mf) #[] mc,G (M pf) #[] pc,G (M gf) #[] gc] 220));have X7:=sq (APw wr #[O (AB f.key),Yl f.must,G (M ef) #[] ec,G (M mf) #[] mc,G (M pf) #[] pc,G (M gf) #[] gc] 220);exact AMc cl (AMc A7 X7)):=h
def AGY(h:p:=by have hxl:x<18446744073709551616:=AGd;exact hxl):=h
def AGZ(h:p:=by rw[ANL KA] at e1;have e2:cur[j]?=Z (vs.getD j Yx):=AIZ;exact AMO):=h
def AGa(h:p:=by obtain⟨a,b,c,d⟩:=hg3 j hj;have e:=hl.block gb hgb NC;exact⟨(AMg e).trans a,(AMg e).trans b,(AMg e).trans c,(AMg e).trans d⟩):=h
def AGb(h:p:=by clear hg1 hg2 hg3 h hG;go_in;go_wp2_with fail;refine HC.o.mono ?_;rintro e w' ⟨rfl,hr,hb⟩;have HR:=sq hr;clear hr;go_wp2_with fail;go_ret2;refine⟨rfl,?_,hb⟩;rw[ANc];exact HR.o):=h
def AGc(h:p:=by (have hs:i<(AB bl).size:=by rw[AQ];exact hi);rw[dif_pos ⟨KA,KA⟩];congr 3;have:(AB bl)[(i:Int).toNat]'ADb=bl.getD i 0:=AKW;rw[this]):=h
def AGd(h:p:=by have:=AMt hxe;rw[HA.o.1] at this;simp only[AM1,ANJ,AN2] at this;rcases this with h|h|h<;>rw[h];(exact HA.o.2.1);(exact HA.o.2.2.1);exact HA.o.2.2.2):=h
def AGe(h:p:=by refine hfin _ ?_;clear hfin;go_simp):=h
def AGf(h:p:=by rw[e1,e2];go_round;(case rel=>exact⟨k+1,h',l',KA,UY,rfl,rfl,hs'⟩);case measure=>simp[intOf];omega):=h
def AGg(h:p:=by have D:=sq (AMc hk (AMc hxg (AMc hxR hBx)));exact D):=h
def AGh(h:p:=by exact⟨Y,_,PM,hdone xs _ hS (hI.putObj _ hi KA hl rfl) ((World.putObj_heap_other KA).trans hk)⟩):=h
def AGi(h:p:=by have hpw:Shut (W.heap.size≤pe):=⟨KA⟩;exact hpw):=h
def AGj(h:p:=by go_wp2_with fail;go_ret;refine⟨_,rfl,?_,B3.out⟩;rw[HPZ.out];refine Dc (base:=wr.heap.size) (n:=j+1) ?_;have e:Full.DV (l++[k])=Full.DV (l.take j)++[Yg V k]:=YF;rw[e];exact O3.out):=h
def AGJ(h:p:=by exact AH1):=h
def AGl(h:p:=by clear hg1 hg2 hg3 h hG;go_in;go_wp2_with fail;refine HC.o.mono ?_;rintro e w' ⟨rfl,hr,hb⟩;have HR:=sq hr;clear hr;go_wp2_with fail;go_ret2;refine⟨rfl,?_,hb⟩;skip;exact HR.o):=h
def AGm(h:p:=by unfold World.cell? at h2;split at h2;(exact AHh);cases h2):=h
def AGn(h:p:=by go_wp2_with fail;refine HH.o.mono ?_;rintro e w1 ⟨rfl,hb1⟩;have HB1:=sq (HB.o.trans hb1);clear hb1;go_wp2_with fail;go_ret;exact⟨by rw[←HRES.o];first|done|rfl,HB1.o⟩):=h
def AGo(h:p:=by show (0:UInt8).toNat*2^24+(0:UInt8).toNat*2^16+(0:UInt8).toNat*2^8+(0:UInt8).toNat=0;decide):=h
def AGp(h:p:=by have hI:∃i,Tryz.prog.info? 5=Z i∧i.zero=Z (Yg Yq 0)∧i.size=1∧i.bytes=1:=⟨_,rfl,rfl,rfl,rfl⟩;exact hI):=h
def AGq(h:p:=by exact (((((h1.far (p:=(r:Nat)) NG _).far (p:=⟨r,1,Y⟩) NG _).far (p:=⟨r,2,Y⟩) NG _).far (p:=⟨r,3,Y⟩) NG _).far (p:=⟨r,4,Y⟩) NG _).far (p:=⟨r,5,Y⟩) NG _):=h
def AGr(h:p:=by exact (((((h2.far (p:=(r:Nat)) NG _).far (p:=⟨r,1,Y⟩) NG _).far (p:=⟨r,2,Y⟩) NG _).far (p:=⟨r,3,Y⟩) NG _).far (p:=⟨r,4,Y⟩) NG _).far (p:=⟨r,5,Y⟩) NG _):=h
def AGs(h:p:=by exact (((((h3.far (p:=(r:Nat)) NG _).far (p:=⟨r,1,Y⟩) NG _).far (p:=⟨r,2,Y⟩) NG _).far (p:=⟨r,3,Y⟩) NG _).far (p:=⟨r,4,Y⟩) NG _).far (p:=⟨r,5,Y⟩) NG _):=h
def AGt(h:p:=by go_wp2_with fail;go_ret;exact⟨rfl,VJ⟩):=h
def AGu(h:p:=by simp[h'] at hun h2;rw[hun] at h2;cases h2):=h
def AGv(h:p:=by intro c pre W1 h;exact h.elim):=h
def AGw(h:p:=by refine DF hr fun w1 hl=>?_;unfold Go.wpOp;simp only[hi,hw,if_true,Oper.wp,h w1 hl,Oper.upon];exact .inl ⟨fun _=>(ANF _ _).alloc (AMi _) ob,hk w1 hl⟩):=h
def AGx(h:p:=by have HA:Shut (AJ (W.alloc (Yk #[O ⟨#[]⟩,Yl Yz,Yp,Yp,Yp,Yp] 220)) W.heap.size #[O ⟨#[]⟩,Yl Yz,Yp,Yp,Yp,Yp] 220):=⟨APw _ _ _⟩;have B0:=sq ((APu [] W).alloc (Yk #[O ⟨#[]⟩,Yl Yz,Yp,Yp,Yp,Yp] 220));exact AMc HA B0):=h
def AGy(h:p:=by have hxs:=RW.out;refine AA (AA hxs BQ.out NC) hb2 ?_;intro k hk hvk;have h1:=C5 hxs hvk;have h2:=RS0.out.rd.lt;have h3:=HQE.out;have h4:=H.out.rd.lt;simp at hk;omega):=h
def AGz(h:p:=by subst hji;exact (hy.later h1).wpOp hi fun w' h'=>⟨fun _=>h',H.later (h1.trans h')⟩):=h
def AG0(h:p:=by subst hji;exact (hy.later hl).wpOp hi fun w' h'=>⟨fun _=>h',H.later (hl.trans h')⟩):=h
def AG1(h:p:=by have h:(Tryz.prog.info? 70).map (fun i=>(i.zero,i.size,i.bytes))=Z (Z (Yr #[Yg V 0,Yg V 0,Yl Yz,Yg V 0,.slice Y 0 0,.slice Y 0 0,O ⟨#[]⟩,Yg V 0,Yg V 0,Yg V 0,Yg V 0]),11,128):=NA;exact h):=h
def AGk(h:p:=by exact AKJ):=h
def AG3(h:p:=by have HSF:=run_store_func;exact HSF):=h
def AG4(h:p:=by have m0:=S3.o.blk.cell 0 rfl;have m1:=S3.o.blk.cell 1 rfl;have m2:=S3.o.blk.cell 2 rfl;have m3:=S3.o.blk.cell 3 rfl;have m4:=S3.o.blk.cell 4 rfl;exact ALm):=h
def AG5(h:p:=by by_cases e:k=t;(exact AJR);rw[AMv KA];exact HC.out k KA):=h
def AG6(h:p:=by have hxs:=RW6.out;refine AA (AA (AA hxs (hl7.trans hl8) NC) bset ?_) hl9 NC;intro b hb hvb;have h1:=(C5 hxs hvb).1;have h2:=HBW.out.2.2.2.1;simp at hb;omega):=h
def AG8(h:p:=by refine⟨0,.slice Y 0 0,r,[],rfl,KA,R1.out,(JV _ _ _).symm,rfl,?_,⟨Y,0,rfl⟩,⟨rfl,Or.inl ⟨rfl,rfl⟩⟩,B1.out⟩;rw[set_self K.out];exact X1.out):=h
def AG9(h:p:=by have hd:But [] W W.drew:=(APu [] W).drew;exact hd):=h
def AHA(h:p:=by have BL:=sq (APv ((APy W).trans hl6));exact BL):=h
def AHB(h:p:=by by_cases e:j=t;(exact AKV);rw[AMv KA,HOLD.out j ZO];exact HC.out j ZO):=h
def AHC(h:p:=by have hbs:bs=[]:=AOZ.1 h0;rw[hbs];exact Go.Lib.run_convert_nil_bytes w _ _ _ 0 Tryz.underlying32 Tryz.underlying5 Tryz.underlying9):=h
def AHD(h:p:=by intro k hk;simp at hk;rcases hk with rfl|rfl;(exact Or.inl NC);exact Or.inr hWq):=h
def AHE(h:p:=by have hP4:P≤65536:=YM;have hs:IntKind.u64.wrap ((2:Int)^d)=(P:Int):=AI1;have q1:¬((d:Int)<0):=KA;have q2:¬((d:Int)>16):=KA;have q3:¬((16:Int)<(d:Int)):=KA;have hd64:(d:Int)<64:=KA;exact AMc hP4 (AMc hs (AMc q1 (AMc q2 (AMc q3 hd64))))):=h
def AHF(h:p:=by go_wp2_with fail;go_ret2;exact⟨Iq.no ND E.o rfl,B0⟩):=h
def AHG(h:p:=by have P5:Shut (AJ w5 pe #[Yn] 129):=⟨ADk⟩;have T5:AJ w5 gt #[Yg V n,O (AB rest)] 302:=ADr;have u0:w5.cell? gt=Z (Yg V n):=T5.cell 0 rfl;have u1:w5.cell? ⟨gt,1,Y⟩=Z (O (AB rest)):=T5.cell 1 rfl;have p0:w5.cell? pe=Z Yn:=P5.o.cell 0 rfl;have p1:=P5.o.frozen 0;exact AMc P5 (AMc T5 (AMc u0 (AMc u1 (AMc p0 p1))))):=h
def AHH(h:p:=by rw[←hW1];exact (AOW _ _ _ NC).trans (World.alloc_heap_new w _)):=h
def AHI(h:p:=by go_wp2_with fail;go_ret;exact⟨rfl,B0.o⟩):=h
def AHJ(h:p:=by go_wp2_with fail;go_ret;exact⟨rfl,B2.o⟩):=h
def AHK(h:p:=by go_wp2_with fail;go_ret;exact⟨rfl,BL.o⟩):=h
def AHL(h:p:=by have I16:IntKind.i64.wrap ((t:Int)-16)=(m:Int):=Y4;have I15:IntKind.i64.wrap ((t:Int)-15)=(m1:Int):=YX;have I7:IntKind.i64.wrap ((t:Int)-7)=(m9:Int):=Y5;have I2:IntKind.i64.wrap ((t:Int)-2)=(m14:Int):=YZ;have l0:(m:Int)<64:=KA;have l1:(m1:Int)<64:=KA;have l9:(m9:Int)<64:=KA;have l14:(m14:Int)<64:=KA;have k1:m1<64:=KA;have k9:m9<64:=KA;exact AMc I16 (AMc I15 (AMc I7 (AMc I2 (AMc l0 (AMc l1 (AMc l9 (AMc l14 (AMc k1 k9))))))))):=h
def AHM(h:p:=by have B0:=sq (((((APu [] W).alloc (Yk #[.pointer (Z tgt)] 222)).alloc (Yk #[Yg Yj m] 3)).alloc (Yk #[G (M f1) #[] #[]] 291)).alloc (Yk #[G (M f2) #[] #[]] 293));exact B0):=h
def AHN(h:p:=by have HML:Shut (maxLen=9223372036854775807):=⟨PV⟩;exact HML):=h
def AG7(h:p:=by have hjn':(j:Int)<(n:Int):=KA;exact hjn'):=h
def AHO(h:p:=by generalize AB seed=sd at*;go_in;go_wp2_with fail;refine AMo (ANQ rfl _ _ _) rfl ?_;exact⟨_,rfl,B.o,AMi _,HR.o⟩):=h
def AHP(h:p:=by simp only[Bv,ANi,AOG,List.flatten_cons,List.flatten_nil,Dt,AMl,AMf,Ah,AMr];omega):=h
def AHQ(h:p:=by have BW2:Shut (But (g::[gx]) W w2):=⟨(BB.out.trans2 BQ.out NC).trans2 hb2 (AHD)⟩;exact BW2):=h
def AHR(h:p:=by go_wp2_with fail;refine (FU _ _).mono ?_;rintro e w3 ⟨rfl,rfl⟩;go_wp2_with fail;refine⟨rfl,?_,BE.out⟩;rw[HR.out];exact⟨5,rfl⟩):=h
def AHS(h:p:=by by_cases e:i=t;(exact AKQ);rw[AMv KA];exact HC.out i KA):=h
def AHT(h:p:=by obtain⟨v,h1,h2,h3⟩:=hh;exact⟨v,h1,h2.lower (hd.trans hl).size,h3⟩):=h
def AHU(h:p:=by go_in;go_wp2_with fail;refine HC.o.mono ?_;rintro e w1 ⟨rfl,hb1⟩;have H:=sq hb1;clear hb1;go_wp2_with fail;go_ret;exact⟨rfl,H.o⟩):=h
def AHV(h:p:=by refine AOR h fun e w'' he=>?_;cases e with|returned u=>exact⟨keep a hy u,YI⟩|panicked c=>exact hQ _ _ _ he|outgrown=>exact he):=h
def AHW(h:p:=by intro W5 hl5;exact⟨AMj BW2.out.size (AMj L3.out.size hl5.size),AA RW2.out (L3.out.trans hl5) NC,N3.out.but hl5 NC⟩):=h
def AHX(h:p:=by rw[hd] at hE2;obtain⟨p,rfl⟩:=hE2;go_wp2_with fail;refine⟨rfl,BW2.out,?_⟩;simp only[Mc,HO.out,TI.out,KT hjn hd];exact⟨p,rfl⟩):=h
def AHY(h:p:=by have hgt':W0.heap.size≤w3.heap.size:=(hb2.trans hb3).size;have B3:Shut (But [] W0 (w3.alloc (Yk #[Yg V n,O (AB rest)] 302))):=⟨(hb2.trans hb3).alloc _⟩;have BT:=sq (APw w3 #[Yg V n,O (AB rest)] 302);exact AMc hgt' (AMc B3 BT)):=h
def AHZ(h:p:=by clear h hhl;go_in;go_wp2_with fail;refine Yd.o.mono ?_;rintro e w1 ⟨rfl,hb⟩;clear h1 hw;go_wp2_with fail;go_ret2;exact⟨rfl,hb⟩):=h
def AHa(h:p:=by obtain⟨h1,h2,h3,h4⟩:=H;unfold L2.step;rw[h1];simp only[if_true];exact AMA):=h
def AHb(h:p:=by have x1:AJ W1 _ _ _:=APx HX1.o (HBX8.o.trans hl.nil) NB1.o.1;have q1:=x1.cell 0 rfl;have q2:=x1.lt;have q3:=x1.frozen 0;exact AMc x1 (AMc q1 (AMc q2 q3))):=h
def AHc(h:p:=by have g0:w2.cell? g4=Z (Yg V 0):=B4w.out.cell 0 rfl;have g1:w2.cell? ⟨g4,1,Y⟩=Z (O ⟨#[]⟩):=B4w.out.cell 1 rfl;have y0:=B4w.out.frozen 0;have y1:=B4w.out.frozen 1;have f3':w2.cell? ⟨g5,3,Y⟩=Z (Yg V x.least):=B5w.out.cell 3 rfl;exact AMc g0 (AMc g1 (AMc y0 (AMc y1 f3')))):=h
def AHd(h:p:=by obtain⟨hk3,hi3⟩:=hp;obtain⟨hr,hl3,hl4,hk4⟩:=fin Y W3 hk3;exact⟨_,_,hr,.inl ⟨rfl,hI.putObj _ hi3 KA hl3 rfl,hl4,hk4⟩⟩):=h
def AHe(h:p:=by refine⟨(Cv (X:=[gx]) B1.o).setCell (p:=⟨gx,k,Y⟩) (Or.inl NC) _,?_⟩;rw[ho];exact⟨rfl,HR.o.but bset Y0 YJ Zh,X1.o.set k _⟩):=h
def AHf(h:p:=by have bx:=(X2.out.but (LX.out.trans (hl7.trans hl8).nil) HX.out.2.1);have q0:=bx.cell k HKS.out;have q1:=bx.frozen k;clear bx;go_simp):=h
def AHg(h:p:=by clear hJ hx hlt h1 h2 h3 h4 hK;gi_wp2;exact HK.o _ _ ((A1.o.keepsO).from _) ⟨HJ.o.1.bt A1.o,HJ.o.2.1,HJ.o.2.2,_,_,HV.o,X1.o,rfl⟩):=h
def AHh(h:p:=by rename_i c t fr hh;refine⟨?_,(AMm.1 hh).1⟩;obtain⟨g,o,s⟩:=a;cases s with|none=>rfl|some s=>simp at h2):=h
def AHi(h:p:=by match j,hj with|0,_=>exact (ND:1<1000)|1,_=>exact (ND:1<1000)|2,_=>exact (ND:1<1000)|j+3,hi=>exact AI5):=h
def AHj(h:p:=by obtain⟨A,c,h1,h2,h3⟩:=h;exact⟨A,c,h1.but hb NC,h2,h3.but hb⟩):=h
def AHk(h:p:=by have hWq:W.heap.size≤q:=ADn;have hqd:q≠g∧q≠gR∧B≤q∧gx≠q:=AIO;exact AMc hWq hqd):=h
def AHl(h:p:=by have h1:=H.2 j (AOr hj hji) w1 hl;exact h1):=h
def AHm(h:p:=by rintro e w2 ⟨rfl,hb⟩;have HB2:=sq (HB.out.trans hb);clear hb;go_wp2_with fail;go_ret;exact⟨by rw[HF.out];rfl,HB2.out⟩):=h
def AHn(h:p:=by exact AP7 (fun s A' B' row hs hg hr=>⟨hs.1.own hg (fun r e=>⟨AMj KA (hr r e).1,(hr r e).2⟩),hs.2⟩)):=h
def AHo(h:p:=by rintro e w' ⟨v,rfl,⟨b1,b2,b3,b4,b5,rfl,hb⟩,hlt⟩;exact⟨_,rfl,⟨_,rfl,Ue _ _ _ _ _ _,b1,b2,b3,b4,b5,rfl,hb⟩,hlt⟩):=h
def AHp(h:p:=by rw[ANI,AMe hi] at hu;rw[←hu,AMd,AMe hi];rfl):=h
def AHq(h:p:=by rw[ANl,AOj,AOj];omega):=h
def AHr(h:p:=by exact⟨⟨_,_,rfl⟩,⟨_,_,rfl⟩,⟨_,_,rfl⟩,⟨_,_,rfl⟩⟩):=h
def AHs(h:p:=by have:=((X2.out.but (LX.out.trans (hl7.trans hl8).nil) HX.out.2.1).set k (.slice A6 (j+1) cap)).but hl9 NC;rwa [U5] at this):=h
def AHt(h:p:=by have hg:=grownBy_putObj' W4 w1.heap.size (.deferred Y);have hr2:∀r,Z w1.heap.size=Z r→∃o:Obj,W4.heap[r]?=Z o∧o.isCells=false:=fun r e=>Zc;have hJ5:=hJ3.own hg (fun r e=>⟨Za,hr2 r e⟩);exact AMc hg (AMc hr2 hJ5)):=h
def AHu(h:p:=by have q1:=bx.frozen k;clear bx;go_simp):=h
def AHv(h:p:=by exact (((B0.o.alloc _).alloc _).alloc _).later):=h
def AHw(h:p:=by (have hks:(cs.setIfInBounds k v)[k]?=Z v:=by have:=(AMm.1 K.out).1;exact AIa);exact hks):=h
def AHx(h:p:=by have h2:=TQ (w0:=w1) hoj (hfree j oj hoj hji hjun hnot) (fun cs b=>hsel i oi cs b hi) (fun cs b=>hsel j oj cs b hoj) hQ (hy.later hl.nil) h1;exact h2):=h
def AHy(h:p:=by go_in;go_wp2_with fail;exact⟨rfl,rfl,rfl⟩):=h
def AHz(h:p:=by exact (ANy KA _).symm):=h
def AH3(h:p:=by have RD4:=sq (DU HRD.o B3.o);have BP4:=sq (APx HP.o B3.o NC);have t0:W4.cell? gt=Z (Yg V n):=BT.o.cell 0 rfl;have t1:W4.cell? ⟨gt,1,Y⟩=Z (O (AB rest)):=BT.o.cell 1 rfl;have hsz:((AB rest).size:Int)=(rest.length:Int):=Zl;exact AMc RD4 (AMc BP4 (AMc t0 (AMc t1 hsz)))):=h
def AH4(h:p:=by have e1:a.tmps.getD 12 Yx=U gx:=hg ⟨9,.data⟩ NC rfl;exact e1):=h
def AH5(h:p:=by have e1:a.tmps.getD 9 Yx=.pointer (Z ⟨gx,4,Y⟩):=hg ⟨6,.data⟩ NC rfl;exact e1):=h
def AH6(h:p:=by have e1:a.tmps.getD 5 Yx=.pointer (Z ⟨gx,2,Y⟩):=hg ⟨2,.data⟩ NC rfl;exact e1):=h
def AH7(h:p:=by rw[htm,iM _ (F4 bl),←hws,←hx0,←hx1,←hx9,←hx14];generalize Pi x1=q1;generalize WU x14=q2;unfold m32;omega):=h
def AH8(h:p:=by have h4w:W.heap.size≤g4:=ACr;exact⟨by rw[HR.out];rfl,(BE.out.setCell (Or.inr h4w) _).setCell (Or.inr h4w) _⟩):=h
def AH9(h:p:=by have e1:a.tmps.getD 3 Yx=U gx:=hg ⟨0,.data⟩ NC rfl;exact e1):=h
def AIA(h:p:=by have e1:a.tmps.getD 4 Yx=U gx:=hg ⟨1,.data⟩ NC rfl;exact e1):=h
def AIB(h:p:=by have e1:a.tmps.getD 8 Yx=U gx:=hg ⟨5,.data⟩ NC rfl;exact e1):=h
def AIC(h:p:=by have:=GI g at_ most (AB S) W' (APx hrd hl NC) Y6;rw[AQ,EY] at this;exact this.mono fun e w' hh=>⟨hh.1,ADj⟩):=h
def AID(h:p:=by go_wp2_with fail;go_ret;exact⟨rfl,B1.o⟩):=h
def AIE(h:p:=by go_ret2;exact⟨rfl,rfl⟩):=h
def AIF(h:p:=by injection hB with hB;injection hB with _ h9;rw[←h9];decide):=h
def AIG(h:p:=by have hgx:gx<W0.heap.size:=AIN;exact hgx):=h
def AIH(h:p:=by have B0:=sq ((APu [] W).alloc (Yk #[.string ky,Yl must,G (M fn) #[] caps,G (M mf) #[] mc,G (M pf) #[] pc,G (M gf) #[] gc] 220));exact B0):=h
def AII(h:p:=by have HH:=sq (AMc hr hl2);exact HH):=h
def AIJ(h:p:=by have:=GI g at_ most (AB S) W' (DU hrd hl) Y6;rw[AQ,EY,hn] at this;exact this.mono fun e w' hh=>⟨hh.1,Y7⟩):=h
def AIK(h:p:=by intro f' hf';simp[Target.leads] at hf';subst hf';exact hFg):=h
def AIL(h:p:=by rw[hpj] at HP;have HPJ:=sq hpj;clear hpj;go_wp2_with fail;exact⟨⟨j+1,NC,KA,HP.o,HB.o.trans hb2⟩,NF⟩):=h
def AIM(h:p:=by rcases AM7 3 W.heap.size with h'|h';(exact h');simp[KH,World.cell?,AMz h'] at h):=h
def AIN(h:p:=by rcases AM7 gx W0.heap.size with h'|h';(exact h');simp[World.cell?,AMz h'] at hx):=h
def AIO(h:p:=by have h1:=RS0.out.rd.lt;have h2:=RS0.out.rR.lt;have h3:=RS0.out.hB;have h4:=BX.out.lt;have h5:=HQE.out;omega):=h
def AIP(h:p:=by obtain⟨g',o',e,hc⟩:=h i hi;cases e;rw[AMd,AMe hi];exact hc):=h
def AIQ(h:p:=by have hq1:¬((x:Int)≥(n:Int)):=KA;have hq2:¬((n:Int)≤(x:Int)):=KA;exact AMc hq1 hq2):=h
def AIR(h:p:=by go_in;go_wp2_with fail;refine (HC.out _).mono ?_;rintro e w' ⟨rfl,hb⟩;go_wp2;go_ret;exact⟨rfl,hb⟩):=h
def AIS(h:p:=by have:=(AL ho6 m UH).1;have:=AMh.1 hm;omega):=h
def AIT(h:p:=by match i with|0=>exact k0|1=>exact k1|2=>exact k2|m+3=>rfl):=h
def AIU(h:p:=by match i with|0=>exact m0|1=>exact m1|2=>exact m2|m+3=>rfl):=h
def AIV(h:p:=by have E3:IntKind.u8.wrap (p:Int)=((p%256:Nat):Int):=ACo;have HP:Shut (N/2^(8*(7-t))%256=p%256):=⟨by rw[hp,hu]⟩;have E4:(p:Int)%256=((p%256:Nat):Int):=KA;have E5:(N:Int)/2^u=(p:Int):=ADN;exact AMc E3 (AMc HP (AMc E4 E5))):=h
def AIW(h:p:=by have hmf:∀(fn:Fn) (first cap:Array Yu) (w:J),(Instr.makeFunc fn first cap).run Yw w=.ok (.func fn first cap) w:=fun _ _ _ _=>rfl;exact hmf):=h
def AIX(h:p:=by simpa only[ANA] using this):=h
def AIY(h:p:=by intro b hb;rw[hXX] at hb;have hxs:=RW.out;have:=C5 hxs (AMw.1 hb);rw[HQE.out];exact this):=h
def AIZ(h:p:=by have:cur[j]?=cur.toList[j]?:=NC;rw[this,e1,AMd,AMe KA];rfl):=h
def AIa(h:p:=by rw[AM0,AMx rfl,AMx this]):=h
def AIb(h:p:=by (intro W1 hl;obtain⟨s0,s1,s2,s3,s4,ls⟩:=CS.o W1 (L0.o.nil.trans hl);go_simp<;>with_reducible rfl)):=h
def AIc(h:p:=by (intro W1 hl;obtain⟨p0,p1,p2,p3,p4,lp⟩:=CP.o W1 (L0.o.nil.trans hl);go_simp<;>with_reducible rfl)):=h
def AId(h:p:=by have P6:(w5.setCell pe Yn).cell? pe=Z Yn:=(P5.o.set 0 Yn).cell 0 rfl;exact P6):=h
def AIe(h:p:=by have X:=APw (wr.alloc (Yk #[Yg V k] 22)) (#[Value.int .u64 (k:Nat)]++Builtin.zeroCells #[Value.int .u64 0] (cp-1)) 22;exact X):=h
def AIf(h:p:=by intro h;have h':(m:Int)=(L.length:Int)-1:=KA;rw[h',beq_self_eq_true] at hq;exact Bool.noConfusion hq):=h
def AIg(h:p:=by exact⟨BN.cell 18 rfl,BN.cell 19 rfl,BN.cell 20 rfl,BN.cell 21 rfl,BN.cell 22 rfl,BN.cell 23 rfl⟩):=h
def AIh(h:p:=by exact⟨BN.cell 24 rfl,BN.cell 25 rfl,BN.cell 26 rfl,BN.cell 27 rfl,BN.cell 28 rfl,BN.cell 29 rfl⟩):=h
def AIi(h:p:=by have B0:=sq ((APu [] W).alloc (Yk #[.string rt,Yg V sw,Yh g n c,.slice A3 n3 c3,.slice A4 n4 c4,.slice A5 n5 c5] 27));exact B0):=h
def AIj(h:p:=by gi_wp2_with fail;exact HF.o):=h
def AIk(h:p:=by have B5:=sq ((hd.trans hl).nil.trans hb);exact B5):=h
def AIl(h:p:=by exact ((((((APw W #[.pointer (Z tgt)] 222).alloc _).alloc _).alloc _).alloc _).alloc _).alloc _):=h
def AIm(h:p:=by obtain⟨cs,t,fr,hc⟩:=DY ho j UH;exact Az hr2 hc hj):=h
def AIn(h:p:=by have:2^(k+1)≤2^64:=AM5 KA KA;omega):=h
def AIo(h:p:=by have h1:=AMh.1 hj;have:=(AL HO4.o j (AMw.2 hm)).1;have:=HBA.o;omega):=h
def AIp(h:p:=by have HBB:=sq hb;have HX:=sq hx;have HS:=sq hs;exact AMc HBB (AMc HX HS)):=h
def AIq(h:p:=by have hz1:z/18446744073709551616<18446744073709551615:=KA;have hz2:z%18446744073709551616<18446744073709551616:=KA;have hz3:4611686018427387904≤z/18446744073709551616:=KA;exact AMc hz1 (AMc hz2 hz3)):=h
def AIr(h:p:=by go_wp2_with fail;go_ret;exact⟨Ta E.out.symm,rfl⟩):=h
def AIs(h:p:=by go_wp2_with fail;refine AMo (ANQ rfl _ _ _) rfl ?_;exact⟨rfl,HB1.o,HR1.o⟩):=h
def AIt(h:p:=by rintro e W2 ⟨hv,hJ,hr⟩;exact⟨hv,.inl ⟨List.replicate x.rvs.length (0,Yn),NC,ZN,hr⟩⟩):=h
def AIu(h:p:=by rcases AM3.1 h with h|h;(have:=(AL HO1.o _ h).1;omega);have:=(AL HO2.o _ h).1;omega):=h
def AIv(h:p:=by subst hji;exact (hy.later h1.nil).wpOp hi fun w' h'=>⟨fun _=>h'.nil,H.later (h1.trans h')⟩):=h
def AIw(h:p:=by subst hji;exact (hy.later hl.nil).wpOp hi fun w' h'=>⟨fun _=>h'.nil,H.later (hl.trans h')⟩):=h
def AIx(h:p:=by rw[←hW1,hrec];exact run_enterLoop_outer _ _ _ _ _):=h
def AIy(h:p:=by go_end0;exact⟨⟨_,rfl⟩,hJ,hRw⟩):=h
def AIz(h:p:=by rcases Nat.lt_succ_iff_lt_or_eq.1 hj with h|h;(exact HN.out j h);rw[h,←HX.out];exact HH.out):=h
def AI0(h:p:=by clear hw;go_in;go_wp2_with fail;go_ret;exact⟨by first|rfl|rw[hnz]|simp[hnz],APu _ _⟩):=h
def AI1(h:p:=by rw[show ((2:Int)^d)=((2^d:Nat):Int) by simp,←hP];show (P:Int)%18446744073709551616=_;omega):=h
def AI2(h:p:=by have hji2:IntKind.i64.wrap ((j:Int)-1)=(i:Int):=UB;exact hji2):=h
def AI3(h:p:=by have h4:=ANb List.length HS.o;simp only[AMf] at h4⊢;have:=HLT.o;omega):=h
def AI4(h:p:=by have hby2:(n+m)*bytes≤140737488355328:=AMj (AOA (show n+m≤100000000 by omega) hsm) ND;exact AMC):=h
def AI5(h:p:=by exact absurd (show j+3<3 from hi) KA):=h
def AI6(h:p:=by have H:=sq h;have D:=sq hg;have V1:=sq h1;have V2:=sq h2;have V3:=sq h3;have X0:=sq hx;have K:=sq hk;have c1:=h1.cell 0 rfl;have HL:=sq (qp h m);exact AMc H (AMc D (AMc V1 (AMc V2 (AMc V3 (AMc X0 (AMc K (AMc c1 HL)))))))):=h
def AI7(h:p:=by refine⟨keep _ (keepD d) _,?_⟩;rw[←APG _ v Yx h2,←Act.put_defers];exact h):=h
def AI8(h:p:=by generalize (k:Int)/2=kc at*;clear hd15 he15 hLb;go_wp2_with fail;rw[WL.out];exact FIN.out):=h
def AI9(h:p:=by cases e;have:=Gi (HN.out.2.but hb) (aF hu);rw[Jz] at this⊢;rw[APT];exact this):=h
def AJA(h:p:=by (intro W1 hl;obtain⟨c0,l0⟩:=CE.o W1 (L0.o.nil.trans hl);go_simp<;>with_reducible rfl)):=h
def AJB(h:p:=by have hge':(g:Int)≤2*(rest:Int)+(C9 s j:Int):=KA;exact hge'):=h
def AJC(h:p:=by go_wp2_with fail;refine AMo (ANQ rfl _ _ _) rfl ?_;exact⟨rfl,B1.o⟩):=h
def AJD(h:p:=by go_wp2_with fail;refine AMo (ANQ rfl _ _ _) rfl ?_;exact⟨rfl,B2.o⟩):=h
def AJE(h:p:=by have hjB:j∉B:=fun hb=>AJK;exact hjB):=h
def AJF(h:p:=by (have hnm:n<100000:=by have:=fH ho;omega);have HO:=sq ho;have R1:=sq hr1;have B1:=sq (Cv (X:=[gx]) hb1);exact AMc hnm (AMc HO (AMc R1 B1))):=h
def AJG(h:p:=by refine⟨fun e=>Zv,fun j hj w1 hl=>?_⟩;rw[hr] at hj;obtain rfl:j=i:=TC;exact hk w1 hl):=h
def AJH(h:p:=by simp[AR,D5,List.find?,PR.hit,PR.bytes,show 16≤n by omega,show ¬(65536≤n) by omega]):=h
def AJI(h:p:=by have HN:=sq (AMc hnn (AMc hT hs));exact HN):=h
def AJJ(h:p:=by have HF:Shut (KeepsFrom w1.heap.size Wr w6∧Uj n W q 36 (Yg Yj 0) w6):=⟨(hb6.keepsO).from _,HJ.o.bt hb6⟩;exact HF):=h
def AJK(h:p:=by obtain⟨_,o,ho,e,he,h4,h5⟩:=Qh hW j hb;rw[hoj] at ho;cases ho;exact hnot e he h4 h5):=h
def AJL(h:p:=by have X:=(APw W z64 269).setRow CR;have B:=((APu [] W).alloc (.cells z64 269)).setRow (g:=W.heap.size) CR (AMi _);exact AMc X B):=h
def AJM(h:p:=by have HB1:Shut (But [] W (wr.drewN nq)):=⟨HB.out.trans ⟨rfl,rfl,rfl,AMi _,fun _ _ _=>rfl,Fp _⟩⟩;exact HB1):=h
def AJN(h:p:=by have N1:IntKind.i64.wrap (-(a:Int))= -(a:Int):=IntWalk.i64_in _ KA;have N2:IntKind.i64.wrap (-(b:Int))= -(b:Int):=IntWalk.i64_in _ KA;exact AMc N1 N2):=h
def AJO(h:p:=by have hw:IntKind.u64.wrap (n:Int)=(n:Int):=UG;exact hw):=h
def AJP(h:p:=by have c1:w4.cell? ⟨g,1,Y⟩=Z (Yg V (pk:Nat)):=HX4.o.cell 1 rfl;have lg:g<w4.heap.size:=HX4.o.lt;have fz:w4.frozen? ⟨g,1,Y⟩=false:=HX4.o.frozen 1;exact AMc c1 (AMc lg fz)):=h
def AJQ(h:p:=by rw[Hq,Hq,EG h ND ND,EG h ND ND,AN1,ANv (G9 h _)]):=h
def AJR(h:p:=by subst e;rw[ANG (by have:=HSZ.out;omega),HP.out]):=h
def AJS(h:p:=by rename_i ho;simp only[ho] at hh;exact h _ _ hh):=h
def AJT(h:p:=by have B1:=sq (B0.o.trans hb1);have X1:=sq (X0.o.but hb1 NC);exact AMc B1 X1):=h
def AJU(h:p:=by have hge':2*(rest:Int)+(C9 s j:Int)<(g:Int):=KA;exact hge'):=h
def AJV(h:p:=by have ho2:=AA ho1 (AP8 hg hr2) (fun j hj e=>AK0);exact ho2):=h
def AJW(h:p:=by have hBW:B≤W.heap.size:=H.out.hB;have HBW:=sq (AMc hBW (AMc H.out.rd.lt (AMc H.out.rR.lt (AMc X0.out.lt hWq))));exact AMc hBW HBW):=h
def AJX(h:p:=by rw[ho];rintro e w' ⟨⟨_,⟨p,rfl⟩,rfl⟩,hb⟩;exact⟨_,rfl,hb.nil,p,rfl⟩):=h
def AJY(h:p:=by intro l x W1 K hK;gi_wp2;exact hK):=h
def AJZ(h:p:=by have r0:W.cell? gR=Z (U g):=h.rR.cell 0 rfl;exact r0):=h
def AJa(h:p:=by have HP:=sq (fun W1=>Qs x.r x.w x.f x.l x.k W1 hok.1 hok.2.2.1 hok.2.2.2.1 hok.2.2.2.2.1 hok.2.2.2.2.2);exact HP):=h
def AJb(h:p:=by have e1':=AF e1;exact e1'):=h
def AJc(h:p:=by have hjb:(j:Int)<100000:=Zq;go_wp2_with fail;exact⟨⟨j+1,NC,KA,HB4.o⟩,ZB⟩):=h
def AJd(h:p:=by have hsz:((AB s).size:Int)=(s.length:Int):=Zl;have h1:¬((65536:Int)≤(s.length:Int)):=KA;have hw:IntKind.u64.wrap (s.length:Int)=(s.length:Int):=PQ;exact AMc hsz (AMc h1 hw)):=h
def AJe(h:p:=by have B3:Shut (But [] wr w3):=⟨(B1.out.trans B2.out).trans' hb3 (fun m hm=>(AL O2.out _ hm).1)⟩;have C3:=sq (C2.out w3 B3.out);exact AMc B3 C3):=h
def AJf(h:p:=by have hE':e=Yi (Yr #[Yg V n,O (AB rest)]):=hE;exact hE'):=h
def AJg(h:p:=by have c0:=A1.o.cell 0 rfl;have c1:=A1.o.cell 1 rfl;have c2:=A1.o.cell 2 rfl;have c3:=A1.o.cell 3 rfl;have c4:=A1.o.cell 4 rfl;have c5:=A1.o.cell 5 rfl;have f0:=A1.o.frozen 0;have f1:=A1.o.frozen 1;have f2:=A1.o.frozen 2;have f3:=A1.o.frozen 3;have f4:=A1.o.frozen 4;have f5:=A1.o.frozen 5;have hsz:=hl.size;have hlt:r<W0.heap.size:=HA.o.lt;exact AMc c0 (AMc c1 (AMc c2 (AMc c3 (AMc c4 (AMc c5 (AMc f0 (AMc f1 (AMc f2 (AMc f3 (AMc f4 (AMc f5 (AMc hsz hlt))))))))))))):=h
def AJh(h:p:=by rw[Da,ANC];have hk8:k<8:=hk;refine hx.cell k ?_;rw[hc k hk8];simp[AV]):=h
def AJi(h:p:=by show Sl.mk _ _ (D9 (Bb 0 0) 0 (Bn 0)) (Am (Bj 0 0) [(1-1)/5])=_;rw[yM,pv0];rfl):=h
def AJj(h:p:=by have B6:Shut (But [g] W (w5.setCell pe Yn)):=⟨((HB0.o.nil).trans B5.o).setCell (Or.inr hpw.o) _⟩;exact B6):=h
def AJk(h:p:=by have h1:=HNXT.o;rw[HONE.o] at h1;simp only[AMf] at h1⊢;omega):=h
def AJl(h:p:=by (intro W7 hl7;go_simp<;>with_reducible rfl)):=h
def AJm(h:p:=by split at h<;>(try omega);split at h<;>omega):=h
def AJn(h:p:=by have e1:a.tmps.getD 13 Yx=U gx:=hg ⟨10,.data⟩ NC rfl;exact e1):=h
def AJo(h:p:=by have e0:((b:Int)==0)=false:=NG;exact e0):=h
def AJp(h:p:=by have HS:=sq (AMc h (AMc hn hp));have HD:=sq (fun W1=>H7 q W1);exact AMc HS HD):=h
def AJq(h:p:=by rwa [addr_add,addr_add] at this):=h
def AJr(h:p:=by have B1:=sq (B0.o.trans hb);exact B1):=h
def AJs(h:p:=by have E1:IntKind.i64.wrap (8*(7-(t:Int)))=(u:Int):=YL;have E1':(8*(7-(t:Int)))=(u:Int):=KA;have E2:(N:Int)/2^min u 64=((N/2^u:Nat):Int):=ABx;have hu0:0≤(u:Int):=KA;exact AMc E1 (AMc E1' (AMc E2 hu0))):=h
def AJt(h:p:=by have e1:(A9 s==k)=false:=AJ6;exact e1):=h
def AJu(h:p:=by have X6:=sq (APw w1 #[.string p0,.string p1] 341);have B6:=sq ((APu [] w1).alloc (Yk #[.string p0,.string p1] 341));exact AMc X6 B6):=h
def AJv(h:p:=by refine AOR hg fun e w'' he=>?_;obtain⟨rfl,hl⟩:=he;exact h _ hl):=h
def AJw(h:p:=by have HH:=sq (fun W1=>DX [110,111,110,101] [] Y 0 0 W1 rfl ND ND (fun j hj=>absurd hj NC) ND NC);exact HH):=h
def AJx(h:p:=by have e1:a.tmps.getD 7 Yx=U gx:=hg ⟨4,.data⟩ NC rfl;exact e1):=h
def AJy(h:p:=by have hr:=run_loadVar_row (P:=Yw) w1 W.heap.size 269 269 CR (0,0) _ X Tryz.underlying269 rfl NA;exact hr):=h
def AJz(h:p:=by have B0:=sq ((APu [] W).alloc (Yk #[O (AB f.key),Yl f.must,f.emp,f.may,f.put,f.get] 220));exact B0):=h
def AJ0(h:p:=by have hn64:n<18446744073709551616:=ZC;have hlen:rest.length≤S.length:=ALa;have HO:=sq (AMc ho hn);exact AMc hn64 (AMc hlen HO)):=h
def AJ1(h:p:=by have B1:Shut (But [] wr w1):=⟨hb1⟩;have O1:Shut (w1.ownsRow wr.heap.size 22 1 v1 j (Full.DV (l.take j))):=⟨AED⟩;exact AMc B1 O1):=h
def AJ2(h:p:=by cases x<;>simp only[Oper.upon] at h⊢;case panic u=>exact hQ _ _ _ h):=h
def AJ3(h:p:=by go_simp;rfl):=h
def AJ4(h:p:=by obtain⟨es,clock,hb1,_⟩:=h1;unfold AJ at hb;rw[hb1] at hb;cases hb):=h
def AJ5(h:p:=by rw[show ((1:Nat):Int)=1 from rfl] at this;rw[this,Nat.and_one_is_mod]):=h
def AJ6(h:p:=by simp only[AOF,ne_eq];intro h;exact e (by rw[←h,U2])):=h
def AJ7(h:p:=by have X2:Shut (AJ w2 gx (cs.setIfInBounds k v) tx):=⟨(BX.out.but BQ.out NC).but hb2 PU⟩;exact X2):=h
def AJ8(h:p:=by have LX:Shut (But XX w2 W6):=⟨(L3.out.trans hl5).nil.trans (by rw[HXX.out];exact hgr)⟩;exact LX):=h
def AJ9(h:p:=by go_wp2_with fail;go_ret;exact⟨by rw[HS.out];first|done|rfl,rfl⟩):=h
def AKA(h:p:=by simp only[hw,ANh,if_false];exact h _ (APu [] w)):=h
def AKB(h:p:=by simp[results,Tryz.results156,go_sem,CK,FD.agg,c0,c1,c2,c3,c4,c5,hk]):=h
def AKC(h:p:=by intro j u hj;exact (World.news_of_block (cs:=us.toArray) hb) j u TC):=h
def AKD(h:p:=by have hlt:w.heap.size+1<W.heap.size:=(AMm.1 hl).1;have hy:=run_yield (P:=P) (args:=encs x) hl ADM;exact AMc hlt hy):=h
def AKE(h:p:=by have hP1:Pre ws bs (j+1)=Pre ws bs j+ws.getD j 0:=AD5;exact hP1):=h
def AKF(h:p:=by exact⟨this.cell 1 rfl,this.cell 2 rfl,this.cell 3 rfl,this.lt⟩):=h
def AKG(h:p:=by obtain⟨cur,h1,_⟩:=h;exact (AMm.1 h1).1):=h
def AKH(h:p:=by rw[hW];exact ((HB0.o.trans hb4).setCell (Or.inr hpw.o) _).alloc _):=h
def AKI(h:p:=by rw[hW];exact ((HB0.o.trans hb2).setCell (Or.inr hpw.o) _).alloc _):=h
def AKK(h:p:=by subst hjk;exact hjun):=h
def AKL(h:p:=by simp[ANP,AM0,h]):=h
def AKM(h:p:=by have d0:w2.cell? b=Z (U b):=ZY;have d1:w2.cell? ⟨b,1,Y⟩=Z v:=ZY;have f1:w2.frozen? ⟨b,1,Y⟩=false:=Lib.frozen_of_heap hb2 1;exact AMc d0 (AMc d1 f1)):=h
def AKN(h:p:=by have hji:wrap64 ((j:Int)-1)=(i:Int):=UN;exact hji):=h
def AKO(h:p:=by have HW5:Shut (But XX wr w5):=⟨(L2.o.trans hl4).nil.trans (by rw[HXX.o.1];exact hb5)⟩;exact HW5):=h
def AKP(h:p:=by have hxk:x<18446744073709551616:=AIn;exact hxk):=h
def AKQ(h:p:=by subst e;rw[ANG ACi,HWV.out]):=h
def AKS(h:p:=by exact absurd (show i+5<5 from hi) KA):=h
def AKT(h:p:=by have HC:Shut (∀j,j<64→cs[j]?=Z (Yg Yt ((Gu (Cl bl) 48).getD j 0:Nat))):=⟨hcs⟩;exact HC):=h
def AKU(h:p:=by have H1:¬(a:Int)≤(b:Int):=KA;exact H1):=h
def AKV(h:p:=by subst e;rw[ANG ACi,HW.out]):=h
def AKW(h:p:=by rw[AMd,AMe hi];rfl):=h
def AKX(h:p:=by injection hp with hp;injection hp with _ h9;exact absurd h9 ND):=h
def AKY(h:p:=by (intro W1 hl;have mp:=MP.o W1 hl;go_simp<;>with_reducible rfl)):=h
def AKZ(h:p:=by rwa [JA h.suf] at this):=h
def AKa(h:p:=by rw[ho];rintro e w' ⟨rfl,hr,hb⟩;exact⟨_,rfl,hb,rfl,hr⟩):=h
def AKb(h:p:=by refine AP5 (v:=.pointer (Z ⟨gx,5,Y⟩)) ?_ rfl;go_simp):=h
def AKc(h:p:=by have B2:=sq (B1.o.trans hb);exact B2):=h
def AKd(h:p:=by simp[AMd,AMe hi]):=h
def AKe(h:p:=by (have hqz:∀k,W.heap.size≤(⟨q,k,Y⟩:Addr).block:=fun k=>by have:=HQ.o;simp;omega);exact hqz):=h
def AKf(h:p:=by simp only[resolve,hg];simp[go_sem]):=h
def AKg(h:p:=by injection e1 with e1 e2 e3;exact⟨e1.symm,HNR.o,e3.symm⟩):=h
def AKh(h:p:=by simp[results,Tryz.results70,go_sem,cl0,cl1,cl2,cl3,cl4,cl5]):=h
def AKi(h:p:=by have HL:=sq hlen;have hne:(AB (Bv tag parts)).toList.isEmpty=false:=ADq;have HF:Shut (XU (Bv tag parts)=Aa tag parts):=⟨rfl⟩;exact AMc HL (AMc hne HF)):=h
def AKj(h:p:=by have hjm':¬((j:Int)<(m:Int)):=KA;exact hjm'):=h
def AKk(h:p:=by have hd2:But [] w2 w2.drew:=(APu [] w2).drew;exact hd2):=h
def AKl(h:p:=by have X2:=sq (APw w1 #[Yg V k] 22);have B2:=sq ((APu [] w1).alloc (Yk #[Yg V k] 22));have O2:=sq (AA O1.out B2.out NC);exact AMc X2 (AMc B2 O2)):=h
def AKm(h:p:=by rw[h];exact HH.o):=h
def AKn(h:p:=by rw[List.nodup_append];exact⟨hnd,NC,fun a ha b hb=>ABv⟩):=h
def AKo(h:p:=by have x2:=X0.o.cell 2 rfl;have x3:=X0.o.cell 3 rfl;have x4:=X0.o.cell 4 rfl;exact AMc x2 (AMc x3 x4)):=h
def AKp(h:p:=by have hw:IntKind.u64.wrap ((rungs.length:Nat):Int)=((rungs.length:Nat):Int):=Zb;exact hw):=h
def AKq(h:p:=by have T0:=sq (S0.o.step hb);exact T0):=h
def AKr(h:p:=by have T1:=sq (S1.o.step hb);exact T1):=h
def AKs(h:p:=by have cl0:=X2.o.cell 0 rfl;have cl1:=X2.o.cell 1 rfl;have cl2:=X2.o.cell 2 rfl;have cl3:=X2.o.cell 3 rfl;have cl4:=X2.o.cell 4 rfl;have cl5:=X2.o.cell 5 rfl;have f0:=X2.o.frozen 0;have f1:=X2.o.frozen 1;have f2:=X2.o.frozen 2;have f3:=X2.o.frozen 3;have f4:=X2.o.frozen 4;have f5:=X2.o.frozen 5;exact AMc cl0 (AMc cl1 (AMc cl2 (AMc cl3 (AMc cl4 (AMc cl5 (AMc f0 (AMc f1 (AMc f2 (AMc f3 (AMc f4 f5))))))))))):=h
def AKt(h:p:=by unfold AJ at h;exact (AMm.1 h).1):=h
def AKu(h:p:=by clear hb2;go_wp2_with fail;go_ret;exact⟨rfl,B2.out⟩):=h
def AKv(h:p:=by have hJ2:=hJ.own hg (fun r e=>⟨Za,hr2 r e⟩);exact hJ2):=h
def AKw(h:p:=by have H1:(a:Int)≤(b:Int):=KA;exact H1):=h
def AKx(h:p:=by have e1:a.tmps.getD 14 Yx=.pointer (Z ⟨gx,1,Y⟩):=hg ⟨11,.data⟩ NC rfl;exact e1):=h
def AKy(h:p:=by have e1:a.tmps.getD 13 Yx=.pointer (Z ⟨gx,3,Y⟩):=hg ⟨10,.data⟩ NC rfl;exact e1):=h
def AKz(h:p:=by exact⟨fun _ w2 h2=>hk w1 w2 hl h2,by rw[hr2];simp⟩):=h
def AK0(h:p:=by obtain⟨cs,t,fr,hc⟩:=DY ho1 j UH;exact Az hr2 hc hj):=h
def AK1(h:p:=by exact ANZ _):=h
def AK2(h:p:=by have HA:=sq (AMc hnl (AMc ha (AMc hb hd)));have HCS:=sq (AMc hc (AMc hs hm));exact AMc HA HCS):=h
def AK3(h:p:=by have HE:Shut (JN c s m nl 3=[c,s,m,AV a,AV b,AV d]):=⟨by rw[HA.o.1];rfl⟩;exact HE):=h
def AK4(h:p:=by have hd:=APy W;exact hd):=h
def AK5(h:p:=by rintro e w' ⟨rfl,rfl⟩;exact⟨rfl,APu _ _⟩):=h
def AK6(h:p:=by intro u hu;obtain⟨i,_,rfl⟩:=ANU.1 hu;rfl):=h
def AK7(h:p:=by rw[e] at hfk;exact⟨d,rfl,by simpa using hfk.symm⟩):=h
def AK8(h:p:=by have e1:a.tmps.getD 5 Yx=.pointer (Z ⟨gx,3,Y⟩):=hg ⟨2,.data⟩ NC rfl;exact e1):=h
def AK9(h:p:=by go_wp2;go_ret;exact⟨Qu (by rw[hF.out];simp),rfl⟩):=h
def ALA(h:p:=by unfold AJ at hr hB;rw[hr] at hB;cases hB;exact GH ND):=h
def ALB(h:p:=by simp[World.cell?,AMz h'] at hcell):=h
def ALC(h:p:=by have HLEN:Shut (1+tag.length+(parts.map Dt).flatten.length<1000000000):=⟨YE⟩;exact HLEN):=h
def ALD(h:p:=by go_wp2_with fail;go_end0;exact⟨⟨_,rfl⟩,rfl⟩):=h
def ALE(h:p:=by rw[AMs,hxe];simp):=h
def ALF(h:p:=by have t':h<9223372036854775808:=Zd;exact t'):=h
def ALG(h:p:=by (have hT:((yy:Int)/9223372036854775808==0)=false:=by have:=hm.1;simp;omega);exact hT):=h
def ALH(h:p:=by unfold Addr.add;split;(rename_i h;subst h;rfl);rfl):=h
def ALI(h:p:=by go_in;go_wp2_with fail;go_end0;exact⟨rfl,rfl⟩):=h
def ALJ(h:p:=by intro h;simp at h):=h
def ALK(h:p:=by unfold tU at ho2⊢;rw[ANR];exact ho2):=h
def ALM(h:p:=by have hmm:= @run_makeMap Yw;exact hmm):=h
def ALN(h:p:=by have d0:=hb.cell 0 rfl;have d1:=hb.cell 1 rfl;have d2:=hb.cell 2 rfl;have d3:=hb.cell 3 rfl;have d4:=hb.cell 4 rfl;have d5:=hb.cell 5 rfl;have d6:=hb.cell 6 rfl;have d7:=hb.cell 7 rfl;have d8:=hb.cell 8 rfl;have d9:=hb.cell 9 rfl;have d10:=hb.cell 10 rfl;exact AMc d0 (AMc d1 (AMc d2 (AMc d3 (AMc d4 (AMc d5 (AMc d6 (AMc d7 (AMc d8 (AMc d9 d10)))))))))):=h
def ALO(h:p:=by have w1:IntKind.u64.wrap (18446744073709551615-(lf:Int))=(lim:Int):=ZJ;exact w1):=h
def ALP(h:p:=by have x0:=(hb.later hw).cell 0 rfl;have xl:=(hb.later hw).lt;exact AMc x0 xl):=h
def ALQ(h:p:=by rw[h.cell YD];simp[AMe hk]):=h
def ALR(h:p:=by apply APh;simp[AB]):=h
def ALS(h:p:=by rw[AMf,AMf];omega):=h
def ALT(h:p:=by simp only[AMf];have:=HLT.o;omega):=h
def ALU(h:p:=by go_wp2_with fail;go_ret;exact⟨rfl,HB3.out⟩):=h
def ALV(h:p:=by rename_i hw;simp only[hw] at hh;exact h _ _ hh):=h
def ALW(h:p:=by unfold AJ at hB;rw[ho] at hB;cases hB;cases hc):=h
def ALX(h:p:=by (have M2:IntKind.u8.wrap (c:Int)=(c:Int):=by show (c:Int)%256=_;omega);exact M2):=h
def ALY(h:p:=by (have w1:IntKind.u8.wrap (i:Int)=(i:Int):=by show (i:Int)%256=_;omega);exact w1):=h
def ALZ(h:p:=by have X1:=sq (APw W #[.string el] 9);have B1:=sq ((APu [] W).alloc (Yk #[.string el] 9));exact AMc X1 B1):=h
def ALa(h:p:=by obtain⟨k,hk⟩:=FN ho;rw[hk];simp;try omega):=h
def ALb(h:p:=by obtain⟨A,c,rfl⟩:=h.form;exact⟨A,c,NC⟩):=h
def ALc(h:p:=by have q1:¬((r:Int)<(f:Int)):=KA;have q2:IntKind.u64.wrap ((r:Int)-(f:Int))=((r-f:Nat):Int):=Zu;exact AMc q1 q2):=h
def ALd(h:p:=by go_wp2_with fail;go_ret;exact⟨rfl,_,rfl⟩):=h
def ALe(h:p:=by go_wp2_with fail;go_ret;exact⟨qy KA,rfl⟩):=h
def ALf(h:p:=by obtain⟨g,o,e,_⟩:=h 0 hl;exact⟨g,o,e⟩):=h
def ALg(h:p:=by have HX4:Shut (Ip w4 g seed pk):=⟨APx HX2.o hb4 (fun hm=>ACQ)⟩;exact HX4):=h
def ALh(h:p:=by have e1':=AJb;exact AEW):=h
def ALi(h:p:=by go_in;go_wp2_with fail;refine HM.o.mono ?_;rintro e w1 ⟨rfl,hw1⟩;rw[hw1];exact AET):=h
def ALj(h:p:=by refine⟨_,rfl,rfl,fun a w hl hg hs=>?_⟩;have e0:=AF4;exact AEs):=h
def ALk(h:p:=by rintro l pre ⟨j,v⟩ W1 K ⟨hJ,hx,hlt,Aw,cw,Ap,cp,hv,h1,h2,h3,h4⟩ hK;dsimp only at hJ hx hlt hv h1 h2 h3 h4⊢;subst hv;unfold QH;obtain⟨X1,A1,HK⟩:=AEM;have HJ:=sq (AMc hJ (AMc hx hlt));have HV:=AEo;exact AHg):=h
def ALl(h:p:=by rintro e w1 ⟨rfl,hw1⟩;rw[hw1];exact AET):=h
def ALm(h:p:=by exact AMc m0 (AMc m1 (AMc m2 (AMc m3 m4)))):=h
def ALn(h:p:=by go_in;exact AET):=h
def ALo(h:p:=by go_in;go_wp2_with fail;refine HI.o.mono ?_;exact AEX):=h
def ALp(h:p:=by rintro e w1 ⟨rfl,hb⟩;have HB:=sq hb;exact AFH):=h
def ALq(h:p:=by have H:=sq (Te k d W hd hk);clear hd hk;go_in;go_wp2_with fail;refine H.out.mono ?_;rintro e w1 ⟨rfl,hw1⟩;rw[hw1];exact AGt):=h
def ALr(h:p:=by refine⟨_,rfl,rfl,fun a w hl hg hs=>?_⟩;have e0:=AF4;exact AEx):=h
def ALs(h:p:=by refine⟨_,rfl,rfl,fun a w hl hg hs=>?_⟩;have e0:=AF4;exact AEy):=h
def ALt(h:p:=by refine⟨_,rfl,rfl,fun a w hl hg hs=>?_⟩;have e0:=AF4;exact AEz):=h
def ALu(h:p:=by rintro e w1 ⟨rfl,hw1,hk1⟩;have H:=sq (AMc hw1 hk1);clear hw1 hk1;go_wp2_with fail;go_end0;exact⟨rfl,H.o⟩):=h
def ALv(h:p:=by go_in;go_wp2;exact AEd):=h
def ALw(h:p:=by go_wp2;exact AEd):=h
def ALx(h:p:=by have e1':=AJb;exact AEx):=h
def ALy(h:p:=by have e1':=AJb;exact AEy):=h
def ALz(h:p:=by have e1':=AJb;exact AEz):=h
def AL0(h:p:=by have c0:Shut (∀W',But [g] W W'→W'.cell? (v:Nat)=Z (.pointer (Z ⟨gx,k,Y⟩))):=⟨fun W' hb=>(hv.but hb AEA).cell 0 rfl⟩;exact c0):=h
def AL2(h:p:=by have b0:But [] W (W.alloc (Yk #[Yn] 129)):=(APu [] W).alloc _;have bp:=APw W #[Yn] 129;have hrd:Rd (W.alloc (Yk #[Yn] 129)) g (AB S) at_ most:=AP9 h _;exact AMc b0 (AMc bp hrd)):=h
def AF9(h:p:=by go_in;go_wp2_with fail;refine HM.o.mono ?_;exact gF):=h
def AL3(h:p:=by have e1':=AJb;exact AEs):=h
def AL4(h:p:=by simp only[Act.put];rw[Cx KA]):=h
def AL5(h:p:=by generalize beBytes n 2=r at*;exact AMb):=h
def AGA(h:p:=by refine⟨fun h=>UF,fun j hj w1 h1=>?_⟩;by_cases hji:j=i;(exact AIv);exact AGT):=h
def AL7(h:p:=by have bset:But [gx] W8 (W8.setCell ⟨gx,k,Y⟩ (.slice A6 (j+1) cap)):=(APu _ _).setCell (Or.inl NC) _;exact bset):=h
def AG2(h:p:=by rintro e w1 ⟨rfl,hw1⟩;rw[hw1];go_wp2_with fail;go_ret;exact⟨NA,rfl⟩):=h
def AL9(h:p:=by go_wp2_with fail;go_ret;exact⟨rfl,hb⟩):=h
def AMA(h:p:=by have t':9223372036854775808≤h:=Zd;rw[AMu KA];exact⟨SQ,SQ⟩):=h
def AMB(h:p:=by refine⟨_,rfl,rfl,fun a w hl hg hs=>?_⟩;have e1:=AIB;exact AGL):=h
def AMC(h:p:=by have hml:maxLen=9223372036854775807:=PV;exact AMc hby2 hml):=h
def AMD(h:p:=by go_in;exact AE3):=h
def AH0(h:p:=by have hr2:∀r,row=Z r→∃o:Obj,A'.heap[r]?=Z o∧o.isCells=false:=fun r e=>(hr r e).2;exact hr2):=h
def AMF(h:p:=by rintro e w1 ⟨rfl,hb⟩;have HB:=sq (B.o.trans hb);exact AFH):=h
def AMG(h:p:=by rintro e w2 ⟨rfl,hb2⟩;have B2:=sq hb2;clear hb2;exact AHJ):=h
def AMH(h:p:=by have X0:Shut (∀W',But [g] W W'→AJ W' gx cs tx):=⟨fun W' hb=>hx.but hb AEB⟩;exact X0):=h
def AMI(h:p:=by have hl2:Later w (w.alloc (.cells cc 220)):=(ANF _ _).alloc (AMi _) _;exact hl2):=h
def AMJ(h:p:=by have bx:=X5.o.but hl NC;have q0:=bx.cell k D.o.1;exact AHu):=h
def AMK(h:p:=by rename_i hw;simp only[hw] at h;exact⟨keep a hy _,UL⟩):=h
def AML(h:p:=by have EW:=E.mono (hd.trans hl).size;exact EW):=h
def AH1(h:p:=by clear hb;go_wp2_with fail;go_ret;exact⟨rfl,BZ.o⟩):=h
def AMN(h:p:=by rw[ho];exact⟨p,rfl⟩):=h
def AMO(h:p:=by simp[World.cell?,hh,e2]):=h
def AH2(h:p:=by have:=AOr hj hji;rw[H.1] at this;cases this):=h
def AKJ(h:p:=by exact (this.alloc _).alloc _):=h
def AMR(h:p:=by refine⟨_,rfl,rfl,fun a w hl hg hs=>?_⟩;have e1:=AH9;exact ALh):=h
def AMS(h:p:=by refine⟨_,rfl,rfl,fun a w hl hg hs=>?_⟩;have e1:=AJx;exact ALh):=h
def AMT(h:p:=by refine⟨_,rfl,rfl,fun a w hl hg hs=>?_⟩;have e1:=AH4;exact ALh):=h
def AMU(h:p:=by refine⟨_,rfl,rfl,fun a w hl hg hs=>?_⟩;have e1:a.tmps.getD 15 Yx=U gx:=hg ⟨12,.data⟩ NC rfl;exact ALh):=h
def AMV(h:p:=by refine⟨_,rfl,rfl,fun a w hl hg hs=>?_⟩;have e1:a.tmps.getD 19 Yx=U gx:=hg ⟨16,.data⟩ NC rfl;exact ALh):=h
def AMW(h:p:=by refine⟨_,rfl,rfl,fun a w hl hg hs=>?_⟩;have e1:a.tmps.getD 11 Yx=U gx:=hg ⟨8,.data⟩ NC rfl;exact ALh):=h
def AMX(h:p:=by go_in;go_wp2_with fail;refine (HC.out _).mono ?_;rintro e w' ⟨rfl,rfl⟩;exact ALw):=h
def AMY(h:p:=by refine⟨_,rfl,rfl,fun a w hl hg hs=>?_⟩;have e1:=AIA;exact ALz):=h
def AMZ(h:p:=by refine⟨_,rfl,rfl,fun a w hl hg hs=>?_⟩;have e1:=AJn;exact ALy):=h
def AMa(h:p:=by go_wp2_with fail;refine HN.o.mono ?_;exact ALp):=h
def AMb(h:p:=by clear g0;exact AEP):=h
end Go.Proofs.YtiapejgiinidhaaGreatDoor
