import Derived.Test.YtiapejgiinidhaaGreatDoorMM23
set_option linter.all false
set_option maxRecDepth 100000
set_option maxHeartbeats 40000000
namespace Go.Proofs.YtiapejgiinidhaaGreatDoor
open Value renaming int→Yg,pointer→U,string→O,func→G,slice→Yh,bool→Yl,nilFunc→Yp
open IntKind renaming i64→Yj
open Obj renaming cells→Yk
open Ending renaming returned→Yi
open Fn renaming func→M
open Go renaming World→J,Value→Yu,Calls→Yv,undef→Yx
open Go.Proofs.Tryz renaming prog→Yw
open Option renaming some→Z,none→Y
open Bool renaming true→Yy,false→Yz
open Go Go.RowKit
namespace Full
def Eo:List FD:=[⟨[105],Yz,Yp,Yp,Yp,Yp⟩,⟨[112],Yz,Yp,Yp,Yp,Yp⟩,⟨[118],Yz,Yp,Yp,Yp,Yp⟩]
def Jb:Nat→List UInt8→Option (CW×List UInt8)
 |0=>rdNum
 |1=>FY 16
 |_=>FY 67
def NR:Nat→Nat
 |0=>3
 |1=>5
 |_=>4
def NS:Nat→Nat
 |0=>4
 |1=>6
 |_=>5
def ME:Nat→Option CW→J→Array Yu→Prop
 |0=>Cj 3
 |1=>DK 5
 |_=>DK 4
def GZ:Nat→Bool
 |0=>Yy
 |1=>Yy
 |_=>Yy
def QO (B gR g gx:Nat) (S:List UInt8) (tx:TypeId) (W0:Nat):Nat→Yu→J→Prop
 |0,v,w=>v=.pointer (Z ⟨gx,3,Y⟩)
 |1,v,w=>v=.pointer (Z ⟨gx,3,Y⟩)
 |2,v,w=>v=.pointer (Z ⟨gx,3,Y⟩)
 |3,v,w=>AZ B gR g gx S tx (rdNum) 3 4 (Cj 3) Yy [105] Yz v w
 |4,v,w=>v=.pointer (Z ⟨gx,3,Y⟩)
 |5,v,w=>v=.pointer (Z ⟨gx,3,Y⟩)
 |6,v,w=>v=.pointer (Z ⟨gx,5,Y⟩)
 |7,v,w=>AZ B gR g gx S tx (FY 16) 5 6 (DK 5) Yy [112] Yz v w
 |8,v,w=>v=.pointer (Z ⟨gx,3,Y⟩)
 |9,v,w=>v=.pointer (Z ⟨gx,3,Y⟩)
 |10,v,w=>v=.pointer (Z ⟨gx,4,Y⟩)
 |11,v,w=>AZ B gR g gx S tx (FY 67) 4 5 (DK 4) Yy [118] Yz v w
 |12,v,w=>Ao B gR g gx S tx W0 Eo Jb NR NS ME GZ v w
 |_,_,_=>True
theorem Sd (B gR g gx:Nat) (S:List UInt8) (tx:TypeId) (W0:Nat):∀i v w w',QO B gR g gx S tx W0 i v w→Later w w'→QO B gR g gx S tx W0 i v w'
 |0,_,_,_,h,_=>h
 |1,_,_,_,h,_=>h
 |2,_,_,_,h,_=>h
 |3,_,_,_,h,hl=>AZ.later h hl
 |4,_,_,_,h,_=>h
 |5,_,_,_,h,_=>h
 |6,_,_,_,h,_=>h
 |7,_,_,_,h,hl=>AZ.later h hl
 |8,_,_,_,h,_=>h
 |9,_,_,_,h,_=>h
 |10,_,_,_,h,_=>h
 |11,_,_,_,h,hl=>AZ.later h hl
 |12,_,_,_,h,hl=>Ao.later h hl
 |n+13,_,_,_,_,_=>trivial
theorem qI {B gR g gx:Nat} {S:List UInt8} {tx:TypeId} {W:J} (E:Env B gR g gx tx W.heap.size):Yv Yw 199 #[.pointer (Z ⟨gx,3,Y⟩)] W fun e w'=>∃v,e=Yi v∧Ao B gR g gx S tx W.heap.size Eo Jb NR NS ME GZ v w'∧Later W w':=by go_in;go_wp2_with fail;have hd:=AK4;refine Cm (N:=13) (n:=16) (t:=15) (dN:=2) (Good:=QO B gR g gx S tx W.heap.size) NA NA rfl (Sd B gR g gx S tx W.heap.size) (fun i hi=>?_) rfl rfl rfl (fun a w=>?_) (fun a w hl hdf hsz hg hr=>?_);(match i,hi with|0,_=>exact ALr|1,_=>refine⟨_,rfl,rfl,fun a w hl hg hs=>?_⟩;have e1:a.tmps.getD 3 Yx=.pointer (Z ⟨gx,3,Y⟩):=hg ⟨0,.data⟩ NC rfl;exact ALx|2,_=>refine⟨_,rfl,rfl,fun a w hl hg hs=>?_⟩;have e1:a.tmps.getD 4 Yx=.pointer (Z ⟨gx,3,Y⟩):=hg ⟨1,.data⟩ NC rfl;exact ALx|3,_=>(refine⟨_,rfl,rfl,fun a w hl hg hs=>?_⟩;have e1:=AK8;obtain⟨e1',EW⟩:=AE2;refine APz (f:=172) (args:=#[O (AB [105]),.pointer (Z ⟨gx,3,Y⟩)]) ?_ (IE EW [105] 3);exact AJ3)|4,_=>exact ALr|5,_=>refine⟨_,rfl,rfl,fun a w hl hg hs=>?_⟩;have e1:a.tmps.getD 7 Yx=.pointer (Z ⟨gx,3,Y⟩):=hg ⟨4,.data⟩ NC rfl;exact ALx|6,_=>refine⟨_,rfl,rfl,fun a w hl hg hs=>?_⟩;have e1:a.tmps.getD 8 Yx=.pointer (Z ⟨gx,3,Y⟩):=hg ⟨5,.data⟩ NC rfl;have e1':=AJb;exact AKb|7,_=>(refine⟨_,rfl,rfl,fun a w hl hg hs=>?_⟩;have e1:a.tmps.getD 9 Yx=.pointer (Z ⟨gx,5,Y⟩):=hg ⟨6,.data⟩ NC rfl;obtain⟨e1',EW⟩:=AE2;refine APz (f:=156) (args:=#[O (AB [112]),.pointer (Z ⟨gx,5,Y⟩),Yg Yj 16]) ?_ (IP EW [112] 5 16 ND);exact AJ3)|8,_=>exact ALr|9,_=>refine⟨_,rfl,rfl,fun a w hl hg hs=>?_⟩;have e1:a.tmps.getD 11 Yx=.pointer (Z ⟨gx,3,Y⟩):=hg ⟨8,.data⟩ NC rfl;exact ALx|10,_=>refine⟨_,rfl,rfl,fun a w hl hg hs=>?_⟩;have e1:a.tmps.getD 12 Yx=.pointer (Z ⟨gx,3,Y⟩):=hg ⟨9,.data⟩ NC rfl;exact AGL|11,_=>(refine⟨_,rfl,rfl,fun a w hl hg hs=>?_⟩;have e1:a.tmps.getD 13 Yx=.pointer (Z ⟨gx,4,Y⟩):=hg ⟨10,.data⟩ NC rfl;obtain⟨e1',EW⟩:=AE2;refine APz (f:=156) (args:=#[O (AB [118]),.pointer (Z ⟨gx,4,Y⟩),Yg Yj 67]) ?_ (IP EW [118] 4 67 ND);exact AJ3)|12,_=>(refine⟨_,rfl,rfl,fun a w hl hg hs=>?_⟩;obtain⟨f0,v0,k0,m0,⟨K0⟩⟩:AZ B gR g gx S tx (rdNum) 3 4 (Cj 3) Yy [105] Yz (a.tmps.getD 6 Yx) w:=hg ⟨3,.data⟩ NC rfl;have t0:=AF v0;obtain⟨mf0,mc0,hmv0⟩:=K0.mval;obtain⟨pf0,pc0,hpv0⟩:=K0.pval;rw[FD.agg,k0,m0,K0.eval_,hmv0,hpv0,K0.gval] at t0;obtain⟨f1,v1,k1,m1,⟨K1⟩⟩:AZ B gR g gx S tx (FY 16) 5 6 (DK 5) Yy [112] Yz (a.tmps.getD 10 Yx) w:=hg ⟨7,.data⟩ NC rfl;have t1:=AF v1;obtain⟨mf1,mc1,hmv1⟩:=K1.mval;obtain⟨pf1,pc1,hpv1⟩:=K1.pval;rw[FD.agg,k1,m1,K1.eval_,hmv1,hpv1,K1.gval] at t1;obtain⟨f2,v2,k2,m2,⟨K2⟩⟩:AZ B gR g gx S tx (FY 67) 4 5 (DK 4) Yy [118] Yz (a.tmps.getD 14 Yx) w:=hg ⟨11,.data⟩ NC rfl;have t2:=AF v2;obtain⟨mf2,mc2,hmv2⟩:=K2.mval;obtain⟨pf2,pc2,hpv2⟩:=K2.pval;rw[FD.agg,k2,m2,K2.eval_,hmv2,hpv2,K2.gval] at t2;have BN:=APw w #[O (AB [105]),Yl Yz,G (M K0.efn) #[] K0.ecaps,G (M mf0) #[] mc0,G (M pf0) #[] pc0,G (M K0.gfn) #[] K0.gcaps,O (AB [112]),Yl Yz,G (M K1.efn) #[] K1.ecaps,G (M mf1) #[] mc1,G (M pf1) #[] pc1,G (M K1.gfn) #[] K1.gcaps,O (AB [118]),Yl Yz,G (M K2.efn) #[] K2.ecaps,G (M mf2) #[] mc2,G (M pf2) #[] pc2,G (M K2.gfn) #[] K2.gcaps] 220;have hF:Em (w.alloc (Yk #[O (AB [105]),Yl Yz,G (M K0.efn) #[] K0.ecaps,G (M mf0) #[] mc0,G (M pf0) #[] pc0,G (M K0.gfn) #[] K0.gcaps,O (AB [112]),Yl Yz,G (M K1.efn) #[] K1.ecaps,G (M mf1) #[] mc1,G (M pf1) #[] pc1,G (M K1.gfn) #[] K1.gcaps,O (AB [118]),Yl Yz,G (M K2.efn) #[] K2.ecaps,G (M mf2) #[] mc2,G (M pf2) #[] pc2,G (M K2.gfn) #[] K2.gcaps] 220)) w.heap.size [f0,f1,f2]:=AEU;have hl2:Later w (w.alloc (Yk #[O (AB [105]),Yl Yz,G (M K0.efn) #[] K0.ecaps,G (M mf0) #[] mc0,G (M pf0) #[] pc0,G (M K0.gfn) #[] K0.gcaps,O (AB [112]),Yl Yz,G (M K1.efn) #[] K1.ecaps,G (M mf1) #[] mc1,G (M pf1) #[] pc1,G (M K1.gfn) #[] K1.gcaps,O (AB [118]),Yl Yz,G (M K2.efn) #[] K2.ecaps,G (M mf2) #[] mc2,G (M pf2) #[] pc2,G (M K2.gfn) #[] K2.gcaps] 220)):=(ANF _ _).alloc (AMi _) _;have hr:Ao B gR g gx S tx W.heap.size Eo Jb NR NS ME GZ (Yh w.heap.size 3 3) (w.alloc (Yk #[O (AB [105]),Yl Yz,G (M K0.efn) #[] K0.ecaps,G (M mf0) #[] mc0,G (M pf0) #[] pc0,G (M K0.gfn) #[] K0.gcaps,O (AB [112]),Yl Yz,G (M K1.efn) #[] K1.ecaps,G (M mf1) #[] mc1,G (M pf1) #[] pc1,G (M K1.gfn) #[] K1.gcaps,O (AB [118]),Yl Yz,G (M K2.efn) #[] K2.ecaps,G (M mf2) #[] mc2,G (M pf2) #[] pc2,G (M K2.gfn) #[] K2.gcaps] 220)):=AEe;have HH:=AII;clear hr hl2 hF BN;have hfin:∀r,r=Result.ok (Next.value (Yh w.heap.size 3 3)) (w.alloc (Yk #[O (AB [105]),Yl Yz,G (M K0.efn) #[] K0.ecaps,G (M mf0) #[] mc0,G (M pf0) #[] pc0,G (M K0.gfn) #[] K0.gcaps,O (AB [112]),Yl Yz,G (M K1.efn) #[] K1.ecaps,G (M mf1) #[] mc1,G (M pf1) #[] pc1,G (M K1.gfn) #[] K1.gcaps,O (AB [118]),Yl Yz,G (M K2.efn) #[] K2.ecaps,G (M mf2) #[] mc2,G (M pf2) #[] pc2,G (M K2.gfn) #[] K2.gcaps] 220))→AO Yw (QO B gR g gx S tx W.heap.size 12) w r:=fun r h=>AKm;exact AGe)|m+13,hi=>omega);(·go_simp);have h24:Ao B gR g gx S tx W.heap.size Eo Jb NR NS ME GZ (a.tmps.getD 15 Yx) w:=hg 12 ND;exact AGF
theorem cZ:∀i,((Eo.getD i fd0).key).length≤1000000
 |0=>(by decide:1≤1000000)
 |1=>(by decide:1≤1000000)
 |2=>(by decide:1≤1000000)
 |m+3=>AM4 _
theorem vR:∀i j,i<Eo.length→j<Eo.length→i≠j→NS i≤NR j∨NS j≤NR i:=fun i j hi hj=>by
 have hi':i<3:=hi;have hj':j<3:=hj;clear hi hj
 match i,hi',j,hj' with
 |0,_,0,_=>decide
 |0,_,1,_=>decide
 |0,_,2,_=>decide
 |1,_,0,_=>decide
 |1,_,1,_=>decide
 |1,_,2,_=>decide
 |2,_,0,_=>decide
 |2,_,1,_=>decide
 |2,_,2,_=>decide
 |m+3,h,_,_=>omega
 |_,_,m+3,h=>omega
theorem zD:∀i,i<Eo.length→3≤NR i∧NS i≤6:=fun i hi=>by
 have hi':i<3:=hi;clear hi
 match i,hi' with
 |0,_=>decide
 |1,_=>decide
 |2,_=>decide
 |m+3,h=>omega
def Dj:List FD:=[⟨[102],Yz,Yp,Yp,Yp,Yp⟩,⟨[107],Yz,Yp,Yp,Yp,Yp⟩,⟨[108],Yz,Yp,Yp,Yp,Yp⟩,⟨[114],Yy,Yp,Yp,Yp,Yp⟩,⟨[119],Yz,Yp,Yp,Yp,Yp⟩]
def Gg:Nat→List UInt8→Option (CW×List UInt8)
 |0=>rdNum
 |1=>rdNum
 |2=>rdNum
 |3=>Pn
 |_=>rdNum
def Jg:Nat→Nat
 |0=>8
 |1=>10
 |2=>9
 |3=>6
 |_=>7
def Jh:Nat→Nat
 |0=>9
 |1=>11
 |2=>10
 |3=>7
 |_=>8
def Ig:Nat→Option CW→J→Array Yu→Prop
 |0=>Cj 8
 |1=>Cj 10
 |2=>Cj 9
 |3=>JB 6
 |_=>Cj 7
def Ej:Nat→Bool
 |0=>Yy
 |1=>Yy
 |2=>Yy
 |3=>Yz
 |_=>Yy
def Ng (B gR g gx:Nat) (S:List UInt8) (tx:TypeId) (W0:Nat):Nat→Yu→J→Prop
 |0,v,w=>v=.pointer (Z ⟨gx,6,Y⟩)
 |1,v,w=>v=.pointer (Z ⟨gx,6,Y⟩)
 |2,v,w=>v=.pointer (Z ⟨gx,8,Y⟩)
 |3,v,w=>AZ B gR g gx S tx (rdNum) 8 9 (Cj 8) Yy [102] Yz v w
 |4,v,w=>v=.pointer (Z ⟨gx,6,Y⟩)
 |5,v,w=>v=.pointer (Z ⟨gx,6,Y⟩)
 |6,v,w=>v=.pointer (Z ⟨gx,10,Y⟩)
 |7,v,w=>AZ B gR g gx S tx (rdNum) 10 11 (Cj 10) Yy [107] Yz v w
 |8,v,w=>v=.pointer (Z ⟨gx,6,Y⟩)
 |9,v,w=>v=.pointer (Z ⟨gx,6,Y⟩)
 |10,v,w=>v=.pointer (Z ⟨gx,9,Y⟩)
 |11,v,w=>AZ B gR g gx S tx (rdNum) 9 10 (Cj 9) Yy [108] Yz v w
 |12,v,w=>v=.pointer (Z ⟨gx,6,Y⟩)
 |13,v,w=>v=.pointer (Z ⟨gx,6,Y⟩)
 |14,v,w=>v=.pointer (Z ⟨gx,6,Y⟩)
 |15,v,w=>AZ B gR g gx S tx (Pn) 6 7 (JB 6) Yz [114] Yy v w
 |16,v,w=>v=.pointer (Z ⟨gx,6,Y⟩)
 |17,v,w=>v=.pointer (Z ⟨gx,6,Y⟩)
 |18,v,w=>v=.pointer (Z ⟨gx,7,Y⟩)
 |19,v,w=>AZ B gR g gx S tx (rdNum) 7 8 (Cj 7) Yy [119] Yz v w
 |20,v,w=>Ao B gR g gx S tx W0 Dj Gg Jg Jh Ig Ej v w
 |_,_,_=>True
theorem RF (B gR g gx:Nat) (S:List UInt8) (tx:TypeId) (W0:Nat):∀i v w w',Ng B gR g gx S tx W0 i v w→Later w w'→Ng B gR g gx S tx W0 i v w'
 |0,_,_,_,h,_=>h
 |1,_,_,_,h,_=>h
 |2,_,_,_,h,_=>h
 |3,_,_,_,h,hl=>AZ.later h hl
 |4,_,_,_,h,_=>h
 |5,_,_,_,h,_=>h
 |6,_,_,_,h,_=>h
 |7,_,_,_,h,hl=>AZ.later h hl
 |8,_,_,_,h,_=>h
 |9,_,_,_,h,_=>h
 |10,_,_,_,h,_=>h
 |11,_,_,_,h,hl=>AZ.later h hl
 |12,_,_,_,h,_=>h
 |13,_,_,_,h,_=>h
 |14,_,_,_,h,_=>h
 |15,_,_,_,h,hl=>AZ.later h hl
 |16,_,_,_,h,_=>h
 |17,_,_,_,h,_=>h
 |18,_,_,_,h,_=>h
 |19,_,_,_,h,hl=>AZ.later h hl
 |20,_,_,_,h,hl=>Ao.later h hl
 |n+21,_,_,_,_,_=>trivial
theorem kg {B gR g gx:Nat} {S:List UInt8} {tx:TypeId} {W:J} (E:Env B gR g gx tx W.heap.size):Yv Yw 141 #[.pointer (Z ⟨gx,6,Y⟩)] W fun e w'=>∃v,e=Yi v∧Ao B gR g gx S tx W.heap.size Dj Gg Jg Jh Ig Ej v w'∧Later W w':=by go_in;go_wp2_with fail;have hd:=AK4;refine Cm (N:=21) (n:=24) (t:=23) (dN:=2) (Good:=Ng B gR g gx S tx W.heap.size) NA NA rfl (RF B gR g gx S tx W.heap.size) (fun i hi=>?_) rfl rfl rfl (fun a w=>?_) (fun a w hl hdf hsz hg hr=>?_);(·match i,hi with|0,_=>exact ALj|1,_=>refine⟨_,rfl,rfl,fun a w hl hg hs=>?_⟩;have e1:a.tmps.getD 3 Yx=.pointer (Z ⟨gx,6,Y⟩):=hg ⟨0,.data⟩ NC rfl;exact AL3|2,_=>refine⟨_,rfl,rfl,fun a w hl hg hs=>?_⟩;have e1:a.tmps.getD 4 Yx=.pointer (Z ⟨gx,6,Y⟩):=hg ⟨1,.data⟩ NC rfl;have e1':=AJb;refine AP5 (v:=.pointer (Z ⟨gx,8,Y⟩)) ?_ rfl;go_simp|3,_=>(refine⟨_,rfl,rfl,fun a w hl hg hs=>?_⟩;have e1:a.tmps.getD 5 Yx=.pointer (Z ⟨gx,8,Y⟩):=hg ⟨2,.data⟩ NC rfl;obtain⟨e1',EW⟩:=AE2;refine APz (f:=172) (args:=#[O (AB [102]),.pointer (Z ⟨gx,8,Y⟩)]) ?_ (IE EW [102] 8);exact AJ3)|4,_=>exact ALj|5,_=>refine⟨_,rfl,rfl,fun a w hl hg hs=>?_⟩;have e1:a.tmps.getD 7 Yx=.pointer (Z ⟨gx,6,Y⟩):=hg ⟨4,.data⟩ NC rfl;exact AL3|6,_=>refine⟨_,rfl,rfl,fun a w hl hg hs=>?_⟩;have e1:a.tmps.getD 8 Yx=.pointer (Z ⟨gx,6,Y⟩):=hg ⟨5,.data⟩ NC rfl;have e1':=AJb;refine AP5 (v:=.pointer (Z ⟨gx,10,Y⟩)) ?_ rfl;go_simp|7,_=>(refine⟨_,rfl,rfl,fun a w hl hg hs=>?_⟩;have e1:a.tmps.getD 9 Yx=.pointer (Z ⟨gx,10,Y⟩):=hg ⟨6,.data⟩ NC rfl;obtain⟨e1',EW⟩:=AE2;refine APz (f:=172) (args:=#[O (AB [107]),.pointer (Z ⟨gx,10,Y⟩)]) ?_ (IE EW [107] 10);exact AJ3)|8,_=>exact ALj|9,_=>refine⟨_,rfl,rfl,fun a w hl hg hs=>?_⟩;have e1:a.tmps.getD 11 Yx=.pointer (Z ⟨gx,6,Y⟩):=hg ⟨8,.data⟩ NC rfl;exact AL3|10,_=>refine⟨_,rfl,rfl,fun a w hl hg hs=>?_⟩;have e1:a.tmps.getD 12 Yx=.pointer (Z ⟨gx,6,Y⟩):=hg ⟨9,.data⟩ NC rfl;have e1':=AJb;refine AP5 (v:=.pointer (Z ⟨gx,9,Y⟩)) ?_ rfl;go_simp|11,_=>(refine⟨_,rfl,rfl,fun a w hl hg hs=>?_⟩;have e1:a.tmps.getD 13 Yx=.pointer (Z ⟨gx,9,Y⟩):=hg ⟨10,.data⟩ NC rfl;obtain⟨e1',EW⟩:=AE2;refine APz (f:=172) (args:=#[O (AB [108]),.pointer (Z ⟨gx,9,Y⟩)]) ?_ (IE EW [108] 9);exact AJ3)|12,_=>exact ALj|13,_=>refine⟨_,rfl,rfl,fun a w hl hg hs=>?_⟩;have e1:a.tmps.getD 15 Yx=.pointer (Z ⟨gx,6,Y⟩):=hg ⟨12,.data⟩ NC rfl;exact AL3|14,_=>refine⟨_,rfl,rfl,fun a w hl hg hs=>?_⟩;have e1:a.tmps.getD 16 Yx=.pointer (Z ⟨gx,6,Y⟩):=hg ⟨13,.data⟩ NC rfl;exact AL3|15,_=>(refine⟨_,rfl,rfl,fun a w hl hg hs=>?_⟩;have e1:a.tmps.getD 17 Yx=.pointer (Z ⟨gx,6,Y⟩):=hg ⟨14,.data⟩ NC rfl;obtain⟨e1',EW⟩:=AE2;refine APz (f:=157) (args:=#[O (AB [114]),.pointer (Z ⟨gx,6,Y⟩)]) ?_ (Rk EW [114] 6);exact AJ3)|16,_=>exact ALj|17,_=>refine⟨_,rfl,rfl,fun a w hl hg hs=>?_⟩;have e1:a.tmps.getD 19 Yx=.pointer (Z ⟨gx,6,Y⟩):=hg ⟨16,.data⟩ NC rfl;exact AL3|18,_=>refine⟨_,rfl,rfl,fun a w hl hg hs=>?_⟩;have e1:a.tmps.getD 20 Yx=.pointer (Z ⟨gx,6,Y⟩):=hg ⟨17,.data⟩ NC rfl;have e1':=AJb;refine AP5 (v:=.pointer (Z ⟨gx,7,Y⟩)) ?_ rfl;go_simp|19,_=>(refine⟨_,rfl,rfl,fun a w hl hg hs=>?_⟩;have e1:a.tmps.getD 21 Yx=.pointer (Z ⟨gx,7,Y⟩):=hg ⟨18,.data⟩ NC rfl;obtain⟨e1',EW⟩:=AE2;refine APz (f:=172) (args:=#[O (AB [119]),.pointer (Z ⟨gx,7,Y⟩)]) ?_ (IE EW [119] 7);exact AJ3)|20,_=>(refine⟨_,rfl,rfl,fun a w hl hg hs=>?_⟩;obtain⟨f0,v0,k0,m0,⟨K0⟩⟩:AZ B gR g gx S tx (rdNum) 8 9 (Cj 8) Yy [102] Yz (a.tmps.getD 6 Yx) w:=hg ⟨3,.data⟩ NC rfl;have t0:=AF v0;obtain⟨mf0,mc0,hmv0⟩:=K0.mval;obtain⟨pf0,pc0,hpv0⟩:=K0.pval;rw[FD.agg,k0,m0,K0.eval_,hmv0,hpv0,K0.gval] at t0;obtain⟨f1,v1,k1,m1,⟨K1⟩⟩:AZ B gR g gx S tx (rdNum) 10 11 (Cj 10) Yy [107] Yz (a.tmps.getD 10 Yx) w:=hg ⟨7,.data⟩ NC rfl;have t1:=AF v1;obtain⟨mf1,mc1,hmv1⟩:=K1.mval;obtain⟨pf1,pc1,hpv1⟩:=K1.pval;rw[FD.agg,k1,m1,K1.eval_,hmv1,hpv1,K1.gval] at t1;obtain⟨f2,v2,k2,m2,⟨K2⟩⟩:AZ B gR g gx S tx (rdNum) 9 10 (Cj 9) Yy [108] Yz (a.tmps.getD 14 Yx) w:=hg ⟨11,.data⟩ NC rfl;have t2:=AF v2;obtain⟨mf2,mc2,hmv2⟩:=K2.mval;obtain⟨pf2,pc2,hpv2⟩:=K2.pval;rw[FD.agg,k2,m2,K2.eval_,hmv2,hpv2,K2.gval] at t2;obtain⟨f3,v3,k3,m3,⟨K3⟩⟩:AZ B gR g gx S tx (Pn) 6 7 (JB 6) Yz [114] Yy (a.tmps.getD 18 Yx) w:=hg ⟨15,.data⟩ NC rfl;have t3:=AF v3;obtain⟨mf3,mc3,hmv3⟩:=K3.mval;obtain⟨pf3,pc3,hpv3⟩:=K3.pval;rw[FD.agg,k3,m3,K3.eval_,hmv3,hpv3,K3.gval] at t3;obtain⟨f4,v4,k4,m4,⟨K4⟩⟩:AZ B gR g gx S tx (rdNum) 7 8 (Cj 7) Yy [119] Yz (a.tmps.getD 22 Yx) w:=hg ⟨19,.data⟩ NC rfl;have t4:=AF v4;obtain⟨mf4,mc4,hmv4⟩:=K4.mval;obtain⟨pf4,pc4,hpv4⟩:=K4.pval;rw[FD.agg,k4,m4,K4.eval_,hmv4,hpv4,K4.gval] at t4;have BN:=APw w #[O (AB [102]),Yl Yz,G (M K0.efn) #[] K0.ecaps,G (M mf0) #[] mc0,G (M pf0) #[] pc0,G (M K0.gfn) #[] K0.gcaps,O (AB [107]),Yl Yz,G (M K1.efn) #[] K1.ecaps,G (M mf1) #[] mc1,G (M pf1) #[] pc1,G (M K1.gfn) #[] K1.gcaps,O (AB [108]),Yl Yz,G (M K2.efn) #[] K2.ecaps,G (M mf2) #[] mc2,G (M pf2) #[] pc2,G (M K2.gfn) #[] K2.gcaps,O (AB [114]),Yl Yy,G (M K3.efn) #[] K3.ecaps,G (M mf3) #[] mc3,G (M pf3) #[] pc3,G (M K3.gfn) #[] K3.gcaps,O (AB [119]),Yl Yz,G (M K4.efn) #[] K4.ecaps,G (M mf4) #[] mc4,G (M pf4) #[] pc4,G (M K4.gfn) #[] K4.gcaps] 220;(have hF:Em (w.alloc (Yk #[O (AB [102]),Yl Yz,G (M K0.efn) #[] K0.ecaps,G (M mf0) #[] mc0,G (M pf0) #[] pc0,G (M K0.gfn) #[] K0.gcaps,O (AB [107]),Yl Yz,G (M K1.efn) #[] K1.ecaps,G (M mf1) #[] mc1,G (M pf1) #[] pc1,G (M K1.gfn) #[] K1.gcaps,O (AB [108]),Yl Yz,G (M K2.efn) #[] K2.ecaps,G (M mf2) #[] mc2,G (M pf2) #[] pc2,G (M K2.gfn) #[] K2.gcaps,O (AB [114]),Yl Yy,G (M K3.efn) #[] K3.ecaps,G (M mf3) #[] mc3,G (M pf3) #[] pc3,G (M K3.gfn) #[] K3.gcaps,O (AB [119]),Yl Yz,G (M K4.efn) #[] K4.ecaps,G (M mf4) #[] mc4,G (M pf4) #[] pc4,G (M K4.gfn) #[] K4.gcaps] 220)) w.heap.size [f0,f1,f2,f3,f4]:=by refine⟨BN.lt,fun i hi=>?_⟩;match i,hi with|0,_=>rw[show [f0,f1,f2,f3,f4].getD 0 fd0=f0 from rfl,k0,m0,K0.eval_,hmv0,hpv0,K0.gval];exact AFQ|1,_=>rw[show [f0,f1,f2,f3,f4].getD 1 fd0=f1 from rfl,k1,m1,K1.eval_,hmv1,hpv1,K1.gval];exact AFO|2,_=>rw[show [f0,f1,f2,f3,f4].getD 2 fd0=f2 from rfl,k2,m2,K2.eval_,hmv2,hpv2,K2.gval];exact AFM|3,_=>rw[show [f0,f1,f2,f3,f4].getD 3 fd0=f3 from rfl,k3,m3,K3.eval_,hmv3,hpv3,K3.gval];exact AIg|4,_=>rw[show [f0,f1,f2,f3,f4].getD 4 fd0=f4 from rfl,k4,m4,K4.eval_,hmv4,hpv4,K4.gval];exact AIh|m+5,hi=>exact absurd (show m+5<5 from hi) KA);have hl2:Later w (w.alloc (Yk #[O (AB [102]),Yl Yz,G (M K0.efn) #[] K0.ecaps,G (M mf0) #[] mc0,G (M pf0) #[] pc0,G (M K0.gfn) #[] K0.gcaps,O (AB [107]),Yl Yz,G (M K1.efn) #[] K1.ecaps,G (M mf1) #[] mc1,G (M pf1) #[] pc1,G (M K1.gfn) #[] K1.gcaps,O (AB [108]),Yl Yz,G (M K2.efn) #[] K2.ecaps,G (M mf2) #[] mc2,G (M pf2) #[] pc2,G (M K2.gfn) #[] K2.gcaps,O (AB [114]),Yl Yy,G (M K3.efn) #[] K3.ecaps,G (M mf3) #[] mc3,G (M pf3) #[] pc3,G (M K3.gfn) #[] K3.gcaps,O (AB [119]),Yl Yz,G (M K4.efn) #[] K4.ecaps,G (M mf4) #[] mc4,G (M pf4) #[] pc4,G (M K4.gfn) #[] K4.gcaps] 220)):=(ANF _ _).alloc (AMi _) _;(have hr:Ao B gR g gx S tx W.heap.size Dj Gg Jg Jh Ig Ej (Yh w.heap.size 5 5) (w.alloc (Yk #[O (AB [102]),Yl Yz,G (M K0.efn) #[] K0.ecaps,G (M mf0) #[] mc0,G (M pf0) #[] pc0,G (M K0.gfn) #[] K0.gcaps,O (AB [107]),Yl Yz,G (M K1.efn) #[] K1.ecaps,G (M mf1) #[] mc1,G (M pf1) #[] pc1,G (M K1.gfn) #[] K1.gcaps,O (AB [108]),Yl Yz,G (M K2.efn) #[] K2.ecaps,G (M mf2) #[] mc2,G (M pf2) #[] pc2,G (M K2.gfn) #[] K2.gcaps,O (AB [114]),Yl Yy,G (M K3.efn) #[] K3.ecaps,G (M mf3) #[] mc3,G (M pf3) #[] pc3,G (M K3.gfn) #[] K3.gcaps,O (AB [119]),Yl Yz,G (M K4.efn) #[] K4.ecaps,G (M mf4) #[] mc4,G (M pf4) #[] pc4,G (M K4.gfn) #[] K4.gcaps] 220)):=by refine⟨w.heap.size,[f0,f1,f2,f3,f4],rfl,rfl,hF,(hd.trans hl).size,fun i=>?_,fun i=>?_,⟨fun i hi=>?_⟩⟩;(match i with|0=>exact k0|1=>exact k1|2=>exact k2|3=>exact k3|4=>exact k4|m+5=>rfl);(match i with|0=>exact m0|1=>exact m1|2=>exact m2|3=>exact m3|4=>exact m4|m+5=>rfl);match i,hi with|0,_=>exact K0.later (APv hl2).nil|1,_=>exact K1.later (APv hl2).nil|2,_=>exact K2.later (APv hl2).nil|3,_=>exact K3.later (APv hl2).nil|4,_=>exact K4.later (APv hl2).nil|m+5,hi=>exact absurd (show m+5<5 from hi) KA);have HH:=AII;clear hr hl2 hF BN;have hfin:∀r,r=Result.ok (Next.value (Yh w.heap.size 5 5)) (w.alloc (Yk #[O (AB [102]),Yl Yz,G (M K0.efn) #[] K0.ecaps,G (M mf0) #[] mc0,G (M pf0) #[] pc0,G (M K0.gfn) #[] K0.gcaps,O (AB [107]),Yl Yz,G (M K1.efn) #[] K1.ecaps,G (M mf1) #[] mc1,G (M pf1) #[] pc1,G (M K1.gfn) #[] K1.gcaps,O (AB [108]),Yl Yz,G (M K2.efn) #[] K2.ecaps,G (M mf2) #[] mc2,G (M pf2) #[] pc2,G (M K2.gfn) #[] K2.gcaps,O (AB [114]),Yl Yy,G (M K3.efn) #[] K3.ecaps,G (M mf3) #[] mc3,G (M pf3) #[] pc3,G (M K3.gfn) #[] K3.gcaps,O (AB [119]),Yl Yz,G (M K4.efn) #[] K4.ecaps,G (M mf4) #[] mc4,G (M pf4) #[] pc4,G (M K4.gfn) #[] K4.gcaps] 220))→AO Yw (Ng B gR g gx S tx W.heap.size 20) w r:=fun r h=>AKm;exact AGe)|m+21,hi=>omega);(·go_simp);have h24:Ao B gR g gx S tx W.heap.size Dj Gg Jg Jh Ig Ej (a.tmps.getD 23 Yx) w:=hg 20 ND;exact AGG
theorem Xy:∀i,((Dj.getD i fd0).key).length≤1000000
 |0=>(by decide:1≤1000000)
 |1=>(by decide:1≤1000000)
 |2=>(by decide:1≤1000000)
 |3=>(by decide:1≤1000000)
 |4=>(by decide:1≤1000000)
 |m+5=>AM4 _
theorem rX:∀i j,i<Dj.length→j<Dj.length→i≠j→Jh i≤Jg j∨Jh j≤Jg i:=fun i j hi hj=>by
 have hi':i<5:=hi;have hj':j<5:=hj;clear hi hj
 match i,hi',j,hj' with
 |0,_,0,_=>decide
 |0,_,1,_=>decide
 |0,_,2,_=>decide
 |0,_,3,_=>decide
 |0,_,4,_=>decide
 |1,_,0,_=>decide
 |1,_,1,_=>decide
 |1,_,2,_=>decide
 |1,_,3,_=>decide
 |1,_,4,_=>decide
 |2,_,0,_=>decide
 |2,_,1,_=>decide
 |2,_,2,_=>decide
 |2,_,3,_=>decide
 |2,_,4,_=>decide
 |3,_,0,_=>decide
 |3,_,1,_=>decide
 |3,_,2,_=>decide
 |3,_,3,_=>decide
 |3,_,4,_=>decide
 |4,_,0,_=>decide
 |4,_,1,_=>decide
 |4,_,2,_=>decide
 |4,_,3,_=>decide
 |4,_,4,_=>decide
 |m+5,h,_,_=>omega
 |_,_,m+5,h=>omega
theorem wL:∀i,i<Dj.length→6≤Jg i∧Jh i≤11:=fun i hi=>by
 have hi':i<5:=hi;clear hi
 match i,hi' with
 |0,_=>decide
 |1,_=>decide
 |2,_=>decide
 |3,_=>decide
 |4,_=>decide
 |m+5,h=>omega
def Dh:List FD:=[⟨[103],(Bo Eo),Yp,Yp,Yp,Yp⟩,⟨[108],Yz,Yp,Yp,Yp,Yp⟩,⟨[115],Yz,Yp,Yp,Yp,Yp⟩]
def Gb:Nat→List UInt8→Option (CW×List UInt8)
 |0=>IA Eo Jb GZ
 |1=>rdNum
 |_=>Qx
def JZ:Nat→Nat
 |0=>3
 |1=>1
 |_=>2
def Ja:Nat→Nat
 |0=>6
 |1=>2
 |_=>3
def Ia:Nat→Option CW→J→Array Yu→Prop
 |0=>FV 3 ME GZ
 |1=>Cj 1
 |_=>JY 2
def Ei:Nat→Bool
 |0=>(He 3 GZ [])
 |1=>Yy
 |_=>Yy
def NQ (B gR g gx:Nat) (S:List UInt8) (tx:TypeId) (W0:Nat):Nat→Yu→J→Prop
 |0,v,w=>v=.pointer (Z ⟨gx,1,Y⟩)
 |1,v,w=>v=.pointer (Z ⟨gx,1,Y⟩)
 |2,v,w=>v=.pointer (Z ⟨gx,3,Y⟩)
 |3,v,w=>Ao B gR g gx S tx W0 Eo Jb NR NS ME GZ v w
 |4,v,w=>AZ B gR g gx S tx (IA Eo Jb GZ) 3 6 (FV 3 ME GZ) (He 3 GZ []) [103] (Bo Eo) v w
 |5,v,w=>v=.pointer (Z ⟨gx,1,Y⟩)
 |6,v,w=>v=.pointer (Z ⟨gx,1,Y⟩)
 |7,v,w=>v=.pointer (Z ⟨gx,1,Y⟩)
 |8,v,w=>AZ B gR g gx S tx (rdNum) 1 2 (Cj 1) Yy [108] Yz v w
 |9,v,w=>v=.pointer (Z ⟨gx,1,Y⟩)
 |10,v,w=>v=.pointer (Z ⟨gx,1,Y⟩)
 |11,v,w=>v=.pointer (Z ⟨gx,2,Y⟩)
 |12,v,w=>AZ B gR g gx S tx (Qx) 2 3 (JY 2) Yy [115] Yz v w
 |13,v,w=>Ao B gR g gx S tx W0 Dh Gb JZ Ja Ia Ei v w
 |_,_,_=>True
theorem Qp (B gR g gx:Nat) (S:List UInt8) (tx:TypeId) (W0:Nat):∀i v w w',NQ B gR g gx S tx W0 i v w→Later w w'→NQ B gR g gx S tx W0 i v w'
 |0,_,_,_,h,_=>h
 |1,_,_,_,h,_=>h
 |2,_,_,_,h,_=>h
 |3,_,_,_,h,hl=>Ao.later h hl
 |4,_,_,_,h,hl=>AZ.later h hl
 |5,_,_,_,h,_=>h
 |6,_,_,_,h,_=>h
 |7,_,_,_,h,_=>h
 |8,_,_,_,h,hl=>AZ.later h hl
 |9,_,_,_,h,_=>h
 |10,_,_,_,h,_=>h
 |11,_,_,_,h,_=>h
 |12,_,_,_,h,hl=>AZ.later h hl
 |13,_,_,_,h,hl=>Ao.later h hl
 |n+14,_,_,_,_,_=>trivial
theorem jo {B gR g gx:Nat} {S:List UInt8} {tx:TypeId} {W:J} (E:Env B gR g gx tx W.heap.size):Yv Yw 140 #[.pointer (Z ⟨gx,1,Y⟩)] W fun e w'=>∃v,e=Yi v∧Ao B gR g gx S tx W.heap.size Dh Gb JZ Ja Ia Ei v w'∧Later W w':=by go_in;go_wp2_with fail;have hd:=AK4;refine Cm (N:=14) (n:=17) (t:=16) (dN:=2) (Good:=NQ B gR g gx S tx W.heap.size) NA NA rfl (Qp B gR g gx S tx W.heap.size) (fun i hi=>?_) rfl rfl rfl (fun a w=>?_) (fun a w hl hdf hsz hg hr=>?_);(·match i,hi with|0,_=>exact ALs|1,_=>refine⟨_,rfl,rfl,fun a w hl hg hs=>?_⟩;have e1:a.tmps.getD 3 Yx=.pointer (Z ⟨gx,1,Y⟩):=hg ⟨0,.data⟩ NC rfl;exact ALy|2,_=>refine⟨_,rfl,rfl,fun a w hl hg hs=>?_⟩;have e1:a.tmps.getD 4 Yx=.pointer (Z ⟨gx,1,Y⟩):=hg ⟨1,.data⟩ NC rfl;exact ALx|3,_=>(refine⟨_,rfl,rfl,fun a w hl hg hs=>?_⟩;have e1:=AK8;obtain⟨e1',EW⟩:=AE2;refine APz (f:=199) (args:=#[.pointer (Z ⟨gx,3,Y⟩)]) ?_ ((qI (S:=S) (tx:=tx) EW).mono fun e w' hh=>?_);(·go_simp);exact AHT)|4,_=>(refine⟨_,rfl,rfl,fun a w hl hg hs=>?_⟩;have e1:Ao B gR g gx S tx W.heap.size Eo Jb NR NS ME GZ (a.tmps.getD 6 Yx) w:=hg ⟨3,.data⟩ NC rfl;obtain⟨vv,hvv⟩:∃x,a.tmps.getD 6 Yx=x:=⟨_,rfl⟩;rw[hvv] at e1;have e1':=AF hvv;clear hvv;have EW:=AML;refine APz (f:=198) (args:=#[O (AB [103]),vv]) ?_ (MZ EW ⟨E.g1,E.g3⟩ [103] e1 ND cZ vR 3 6 zD);exact AJ3)|5,_=>exact ALs|6,_=>refine⟨_,rfl,rfl,fun a w hl hg hs=>?_⟩;have e1:a.tmps.getD 8 Yx=.pointer (Z ⟨gx,1,Y⟩):=hg ⟨5,.data⟩ NC rfl;exact ALy|7,_=>refine⟨_,rfl,rfl,fun a w hl hg hs=>?_⟩;have e1:a.tmps.getD 9 Yx=.pointer (Z ⟨gx,1,Y⟩):=hg ⟨6,.data⟩ NC rfl;exact ALy|8,_=>(refine⟨_,rfl,rfl,fun a w hl hg hs=>?_⟩;have e1:a.tmps.getD 10 Yx=.pointer (Z ⟨gx,1,Y⟩):=hg ⟨7,.data⟩ NC rfl;obtain⟨e1',EW⟩:=AE2;refine APz (f:=172) (args:=#[O (AB [108]),.pointer (Z ⟨gx,1,Y⟩)]) ?_ (IE EW [108] 1);exact AJ3)|9,_=>exact ALs|10,_=>refine⟨_,rfl,rfl,fun a w hl hg hs=>?_⟩;have e1:a.tmps.getD 12 Yx=.pointer (Z ⟨gx,1,Y⟩):=hg ⟨9,.data⟩ NC rfl;exact ALy|11,_=>refine⟨_,rfl,rfl,fun a w hl hg hs=>?_⟩;have e1:a.tmps.getD 13 Yx=.pointer (Z ⟨gx,1,Y⟩):=hg ⟨10,.data⟩ NC rfl;exact ALz|12,_=>(refine⟨_,rfl,rfl,fun a w hl hg hs=>?_⟩;have e1:a.tmps.getD 14 Yx=.pointer (Z ⟨gx,2,Y⟩):=hg ⟨11,.data⟩ NC rfl;obtain⟨e1',EW⟩:=AE2;refine APz (f:=200) (args:=#[O (AB [115]),.pointer (Z ⟨gx,2,Y⟩)]) ?_ (uH EW [115] 2);exact AJ3)|13,_=>(refine⟨_,rfl,rfl,fun a w hl hg hs=>?_⟩;obtain⟨f0,v0,k0,m0,⟨K0⟩⟩:AZ B gR g gx S tx (IA Eo Jb GZ) 3 6 (FV 3 ME GZ) (He 3 GZ []) [103] (Bo Eo) (a.tmps.getD 7 Yx) w:=hg ⟨4,.data⟩ NC rfl;have t0:=AF v0;obtain⟨mf0,mc0,hmv0⟩:=K0.mval;obtain⟨pf0,pc0,hpv0⟩:=K0.pval;rw[FD.agg,k0,m0,K0.eval_,hmv0,hpv0,K0.gval] at t0;obtain⟨f1,v1,k1,m1,⟨K1⟩⟩:AZ B gR g gx S tx (rdNum) 1 2 (Cj 1) Yy [108] Yz (a.tmps.getD 11 Yx) w:=hg ⟨8,.data⟩ NC rfl;have t1:=AF v1;obtain⟨mf1,mc1,hmv1⟩:=K1.mval;obtain⟨pf1,pc1,hpv1⟩:=K1.pval;rw[FD.agg,k1,m1,K1.eval_,hmv1,hpv1,K1.gval] at t1;obtain⟨f2,v2,k2,m2,⟨K2⟩⟩:AZ B gR g gx S tx (Qx) 2 3 (JY 2) Yy [115] Yz (a.tmps.getD 15 Yx) w:=hg ⟨12,.data⟩ NC rfl;have t2:=AF v2;obtain⟨mf2,mc2,hmv2⟩:=K2.mval;obtain⟨pf2,pc2,hpv2⟩:=K2.pval;rw[FD.agg,k2,m2,K2.eval_,hmv2,hpv2,K2.gval] at t2;have BN:=APw w #[O (AB [103]),Yl (Bo Eo),G (M K0.efn) #[] K0.ecaps,G (M mf0) #[] mc0,G (M pf0) #[] pc0,G (M K0.gfn) #[] K0.gcaps,O (AB [108]),Yl Yz,G (M K1.efn) #[] K1.ecaps,G (M mf1) #[] mc1,G (M pf1) #[] pc1,G (M K1.gfn) #[] K1.gcaps,O (AB [115]),Yl Yz,G (M K2.efn) #[] K2.ecaps,G (M mf2) #[] mc2,G (M pf2) #[] pc2,G (M K2.gfn) #[] K2.gcaps] 220;have hF:Em (w.alloc (Yk #[O (AB [103]),Yl (Bo Eo),G (M K0.efn) #[] K0.ecaps,G (M mf0) #[] mc0,G (M pf0) #[] pc0,G (M K0.gfn) #[] K0.gcaps,O (AB [108]),Yl Yz,G (M K1.efn) #[] K1.ecaps,G (M mf1) #[] mc1,G (M pf1) #[] pc1,G (M K1.gfn) #[] K1.gcaps,O (AB [115]),Yl Yz,G (M K2.efn) #[] K2.ecaps,G (M mf2) #[] mc2,G (M pf2) #[] pc2,G (M K2.gfn) #[] K2.gcaps] 220)) w.heap.size [f0,f1,f2]:=AEU;have hl2:Later w (w.alloc (Yk #[O (AB [103]),Yl (Bo Eo),G (M K0.efn) #[] K0.ecaps,G (M mf0) #[] mc0,G (M pf0) #[] pc0,G (M K0.gfn) #[] K0.gcaps,O (AB [108]),Yl Yz,G (M K1.efn) #[] K1.ecaps,G (M mf1) #[] mc1,G (M pf1) #[] pc1,G (M K1.gfn) #[] K1.gcaps,O (AB [115]),Yl Yz,G (M K2.efn) #[] K2.ecaps,G (M mf2) #[] mc2,G (M pf2) #[] pc2,G (M K2.gfn) #[] K2.gcaps] 220)):=(ANF _ _).alloc (AMi _) _;have hr:Ao B gR g gx S tx W.heap.size Dh Gb JZ Ja Ia Ei (Yh w.heap.size 3 3) (w.alloc (Yk #[O (AB [103]),Yl (Bo Eo),G (M K0.efn) #[] K0.ecaps,G (M mf0) #[] mc0,G (M pf0) #[] pc0,G (M K0.gfn) #[] K0.gcaps,O (AB [108]),Yl Yz,G (M K1.efn) #[] K1.ecaps,G (M mf1) #[] mc1,G (M pf1) #[] pc1,G (M K1.gfn) #[] K1.gcaps,O (AB [115]),Yl Yz,G (M K2.efn) #[] K2.ecaps,G (M mf2) #[] mc2,G (M pf2) #[] pc2,G (M K2.gfn) #[] K2.gcaps] 220)):=AEe;have HH:=AII;clear hr hl2 hF BN;have hfin:∀r,r=Result.ok (Next.value (Yh w.heap.size 3 3)) (w.alloc (Yk #[O (AB [103]),Yl (Bo Eo),G (M K0.efn) #[] K0.ecaps,G (M mf0) #[] mc0,G (M pf0) #[] pc0,G (M K0.gfn) #[] K0.gcaps,O (AB [108]),Yl Yz,G (M K1.efn) #[] K1.ecaps,G (M mf1) #[] mc1,G (M pf1) #[] pc1,G (M K1.gfn) #[] K1.gcaps,O (AB [115]),Yl Yz,G (M K2.efn) #[] K2.ecaps,G (M mf2) #[] mc2,G (M pf2) #[] pc2,G (M K2.gfn) #[] K2.gcaps] 220))→AO Yw (NQ B gR g gx S tx W.heap.size 13) w r:=fun r h=>AKm;exact AGe)|m+14,hi=>omega);(·go_simp);have h24:Ao B gR g gx S tx W.heap.size Dh Gb JZ Ja Ia Ei (a.tmps.getD 16 Yx) w:=hg 13 ND;exact AGH
theorem Wy:∀i,((Dh.getD i fd0).key).length≤1000000
 |0=>(by decide:1≤1000000)
 |1=>(by decide:1≤1000000)
 |2=>(by decide:1≤1000000)
 |m+3=>AM4 _
theorem px:∀i j,i<Dh.length→j<Dh.length→i≠j→Ja i≤JZ j∨Ja j≤JZ i:=fun i j hi hj=>by
 have hi':i<3:=hi;have hj':j<3:=hj;clear hi hj
 match i,hi',j,hj' with
 |0,_,0,_=>decide
 |0,_,1,_=>decide
 |0,_,2,_=>decide
 |1,_,0,_=>decide
 |1,_,1,_=>decide
 |1,_,2,_=>decide
 |2,_,0,_=>decide
 |2,_,1,_=>decide
 |2,_,2,_=>decide
 |m+3,h,_,_=>omega
 |_,_,m+3,h=>omega
theorem vP:∀i,i<Dh.length→1≤JZ i∧Ja i≤6:=fun i hi=>by
 have hi':i<3:=hi;clear hi
 match i,hi' with
 |0,_=>decide
 |1,_=>decide
 |2,_=>decide
 |m+3,h=>omega
def DL:List FD:=[⟨[112],Yz,Yp,Yp,Yp,Yp⟩,⟨[113],(Bo Dj),Yp,Yp,Yp,Yp⟩,⟨[115],(Bo Dh),Yp,Yp,Yp,Yp⟩]
def Dr:Nat→List UInt8→Option (CW×List UInt8)
 |0=>rdNum
 |1=>IA Dj Gg Ej
 |_=>IA Dh Gb Ei
def Gx:Nat→Nat
 |0=>0
 |1=>6
 |_=>1
def Gy:Nat→Nat
 |0=>1
 |1=>11
 |_=>6
def C8:Nat→Option CW→J→Array Yu→Prop
 |0=>Cj 0
 |1=>FV 5 Ig Ej
 |_=>FV 3 Ia Ei
def Nc:Nat→Bool
 |0=>Yy
 |1=>(He 5 Ej [])
 |_=>(He 3 Ei [])
def Jc (B gR g gx:Nat) (S:List UInt8) (tx:TypeId) (W0:Nat):Nat→Yu→J→Prop
 |0,v,w=>v=U gx
 |1,v,w=>v=U gx
 |2,v,w=>v=U gx
 |3,v,w=>AZ B gR g gx S tx (rdNum) 0 1 (Cj 0) Yy [112] Yz v w
 |4,v,w=>v=U gx
 |5,v,w=>v=U gx
 |6,v,w=>v=.pointer (Z ⟨gx,6,Y⟩)
 |7,v,w=>Ao B gR g gx S tx W0 Dj Gg Jg Jh Ig Ej v w
 |8,v,w=>AZ B gR g gx S tx (IA Dj Gg Ej) 6 11 (FV 5 Ig Ej) (He 5 Ej []) [113] (Bo Dj) v w
 |9,v,w=>v=U gx
 |10,v,w=>v=U gx
 |11,v,w=>v=.pointer (Z ⟨gx,1,Y⟩)
 |12,v,w=>Ao B gR g gx S tx W0 Dh Gb JZ Ja Ia Ei v w
 |13,v,w=>AZ B gR g gx S tx (IA Dh Gb Ei) 1 6 (FV 3 Ia Ei) (He 3 Ei []) [115] (Bo Dh) v w
 |14,v,w=>Ao B gR g gx S tx W0 DL Dr Gx Gy C8 Nc v w
 |_,_,_=>True
theorem Oa (B gR g gx:Nat) (S:List UInt8) (tx:TypeId) (W0:Nat):∀i v w w',Jc B gR g gx S tx W0 i v w→Later w w'→Jc B gR g gx S tx W0 i v w'
 |0,_,_,_,h,_=>h
 |1,_,_,_,h,_=>h
 |2,_,_,_,h,_=>h
 |3,_,_,_,h,hl=>AZ.later h hl
 |4,_,_,_,h,_=>h
 |5,_,_,_,h,_=>h
 |6,_,_,_,h,_=>h
 |7,_,_,_,h,hl=>Ao.later h hl
 |8,_,_,_,h,hl=>AZ.later h hl
 |9,_,_,_,h,_=>h
 |10,_,_,_,h,_=>h
 |11,_,_,_,h,_=>h
 |12,_,_,_,h,hl=>Ao.later h hl
 |13,_,_,_,h,hl=>AZ.later h hl
 |14,_,_,_,h,hl=>Ao.later h hl
 |n+15,_,_,_,_,_=>trivial
theorem Xm {B gR g gx:Nat} {S:List UInt8} {tx:TypeId} {W:J} (E:Env B gR g gx tx W.heap.size):Yv Yw 168 #[U gx] W fun e w'=>∃v,e=Yi v∧Ao B gR g gx S tx W.heap.size DL Dr Gx Gy C8 Nc v w'∧Later W w':=by go_in;go_wp2_with fail;have hd:=AK4;refine Cm (N:=15) (n:=18) (t:=17) (dN:=2) (Good:=Jc B gR g gx S tx W.heap.size) NA NA rfl (Oa B gR g gx S tx W.heap.size) (fun i hi=>?_) rfl rfl rfl (fun a w=>?_) (fun a w hl hdf hsz hg hr=>?_);(·match i,hi with|0,_=>exact AEN|1,_=>exact AMR|2,_=>refine⟨_,rfl,rfl,fun a w hl hg hs=>?_⟩;have e1:=AIA;exact ALh|3,_=>(refine⟨_,rfl,rfl,fun a w hl hg hs=>?_⟩;have e1:a.tmps.getD 5 Yx=U gx:=hg ⟨2,.data⟩ NC rfl;obtain⟨e1',EW⟩:=AE2;refine APz (f:=172) (args:=#[O (AB [112]),U gx]) ?_ (IE EW [112] 0);exact AJ3)|4,_=>exact AEN|5,_=>exact AMS|6,_=>refine⟨_,rfl,rfl,fun a w hl hg hs=>?_⟩;have e1:=AIB;exact AL3|7,_=>(refine⟨_,rfl,rfl,fun a w hl hg hs=>?_⟩;have e1:a.tmps.getD 9 Yx=.pointer (Z ⟨gx,6,Y⟩):=hg ⟨6,.data⟩ NC rfl;obtain⟨e1',EW⟩:=AE2;refine APz (f:=141) (args:=#[.pointer (Z ⟨gx,6,Y⟩)]) ?_ ((kg (S:=S) (tx:=tx) EW).mono fun e w' hh=>?_);(·go_simp);exact AHT)|8,_=>(refine⟨_,rfl,rfl,fun a w hl hg hs=>?_⟩;have e1:Ao B gR g gx S tx W.heap.size Dj Gg Jg Jh Ig Ej (a.tmps.getD 10 Yx) w:=hg ⟨7,.data⟩ NC rfl;obtain⟨vv,hvv⟩:∃x,a.tmps.getD 10 Yx=x:=⟨_,rfl⟩;rw[hvv] at e1;have e1':=AF hvv;clear hvv;have EW:=AML;refine APz (f:=198) (args:=#[O (AB [113]),vv]) ?_ (MZ EW ⟨E.g1,E.g3⟩ [113] e1 ND Xy rX 6 11 wL);exact AJ3)|9,_=>exact AEN|10,_=>exact AMT|11,_=>exact AMZ|12,_=>(refine⟨_,rfl,rfl,fun a w hl hg hs=>?_⟩;have e1:=AKx;obtain⟨e1',EW⟩:=AE2;refine APz (f:=140) (args:=#[.pointer (Z ⟨gx,1,Y⟩)]) ?_ ((jo (S:=S) (tx:=tx) EW).mono fun e w' hh=>?_);(·go_simp);exact AHT)|13,_=>(refine⟨_,rfl,rfl,fun a w hl hg hs=>?_⟩;have e1:Ao B gR g gx S tx W.heap.size Dh Gb JZ Ja Ia Ei (a.tmps.getD 15 Yx) w:=hg ⟨12,.data⟩ NC rfl;obtain⟨vv,hvv⟩:∃x,a.tmps.getD 15 Yx=x:=⟨_,rfl⟩;rw[hvv] at e1;have e1':=AF hvv;clear hvv;have EW:=AML;refine APz (f:=198) (args:=#[O (AB [115]),vv]) ?_ (MZ EW ⟨E.g1,E.g3⟩ [115] e1 ND Wy px 1 6 vP);exact AJ3)|14,_=>(refine⟨_,rfl,rfl,fun a w hl hg hs=>?_⟩;obtain⟨f0,v0,k0,m0,⟨K0⟩⟩:AZ B gR g gx S tx (rdNum) 0 1 (Cj 0) Yy [112] Yz (a.tmps.getD 6 Yx) w:=hg ⟨3,.data⟩ NC rfl;have t0:=AF v0;obtain⟨mf0,mc0,hmv0⟩:=K0.mval;obtain⟨pf0,pc0,hpv0⟩:=K0.pval;rw[FD.agg,k0,m0,K0.eval_,hmv0,hpv0,K0.gval] at t0;obtain⟨f1,v1,k1,m1,⟨K1⟩⟩:AZ B gR g gx S tx (IA Dj Gg Ej) 6 11 (FV 5 Ig Ej) (He 5 Ej []) [113] (Bo Dj) (a.tmps.getD 11 Yx) w:=hg ⟨8,.data⟩ NC rfl;have t1:=AF v1;obtain⟨mf1,mc1,hmv1⟩:=K1.mval;obtain⟨pf1,pc1,hpv1⟩:=K1.pval;rw[FD.agg,k1,m1,K1.eval_,hmv1,hpv1,K1.gval] at t1;obtain⟨f2,v2,k2,m2,⟨K2⟩⟩:AZ B gR g gx S tx (IA Dh Gb Ei) 1 6 (FV 3 Ia Ei) (He 3 Ei []) [115] (Bo Dh) (a.tmps.getD 16 Yx) w:=hg ⟨13,.data⟩ NC rfl;have t2:=AF v2;obtain⟨mf2,mc2,hmv2⟩:=K2.mval;obtain⟨pf2,pc2,hpv2⟩:=K2.pval;rw[FD.agg,k2,m2,K2.eval_,hmv2,hpv2,K2.gval] at t2;have BN:=APw w #[O (AB [112]),Yl Yz,G (M K0.efn) #[] K0.ecaps,G (M mf0) #[] mc0,G (M pf0) #[] pc0,G (M K0.gfn) #[] K0.gcaps,O (AB [113]),Yl (Bo Dj),G (M K1.efn) #[] K1.ecaps,G (M mf1) #[] mc1,G (M pf1) #[] pc1,G (M K1.gfn) #[] K1.gcaps,O (AB [115]),Yl (Bo Dh),G (M K2.efn) #[] K2.ecaps,G (M mf2) #[] mc2,G (M pf2) #[] pc2,G (M K2.gfn) #[] K2.gcaps] 220;have hF:Em (w.alloc (Yk #[O (AB [112]),Yl Yz,G (M K0.efn) #[] K0.ecaps,G (M mf0) #[] mc0,G (M pf0) #[] pc0,G (M K0.gfn) #[] K0.gcaps,O (AB [113]),Yl (Bo Dj),G (M K1.efn) #[] K1.ecaps,G (M mf1) #[] mc1,G (M pf1) #[] pc1,G (M K1.gfn) #[] K1.gcaps,O (AB [115]),Yl (Bo Dh),G (M K2.efn) #[] K2.ecaps,G (M mf2) #[] mc2,G (M pf2) #[] pc2,G (M K2.gfn) #[] K2.gcaps] 220)) w.heap.size [f0,f1,f2]:=AEU;have hl2:Later w (w.alloc (Yk #[O (AB [112]),Yl Yz,G (M K0.efn) #[] K0.ecaps,G (M mf0) #[] mc0,G (M pf0) #[] pc0,G (M K0.gfn) #[] K0.gcaps,O (AB [113]),Yl (Bo Dj),G (M K1.efn) #[] K1.ecaps,G (M mf1) #[] mc1,G (M pf1) #[] pc1,G (M K1.gfn) #[] K1.gcaps,O (AB [115]),Yl (Bo Dh),G (M K2.efn) #[] K2.ecaps,G (M mf2) #[] mc2,G (M pf2) #[] pc2,G (M K2.gfn) #[] K2.gcaps] 220)):=(ANF _ _).alloc (AMi _) _;have hr:Ao B gR g gx S tx W.heap.size DL Dr Gx Gy C8 Nc (Yh w.heap.size 3 3) (w.alloc (Yk #[O (AB [112]),Yl Yz,G (M K0.efn) #[] K0.ecaps,G (M mf0) #[] mc0,G (M pf0) #[] pc0,G (M K0.gfn) #[] K0.gcaps,O (AB [113]),Yl (Bo Dj),G (M K1.efn) #[] K1.ecaps,G (M mf1) #[] mc1,G (M pf1) #[] pc1,G (M K1.gfn) #[] K1.gcaps,O (AB [115]),Yl (Bo Dh),G (M K2.efn) #[] K2.ecaps,G (M mf2) #[] mc2,G (M pf2) #[] pc2,G (M K2.gfn) #[] K2.gcaps] 220)):=AEe;have HH:=AII;clear hr hl2 hF BN;have hfin:∀r,r=Result.ok (Next.value (Yh w.heap.size 3 3)) (w.alloc (Yk #[O (AB [112]),Yl Yz,G (M K0.efn) #[] K0.ecaps,G (M mf0) #[] mc0,G (M pf0) #[] pc0,G (M K0.gfn) #[] K0.gcaps,O (AB [113]),Yl (Bo Dj),G (M K1.efn) #[] K1.ecaps,G (M mf1) #[] mc1,G (M pf1) #[] pc1,G (M K1.gfn) #[] K1.gcaps,O (AB [115]),Yl (Bo Dh),G (M K2.efn) #[] K2.ecaps,G (M mf2) #[] mc2,G (M pf2) #[] pc2,G (M K2.gfn) #[] K2.gcaps] 220))→AO Yw (Jc B gR g gx S tx W.heap.size 14) w r:=fun r h=>AKm;exact AGe)|m+15,hi=>omega);(·go_simp);have h24:Ao B gR g gx S tx W.heap.size DL Dr Gx Gy C8 Nc (a.tmps.getD 17 Yx) w:=hg 14 ND;have H24:=sq h24;generalize a.tmps.getD 17 Yx=vv at H24⊢;rename_i K hK;refine hK _ _ (APt (AMo (v:=vv) ?_ UU ⟨vv,rfl,H24.o,hd.trans hl⟩));rw[AO6 Tryz.results168];exact AL4
theorem Si:∀i,((DL.getD i fd0).key).length≤1000000
 |0=>(by decide:1≤1000000)
 |1=>(by decide:1≤1000000)
 |2=>(by decide:1≤1000000)
 |m+3=>AM4 _
theorem dO:∀i j,i<DL.length→j<DL.length→i≠j→Gy i≤Gx j∨Gy j≤Gx i:=fun i j hi hj=>by
 have hi':i<3:=hi;have hj':j<3:=hj;clear hi hj
 match i,hi',j,hj' with
 |0,_,0,_=>decide
 |0,_,1,_=>decide
 |0,_,2,_=>decide
 |1,_,0,_=>decide
 |1,_,1,_=>decide
 |1,_,2,_=>decide
 |2,_,0,_=>decide
 |2,_,1,_=>decide
 |2,_,2,_=>decide
 |m+3,h,_,_=>omega
 |_,_,m+3,h=>omega
theorem kL:∀i,i<DL.length→0≤Gx i∧Gy i≤11:=fun i hi=>by
 have hi':i<3:=hi;clear hi
 match i,hi' with
 |0,_=>decide
 |1,_=>decide
 |2,_=>decide
 |m+3,h=>omega
end Full
end Go.Proofs.YtiapejgiinidhaaGreatDoor
