import Derived.Test.YtiapejgiinidhaaGreatDoorMM29
set_option linter.all false
set_option maxRecDepth 100000
set_option maxHeartbeats 40000000
namespace Go.Proofs.YtiapejgiinidhaaGreatDoor
open Value renaming int→Yg,pointer→U,string→O,func→G,slice→Yh,bool→Yl,tuple→Ym
open IntKind renaming i64→Yj
open Obj renaming cells→Yk
open Ending renaming returned→Yi
open Fn renaming func→M
open Go renaming World→J,Value→Yu,Calls→Yv,undef→Yx
open Go.Proofs.Tryz renaming prog→Yw
open Option renaming some→Z,none→Y
open Bool renaming true→Yy,false→Yz
open Go Go.RowKit
def Ea (FDf:List UInt8→Nat→Nat→Nat→Nat→Nat→FD) (key:List UInt8) (tgt:Addr) (m:Nat) (f1 f2:FuncId) (tp t1 t2:TypeId) (f:FD) (w:J):Prop:=
 ∃b1 b2 b3 b4 b5,f=FDf key b1 b2 b3 b4 b5∧AJ w b1 #[.pointer (Z tgt)] tp∧AJ w b2 #[Yg Yj m] 3∧AJ w b3 #[G (M f1) #[] #[]] t1∧AJ w b4 #[G (M f2) #[] #[]] t2
theorem Ea.later {FDf:List UInt8→Nat→Nat→Nat→Nat→Nat→FD} {key:List UInt8} {tgt:Addr} {m:Nat} {f1 f2:FuncId} {tp t1 t2:TypeId} {f:FD} {w w':J} (h:Ea FDf key tgt m f1 f2 tp t1 t2 f w) (hl:Later w w'):Ea FDf key tgt m f1 f2 tp t1 t2 f w':=by obtain⟨b1,b2,b3,b4,b5,h0,h1,h2,h3,h4⟩:=h;exact⟨b1,b2,b3,b4,b5,h0,h1.later hl,h2.later hl,h3.later hl,h4.later hl⟩
def CB (FDf:List UInt8→Nat→FD) (key:List UInt8) (tgt:Addr) (tp:TypeId) (f:FD) (w:J):Prop:=∃b,f=FDf key b∧AJ w b #[.pointer (Z tgt)] tp
theorem CB.later {FDf:List UInt8→Nat→FD} {key:List UInt8} {tgt:Addr} {tp:TypeId} {f:FD} {w w':J} (h:CB FDf key tgt tp f w) (hl:Later w w'):CB FDf key tgt tp f w':=by obtain⟨b,h0,h1⟩:=h;exact⟨b,h0,h1.later hl⟩
def C6 (Q:FD→J→Prop) (v:Yu) (w:J):Prop:=∃f:FD,v=f.agg∧f.fine∧Q f w
theorem C6.later {Q:FD→J→Prop} {v:Yu} {w w':J} (h:C6 Q v w) (hQ:∀f,Q f w→Q f w'):C6 Q v w':=by obtain⟨f,h1,h2,h3⟩:=h;exact⟨f,h1,h2,hQ f h3⟩
theorem Ue (key:List UInt8) (b1 b2 b3 b4 b5:Nat):(CK key b1 b2 b3 b4 b5).fine:=⟨⟨_,_,rfl⟩,⟨_,_,rfl⟩,⟨_,_,rfl⟩,⟨_,_,rfl⟩⟩
def OE (S:Nat→Yu→J→Prop) (key:List UInt8) (gx:Nat) (n:Nat) (f:FD) (w:J):Prop:=
 ∃m lb gl F,f=JI key m lb∧F.length=n∧AJ w lb #[Yh (gl:Nat) n n] 191∧Em w gl F∧S gx (Yh (gl:Nat) n n) w
def LW (gx:Nat) (v:Yu) (w:J):Prop:=∃gl f0 f1 f2 f3 f4,v=Yh (gl:Nat) 5 5∧Em w gl [f0,f1,f2,f3,f4]∧
 (CB Bc [102] ⟨gx,2,Y⟩ 227 f0 w∧CB Bc [107] ⟨gx,4,Y⟩ 227 f1 w∧CB Bc [108] ⟨gx,3,Y⟩ 227 f2 w∧CB DP [114] ⟨gx,0,Y⟩ 224 f3 w∧CB Bc [119] ⟨gx,1,Y⟩ 227 f4 w)
theorem Sm {gx:Nat} {v:Yu} {w w':J} (h:LW gx v w) (hl:Later w w'):LW gx v w':=by obtain⟨gl,f0,f1,f2,f3,f4,e,hf,h0,h1,h2,h3,h4⟩:=h;exact⟨gl,f0,f1,f2,f3,f4,e,hf.later hl,h0.later hl,h1.later hl,h2.later hl,h3.later hl,h4.later hl⟩
def Vc (gx:Nat):Nat→Yu→J→Prop
 |0,v,_=>v=U gx
 |1,v,_=>v=U gx
 |2,v,_=>v=.pointer (Z ⟨gx,2,Y⟩)
 |3,v,w=>C6 (CB Bc [102] ⟨gx,2,Y⟩ 227) v w
 |4,v,_=>v=U gx
 |5,v,_=>v=U gx
 |6,v,_=>v=.pointer (Z ⟨gx,4,Y⟩)
 |7,v,w=>C6 (CB Bc [107] ⟨gx,4,Y⟩ 227) v w
 |8,v,_=>v=U gx
 |9,v,_=>v=U gx
 |10,v,_=>v=.pointer (Z ⟨gx,3,Y⟩)
 |11,v,w=>C6 (CB Bc [108] ⟨gx,3,Y⟩ 227) v w
 |12,v,_=>v=U gx
 |13,v,_=>v=U gx
 |14,v,_=>v=U gx
 |15,v,w=>C6 (CB DP [114] ⟨gx,0,Y⟩ 224) v w
 |16,v,_=>v=U gx
 |17,v,_=>v=U gx
 |18,v,_=>v=.pointer (Z ⟨gx,1,Y⟩)
 |19,v,w=>C6 (CB Bc [119] ⟨gx,1,Y⟩ 227) v w
 |20,v,w=>LW gx v w
 |_,_,_=>True
theorem Vb (gx:Nat):∀i v w w',Vc gx i v w→Later w w'→Vc gx i v w'
 |0,_,_,_,h,_=>h
 |1,_,_,_,h,_=>h
 |2,_,_,_,h,_=>h
 |3,_,_,_,h,hl=>h.later (fun _ h=>h.later hl)
 |4,_,_,_,h,_=>h
 |5,_,_,_,h,_=>h
 |6,_,_,_,h,_=>h
 |7,_,_,_,h,hl=>h.later (fun _ h=>h.later hl)
 |8,_,_,_,h,_=>h
 |9,_,_,_,h,_=>h
 |10,_,_,_,h,_=>h
 |11,_,_,_,h,hl=>h.later (fun _ h=>h.later hl)
 |12,_,_,_,h,_=>h
 |13,_,_,_,h,_=>h
 |14,_,_,_,h,_=>h
 |15,_,_,_,h,hl=>h.later (fun _ h=>h.later hl)
 |16,_,_,_,h,_=>h
 |17,_,_,_,h,_=>h
 |18,_,_,_,h,_=>h
 |19,_,_,_,h,hl=>h.later (fun _ h=>h.later hl)
 |20,_,_,_,h,hl=>Sm h hl
 |n+21,_,_,_,_,_=>trivial
theorem eX (gx:Nat) (W:J):Yv Yw 141 #[U gx] W fun e w'=>∃v,e=Yi v∧LW gx v w'∧Later W w':=by
 go_in;go_wp2_with fail;have hd:=AK4;refine Cm (N:=21) (n:=24) (t:=23) (dN:=2) (Good:=Vc gx) NA NA rfl (Vb _) (fun i hi=>?_) rfl rfl rfl (fun a w=>?_) (fun a w hl hdf hsz hg hr=>?_)
 ·match i,hi with
  |0,_=>exact AEN
  |1,_=>exact AMR
  |2,_=>exact AMY
  |3,_=>refine⟨_,rfl,rfl,fun a w hl hg hs=>?_⟩;have e1:=AH6;have e1':=AJb;refine APz (f:=172) (args:=#[O (AB [102]),.pointer (Z ⟨gx,2,Y⟩)]) ?_ ((Jk [102] ⟨gx,2,Y⟩ w).mono ?_);(exact AJ3);exact AEY
  |4,_=>exact AEN
  |5,_=>exact AMS
  |6,_=>exact AMB
  |7,_=>refine⟨_,rfl,rfl,fun a w hl hg hs=>?_⟩;have e1:=AH5;have e1':=AJb;refine APz (f:=172) (args:=#[O (AB [107]),.pointer (Z ⟨gx,4,Y⟩)]) ?_ ((Jk [107] ⟨gx,4,Y⟩ w).mono ?_);(exact AJ3);exact AEY
  |8,_=>exact AEN
  |9,_=>exact AMW
  |10,_=>refine⟨_,rfl,rfl,fun a w hl hg hs=>?_⟩;have e1:=AH4;exact ALx
  |11,_=>refine⟨_,rfl,rfl,fun a w hl hg hs=>?_⟩;have e1:=AKy;have e1':=AJb;refine APz (f:=172) (args:=#[O (AB [108]),.pointer (Z ⟨gx,3,Y⟩)]) ?_ ((Jk [108] ⟨gx,3,Y⟩ w).mono ?_);(exact AJ3);exact AEY
  |12,_=>exact AEN
  |13,_=>exact AMU
  |14,_=>refine⟨_,rfl,rfl,fun a w hl hg hs=>?_⟩;have e1:a.tmps.getD 16 Yx=U gx:=hg ⟨13,.data⟩ NC rfl;exact ALh
  |15,_=>refine⟨_,rfl,rfl,fun a w hl hg hs=>?_⟩;have e1:a.tmps.getD 17 Yx=U gx:=hg ⟨14,.data⟩ NC rfl;have e1':=AJb;refine APz (f:=157) (args:=#[O (AB [114]),U gx]) ?_ ((Rj [114] ⟨gx,0,Y⟩ w).mono ?_);(exact AJ3);exact AEY
  |16,_=>exact AEN
  |17,_=>exact AMV
  |18,_=>refine⟨_,rfl,rfl,fun a w hl hg hs=>?_⟩;have e1:a.tmps.getD 20 Yx=U gx:=hg ⟨17,.data⟩ NC rfl;exact ALy
  |19,_=>refine⟨_,rfl,rfl,fun a w hl hg hs=>?_⟩;have e1:a.tmps.getD 21 Yx=.pointer (Z ⟨gx,1,Y⟩):=hg ⟨18,.data⟩ NC rfl;have e1':=AJb;refine APz (f:=172) (args:=#[O (AB [119]),.pointer (Z ⟨gx,1,Y⟩)]) ?_ ((Jk [119] ⟨gx,1,Y⟩ w).mono ?_);(exact AJ3);exact AEY
  |20,_=>
   refine⟨_,rfl,rfl,fun a w hl hg hs=>?_⟩;obtain⟨f0,j0,n0,q0⟩:C6 (CB Bc [102] ⟨gx,2,Y⟩ 227) (a.tmps.getD 6 Yx) w:=hg ⟨3,.data⟩ NC rfl;have p0:=AF j0;obtain⟨⟨ef0,ec0,x01⟩,⟨mf0,mc0,x02⟩,⟨pf0,pc0,x03⟩,⟨gf0,gc0,x04⟩⟩:=n0;simp only[FD.agg,x01,x02,x03,x04] at p0;obtain⟨f1,j1,n1,q1⟩:C6 (CB Bc [107] ⟨gx,4,Y⟩ 227) (a.tmps.getD 10 Yx) w:=hg ⟨7,.data⟩ NC rfl;have p1:=AF j1;obtain⟨⟨ef1,ec1,x11⟩,⟨mf1,mc1,x12⟩,⟨pf1,pc1,x13⟩,⟨gf1,gc1,x14⟩⟩:=n1;simp only[FD.agg,x11,x12,x13,x14] at p1;obtain⟨f2,j2,n2,q2⟩:C6 (CB Bc [108] ⟨gx,3,Y⟩ 227) (a.tmps.getD 14 Yx) w:=hg ⟨11,.data⟩ NC rfl;have p2:=AF j2;obtain⟨⟨ef2,ec2,x21⟩,⟨mf2,mc2,x22⟩,⟨pf2,pc2,x23⟩,⟨gf2,gc2,x24⟩⟩:=n2;simp only[FD.agg,x21,x22,x23,x24] at p2;obtain⟨f3,j3,n3,q3⟩:C6 (CB DP [114] ⟨gx,0,Y⟩ 224) (a.tmps.getD 18 Yx) w:=hg ⟨15,.data⟩ NC rfl;have p3:=AF j3;obtain⟨⟨ef3,ec3,x31⟩,⟨mf3,mc3,x32⟩,⟨pf3,pc3,x33⟩,⟨gf3,gc3,x34⟩⟩:=n3;simp only[FD.agg,x31,x32,x33,x34] at p3;obtain⟨f4,j4,n4,q4⟩:C6 (CB Bc [119] ⟨gx,1,Y⟩ 227) (a.tmps.getD 22 Yx) w:=hg ⟨19,.data⟩ NC rfl;have p4:=AF j4;obtain⟨⟨ef4,ec4,x41⟩,⟨mf4,mc4,x42⟩,⟨pf4,pc4,x43⟩,⟨gf4,gc4,x44⟩⟩:=n4;simp only[FD.agg,x41,x42,x43,x44] at p4;obtain⟨cc,hcc⟩:∃cc,cc=(#[O (AB f0.key),Yl f0.must,G (M ef0) #[] ec0,G (M mf0) #[] mc0,G (M pf0) #[] pc0,G (M gf0) #[] gc0,O (AB f1.key),Yl f1.must,G (M ef1) #[] ec1,G (M mf1) #[] mc1,G (M pf1) #[] pc1,G (M gf1) #[] gc1,O (AB f2.key),Yl f2.must,G (M ef2) #[] ec2,G (M mf2) #[] mc2,G (M pf2) #[] pc2,G (M gf2) #[] gc2,O (AB f3.key),Yl f3.must,G (M ef3) #[] ec3,G (M mf3) #[] mc3,G (M pf3) #[] pc3,G (M gf3) #[] gc3,O (AB f4.key),Yl f4.must,G (M ef4) #[] ec4,G (M mf4) #[] mc4,G (M pf4) #[] pc4,G (M gf4) #[] gc4]:Array Yu):=⟨_,rfl⟩;have BN:=APw w cc 220;(have hF:Em (w.alloc (.cells cc 220)) w.heap.size [f0,f1,f2,f3,f4]:=by rw[hcc] at BN⊢;refine⟨BN.lt,fun i hi=>?_⟩;match i,hi with|0,_=>exact AFD|1,_=>exact AFC|2,_=>exact AFB|3,_=>exact⟨BN.cell 18 rfl,BN.cell 19 rfl,(BN.cell 20 rfl).trans (ANb Z x31.symm),(BN.cell 21 rfl).trans (ANb Z x32.symm),(BN.cell 22 rfl).trans (ANb Z x33.symm),(BN.cell 23 rfl).trans (ANb Z x34.symm)⟩|4,_=>exact⟨BN.cell 24 rfl,BN.cell 25 rfl,(BN.cell 26 rfl).trans (ANb Z x41.symm),(BN.cell 27 rfl).trans (ANb Z x42.symm),(BN.cell 28 rfl).trans (ANb Z x43.symm),(BN.cell 29 rfl).trans (ANb Z x44.symm)⟩|m+5,hi=>exact absurd (show m+5<5 from hi) KA);have hl2:=AMI
   have hr:LW gx (Yh w.heap.size 5 5) (w.alloc (.cells cc 220)):=
    ⟨w.heap.size,f0,f1,f2,f3,f4,rfl,hF,q0.later hl2,q1.later hl2,q2.later hl2,q3.later hl2,q4.later hl2⟩
   have HH:=AII;rw[hcc] at HH;clear hr hl2 hF BN q0 j0 q1 j1 q2 j2 q3 j3 q4 j4 hcc;have hfin:∀r,r=Result.ok (Next.value (Yh w.heap.size 5 5)) (w.alloc (Yk #[O (AB f0.key),Yl f0.must,G (M ef0) #[] ec0,G (M mf0) #[] mc0,G (M pf0) #[] pc0,G (M gf0) #[] gc0,O (AB f1.key),Yl f1.must,G (M ef1) #[] ec1,G (M mf1) #[] mc1,G (M pf1) #[] pc1,G (M gf1) #[] gc1,O (AB f2.key),Yl f2.must,G (M ef2) #[] ec2,G (M mf2) #[] mc2,G (M pf2) #[] pc2,G (M gf2) #[] gc2,O (AB f3.key),Yl f3.must,G (M ef3) #[] ec3,G (M mf3) #[] mc3,G (M pf3) #[] pc3,G (M gf3) #[] gc3,O (AB f4.key),Yl f4.must,G (M ef4) #[] ec4,G (M mf4) #[] mc4,G (M pf4) #[] pc4,G (M gf4) #[] gc4] 220))→AO Yw (Vc gx 20) w r:=fun r h=>AKm;exact AGe
  |m+21,hi=>omega
 (·go_simp);have h24:LW gx (a.tmps.getD 23 Yx) w:=hg 20 ND;exact AGG
def GP (gx:Nat) (v:Yu) (w:J):Prop:=∃gl f0 f1 f2,v=Yh (gl:Nat) 3 3∧Em w gl [f0,f1,f2]∧
 (CB Bc [105] ⟨gx,2,Y⟩ 227 f0 w∧Ea CK [112] ⟨gx,4,Y⟩ 16 217 218 222 291 293 f1 w∧Ea CK [118] ⟨gx,3,Y⟩ 67 217 218 222 291 293 f2 w)
theorem Ec {gx:Nat} {v:Yu} {w w':J} (h:GP gx v w) (hl:Later w w'):GP gx v w':=by obtain⟨gl,f0,f1,f2,e,hf,h0,h1,h2⟩:=h;exact⟨gl,f0,f1,f2,e,hf.later hl,h0.later hl,h1.later hl,h2.later hl⟩
theorem Ir (S:Nat→Yu→J→Prop) {key:List UInt8} {gx n:Nat} {f:FD} {w w':J} (hS:∀g v a b,S g v a→Later a b→S g v b) (h:OE S key gx n f w) (hl:Later w w'):OE S key gx n f w':=by obtain⟨m,lb,gl,F,h0,h1,h2,h3,h4⟩:=h;exact⟨m,lb,gl,F,h0,h1,h2.later hl,h3.later hl,hS _ _ _ _ h4 hl⟩
def iI (gx:Nat):Nat→Yu→J→Prop
 |0,v,_=>v=.pointer (Z ⟨gx,2,Y⟩)
 |1,v,_=>v=.pointer (Z ⟨gx,2,Y⟩)
 |2,v,_=>v=.pointer (Z ⟨gx,2,Y⟩)
 |3,v,w=>C6 (CB Bc [105] ⟨gx,2,Y⟩ 227) v w
 |4,v,_=>v=.pointer (Z ⟨gx,2,Y⟩)
 |5,v,_=>v=.pointer (Z ⟨gx,2,Y⟩)
 |6,v,_=>v=.pointer (Z ⟨gx,4,Y⟩)
 |7,v,w=>C6 (Ea CK [112] ⟨gx,4,Y⟩ 16 217 218 222 291 293) v w
 |8,v,_=>v=.pointer (Z ⟨gx,2,Y⟩)
 |9,v,_=>v=.pointer (Z ⟨gx,2,Y⟩)
 |10,v,_=>v=.pointer (Z ⟨gx,3,Y⟩)
 |11,v,w=>C6 (Ea CK [118] ⟨gx,3,Y⟩ 67 217 218 222 291 293) v w
 |12,v,w=>GP gx v w
 |_,_,_=>True
theorem XL (gx:Nat):∀i v w w',iI gx i v w→Later w w'→iI gx i v w'
 |0,_,_,_,h,_=>h
 |1,_,_,_,h,_=>h
 |2,_,_,_,h,_=>h
 |3,_,_,_,h,hl=>h.later (fun _ h=>h.later hl)
 |4,_,_,_,h,_=>h
 |5,_,_,_,h,_=>h
 |6,_,_,_,h,_=>h
 |7,_,_,_,h,hl=>h.later (fun _ h=>h.later hl)
 |8,_,_,_,h,_=>h
 |9,_,_,_,h,_=>h
 |10,_,_,_,h,_=>h
 |11,_,_,_,h,hl=>h.later (fun _ h=>h.later hl)
 |12,_,_,_,h,hl=>Ec h hl
 |n+13,_,_,_,_,_=>trivial
theorem lF (gx:Nat) (W:J):Yv Yw 199 #[.pointer (Z ⟨gx,2,Y⟩)] W fun e w'=>∃v,e=Yi v∧GP gx v w'∧Later W w':=by
 go_in;go_wp2_with fail;have hd:=AK4;refine Cm (N:=13) (n:=16) (t:=15) (dN:=2) (Good:=iI gx) NA NA rfl (XL _) (fun i hi=>?_) rfl rfl rfl (fun a w=>?_) (fun a w hl hdf hsz hg hr=>?_)
 ·match i,hi with
  |0,_=>exact ALt
  |1,_=>refine⟨_,rfl,rfl,fun a w hl hg hs=>?_⟩;have e1:a.tmps.getD 3 Yx=.pointer (Z ⟨gx,2,Y⟩):=hg ⟨0,.data⟩ NC rfl;exact ALz
  |2,_=>refine⟨_,rfl,rfl,fun a w hl hg hs=>?_⟩;have e1:a.tmps.getD 4 Yx=.pointer (Z ⟨gx,2,Y⟩):=hg ⟨1,.data⟩ NC rfl;exact ALz
  |3,_=>refine⟨_,rfl,rfl,fun a w hl hg hs=>?_⟩;have e1:=AH6;have e1':=AJb;refine APz (f:=172) (args:=#[O (AB [105]),.pointer (Z ⟨gx,2,Y⟩)]) ?_ ((Jk [105] ⟨gx,2,Y⟩ w).mono ?_);(exact AJ3);exact AEY
  |4,_=>exact ALt
  |5,_=>refine⟨_,rfl,rfl,fun a w hl hg hs=>?_⟩;have e1:a.tmps.getD 7 Yx=.pointer (Z ⟨gx,2,Y⟩):=hg ⟨4,.data⟩ NC rfl;exact ALz
  |6,_=>refine⟨_,rfl,rfl,fun a w hl hg hs=>?_⟩;have e1:a.tmps.getD 8 Yx=.pointer (Z ⟨gx,2,Y⟩):=hg ⟨5,.data⟩ NC rfl;exact AGL
  |7,_=>refine⟨_,rfl,rfl,fun a w hl hg hs=>?_⟩;have e1:=AH5;have e1':=AJb;refine APz (f:=156) (args:=#[O (AB [112]),.pointer (Z ⟨gx,4,Y⟩),Yg Yj 16]) ?_ ((Py [112] ⟨gx,4,Y⟩ 16 w).mono ?_);(exact AJ3);exact AHo
  |8,_=>exact ALt
  |9,_=>refine⟨_,rfl,rfl,fun a w hl hg hs=>?_⟩;have e1:a.tmps.getD 11 Yx=.pointer (Z ⟨gx,2,Y⟩):=hg ⟨8,.data⟩ NC rfl;exact ALz
  |10,_=>refine⟨_,rfl,rfl,fun a w hl hg hs=>?_⟩;have e1:a.tmps.getD 12 Yx=.pointer (Z ⟨gx,2,Y⟩):=hg ⟨9,.data⟩ NC rfl;exact ALx
  |11,_=>refine⟨_,rfl,rfl,fun a w hl hg hs=>?_⟩;have e1:=AKy;have e1':=AJb;refine APz (f:=156) (args:=#[O (AB [118]),.pointer (Z ⟨gx,3,Y⟩),Yg Yj 67]) ?_ ((Py [118] ⟨gx,3,Y⟩ 67 w).mono ?_);(exact AJ3);exact AHo
  |12,_=>
   refine⟨_,rfl,rfl,fun a w hl hg hs=>?_⟩;obtain⟨f0,j0,n0,q0⟩:C6 (CB Bc [105] ⟨gx,2,Y⟩ 227) (a.tmps.getD 6 Yx) w:=hg ⟨3,.data⟩ NC rfl;have p0:=AF j0;obtain⟨⟨ef0,ec0,x01⟩,⟨mf0,mc0,x02⟩,⟨pf0,pc0,x03⟩,⟨gf0,gc0,x04⟩⟩:=n0;simp only[FD.agg,x01,x02,x03,x04] at p0;obtain⟨f1,j1,n1,q1⟩:C6 (Ea CK [112] ⟨gx,4,Y⟩ 16 217 218 222 291 293) (a.tmps.getD 10 Yx) w:=hg ⟨7,.data⟩ NC rfl;have p1:=AF j1;obtain⟨⟨ef1,ec1,x11⟩,⟨mf1,mc1,x12⟩,⟨pf1,pc1,x13⟩,⟨gf1,gc1,x14⟩⟩:=n1;simp only[FD.agg,x11,x12,x13,x14] at p1;obtain⟨f2,j2,n2,q2⟩:C6 (Ea CK [118] ⟨gx,3,Y⟩ 67 217 218 222 291 293) (a.tmps.getD 14 Yx) w:=hg ⟨11,.data⟩ NC rfl;have p2:=AF j2;obtain⟨⟨ef2,ec2,x21⟩,⟨mf2,mc2,x22⟩,⟨pf2,pc2,x23⟩,⟨gf2,gc2,x24⟩⟩:=n2;simp only[FD.agg,x21,x22,x23,x24] at p2;obtain⟨cc,hcc⟩:∃cc,cc=(#[O (AB f0.key),Yl f0.must,G (M ef0) #[] ec0,G (M mf0) #[] mc0,G (M pf0) #[] pc0,G (M gf0) #[] gc0,O (AB f1.key),Yl f1.must,G (M ef1) #[] ec1,G (M mf1) #[] mc1,G (M pf1) #[] pc1,G (M gf1) #[] gc1,O (AB f2.key),Yl f2.must,G (M ef2) #[] ec2,G (M mf2) #[] mc2,G (M pf2) #[] pc2,G (M gf2) #[] gc2]:Array Yu):=⟨_,rfl⟩;obtain⟨BN,hF,hl2⟩:=AEc
   have hr:GP gx (Yh w.heap.size 3 3) (w.alloc (.cells cc 220)):=
    ⟨w.heap.size,f0,f1,f2,rfl,hF,q0.later hl2,q1.later hl2,q2.later hl2⟩
   have HH:=AII;rw[hcc] at HH;clear hr hl2 hF BN q0 j0 q1 j1 q2 j2 hcc;have hfin:∀r,r=Result.ok (Next.value (Yh w.heap.size 3 3)) (w.alloc (Yk #[O (AB f0.key),Yl f0.must,G (M ef0) #[] ec0,G (M mf0) #[] mc0,G (M pf0) #[] pc0,G (M gf0) #[] gc0,O (AB f1.key),Yl f1.must,G (M ef1) #[] ec1,G (M mf1) #[] mc1,G (M pf1) #[] pc1,G (M gf1) #[] gc1,O (AB f2.key),Yl f2.must,G (M ef2) #[] ec2,G (M mf2) #[] mc2,G (M pf2) #[] pc2,G (M gf2) #[] gc2] 220))→AO Yw (iI gx 12) w r:=fun r h=>AKm;exact AGe
  |m+13,hi=>omega
 (·go_simp);have h24:GP gx (a.tmps.getD 15 Yx) w:=hg 12 ND;exact AGF
theorem XJ {gx:Nat} {w:J} {f0 f1 f2:FD} (h0:CB Bc [105] ⟨gx,2,Y⟩ 227 f0 w) (h1:Ea CK [112] ⟨gx,4,Y⟩ 16 217 218 222 291 293 f1 w) (h2:Ea CK [118] ⟨gx,3,Y⟩ 67 217 218 222 291 293 f2 w):∀i,i<[f0,f1,f2].length→(∃fn caps,([f0,f1,f2].getD i fd0).emp=G (M fn) #[] caps)∧(∃fn caps,([f0,f1,f2].getD i fd0).may=G (M fn) #[] caps)∧(∃fn caps,([f0,f1,f2].getD i fd0).put=G (M fn) #[] caps)∧∃fn caps,([f0,f1,f2].getD i fd0).get=G (M fn) #[] caps:=by obtain⟨_,rfl,_⟩:=h0;obtain⟨_,_,_,_,_,rfl,_⟩:=h1;obtain⟨_,_,_,_,_,rfl,_⟩:=h2;intro i hi;match i,hi with|0,_=>exact AHr|1,_=>exact AHr|2,_=>exact AHr|m+3,hi=>exact absurd (show m+3<3 from hi) KA
def LH (gx:Nat) (v:Yu) (w:J):Prop:=∃gl f0 f1 f2,v=Yh (gl:Nat) 3 3∧Em w gl [f0,f1,f2]∧
 (OE GP [103] gx 3 f0 w∧CB Bc [108] ⟨gx,0,Y⟩ 227 f1 w∧CB FC [115] ⟨gx,1,Y⟩ 268 f2 w)
theorem Sc {gx:Nat} {v:Yu} {w w':J} (h:LH gx v w) (hl:Later w w'):LH gx v w':=by obtain⟨gl,f0,f1,f2,e,hf,h0,h1,h2⟩:=h;exact⟨gl,f0,f1,f2,e,hf.later hl,Ir (GP) (fun _ _ _ _ h hl=>Ec h hl) h0 hl,h1.later hl,h2.later hl⟩
def U0 (gx:Nat):Nat→Yu→J→Prop
 |0,v,_=>v=U gx
 |1,v,_=>v=U gx
 |2,v,_=>v=.pointer (Z ⟨gx,2,Y⟩)
 |3,v,w=>GP gx v w
 |4,v,w=>C6 (OE GP [103] gx 3) v w
 |5,v,_=>v=U gx
 |6,v,_=>v=U gx
 |7,v,_=>v=U gx
 |8,v,w=>C6 (CB Bc [108] ⟨gx,0,Y⟩ 227) v w
 |9,v,_=>v=U gx
 |10,v,_=>v=U gx
 |11,v,_=>v=.pointer (Z ⟨gx,1,Y⟩)
 |12,v,w=>C6 (CB FC [115] ⟨gx,1,Y⟩ 268) v w
 |13,v,w=>LH gx v w
 |_,_,_=>True
theorem Uz (gx:Nat):∀i v w w',U0 gx i v w→Later w w'→U0 gx i v w'
 |0,_,_,_,h,_=>h
 |1,_,_,_,h,_=>h
 |2,_,_,_,h,_=>h
 |3,_,_,_,h,hl=>Ec h hl
 |4,_,_,_,h,hl=>h.later (fun _ h=>Ir _ (fun _ _ _ _ h hl=>Ec h hl) h hl)
 |5,_,_,_,h,_=>h
 |6,_,_,_,h,_=>h
 |7,_,_,_,h,_=>h
 |8,_,_,_,h,hl=>h.later (fun _ h=>h.later hl)
 |9,_,_,_,h,_=>h
 |10,_,_,_,h,_=>h
 |11,_,_,_,h,_=>h
 |12,_,_,_,h,hl=>h.later (fun _ h=>h.later hl)
 |13,_,_,_,h,hl=>Sc h hl
 |n+14,_,_,_,_,_=>trivial
theorem eW (gx:Nat) (W:J):Yv Yw 140 #[U gx] W fun e w'=>∃v,e=Yi v∧LH gx v w'∧Later W w':=by
 go_in;go_wp2_with fail;have hd:=AK4;refine Cm (N:=14) (n:=17) (t:=16) (dN:=2) (Good:=U0 gx) NA NA rfl (Uz _) (fun i hi=>?_) rfl rfl rfl (fun a w=>?_) (fun a w hl hdf hsz hg hr=>?_)
 ·match i,hi with
  |0,_=>exact AEN
  |1,_=>exact AMR
  |2,_=>exact AMY
  |3,_=>refine⟨_,rfl,rfl,fun a w hl hg hs=>?_⟩;have e1:=AH6;have e1':=AJb;refine APz (f:=199) (args:=#[.pointer (Z ⟨gx,2,Y⟩)]) ?_ ((lF gx w).mono fun e w' hh=>?_);(·go_simp);obtain⟨v,h1,h2,h3⟩:=hh;exact⟨v,h1,h2,h3⟩
  |4,_=>refine⟨_,rfl,rfl,fun a w hl hg hs=>?_⟩;have e1:GP gx (a.tmps.getD 6 Yx) w:=hg ⟨3,.data⟩ NC rfl;obtain⟨vv,hvv⟩:∃x,a.tmps.getD 6 Yx=x:=⟨_,rfl⟩;rw[hvv] at e1;have e1':=AF hvv;clear hvv;have e2:=e1;obtain⟨gl,f0,f1,f2,rfl,hF,h0,h1,h2⟩:=e1;refine APz (f:=198) (args:=#[O (AB [103]),Yh gl 3 3]) ?_ ((RM [103] [f0,f1,f2] gl w hF (by show 3<100;decide) (XJ h0 h1 h2)).mono ?_);(exact AJ3);rintro e w' ⟨v,rfl,⟨lb,rfl,hb,_⟩,hlt⟩;exact⟨_,rfl,⟨_,rfl,⟨⟨_,_,rfl⟩,⟨_,_,rfl⟩,⟨_,_,rfl⟩,⟨_,_,rfl⟩⟩,_,lb,gl,_,rfl,rfl,hb,hF.later hlt,Ec e2 hlt⟩,hlt⟩
  |5,_=>exact AEN
  |6,_=>refine⟨_,rfl,rfl,fun a w hl hg hs=>?_⟩;have e1:=AIB;exact ALh
  |7,_=>refine⟨_,rfl,rfl,fun a w hl hg hs=>?_⟩;have e1:a.tmps.getD 9 Yx=U gx:=hg ⟨6,.data⟩ NC rfl;exact ALh
  |8,_=>refine⟨_,rfl,rfl,fun a w hl hg hs=>?_⟩;have e1:a.tmps.getD 10 Yx=U gx:=hg ⟨7,.data⟩ NC rfl;have e1':=AJb;refine APz (f:=172) (args:=#[O (AB [108]),U gx]) ?_ ((Jk [108] ⟨gx,0,Y⟩ w).mono ?_);(exact AJ3);exact AEY
  |9,_=>exact AEN
  |10,_=>exact AMT
  |11,_=>exact AMZ
  |12,_=>refine⟨_,rfl,rfl,fun a w hl hg hs=>?_⟩;have e1:=AKx;have e1':=AJb;refine APz (f:=200) (args:=#[O (AB [115]),.pointer (Z ⟨gx,1,Y⟩)]) ?_ ((aY [115] ⟨gx,1,Y⟩ w).mono ?_);(exact AJ3);exact AEY
  |13,_=>
   refine⟨_,rfl,rfl,fun a w hl hg hs=>?_⟩;obtain⟨f0,j0,n0,q0⟩:C6 (OE GP [103] gx 3) (a.tmps.getD 7 Yx) w:=hg ⟨4,.data⟩ NC rfl;have p0:=AF j0;obtain⟨⟨ef0,ec0,x01⟩,⟨mf0,mc0,x02⟩,⟨pf0,pc0,x03⟩,⟨gf0,gc0,x04⟩⟩:=n0;simp only[FD.agg,x01,x02,x03,x04] at p0;obtain⟨f1,j1,n1,q1⟩:C6 (CB Bc [108] ⟨gx,0,Y⟩ 227) (a.tmps.getD 11 Yx) w:=hg ⟨8,.data⟩ NC rfl;have p1:=AF j1;obtain⟨⟨ef1,ec1,x11⟩,⟨mf1,mc1,x12⟩,⟨pf1,pc1,x13⟩,⟨gf1,gc1,x14⟩⟩:=n1;simp only[FD.agg,x11,x12,x13,x14] at p1;obtain⟨f2,j2,n2,q2⟩:C6 (CB FC [115] ⟨gx,1,Y⟩ 268) (a.tmps.getD 15 Yx) w:=hg ⟨12,.data⟩ NC rfl;have p2:=AF j2;obtain⟨⟨ef2,ec2,x21⟩,⟨mf2,mc2,x22⟩,⟨pf2,pc2,x23⟩,⟨gf2,gc2,x24⟩⟩:=n2;simp only[FD.agg,x21,x22,x23,x24] at p2;obtain⟨cc,hcc⟩:∃cc,cc=(#[O (AB f0.key),Yl f0.must,G (M ef0) #[] ec0,G (M mf0) #[] mc0,G (M pf0) #[] pc0,G (M gf0) #[] gc0,O (AB f1.key),Yl f1.must,G (M ef1) #[] ec1,G (M mf1) #[] mc1,G (M pf1) #[] pc1,G (M gf1) #[] gc1,O (AB f2.key),Yl f2.must,G (M ef2) #[] ec2,G (M mf2) #[] mc2,G (M pf2) #[] pc2,G (M gf2) #[] gc2]:Array Yu):=⟨_,rfl⟩;obtain⟨BN,hF,hl2⟩:=AEc
   have hr:LH gx (Yh w.heap.size 3 3) (w.alloc (.cells cc 220)):=
    ⟨w.heap.size,f0,f1,f2,rfl,hF,Ir _ (fun _ _ _ _ h hl=>Ec h hl) q0 hl2,q1.later hl2,q2.later hl2⟩
   have HH:=AII;rw[hcc] at HH;clear hr hl2 hF BN q0 j0 q1 j1 q2 j2 hcc;have hfin:∀r,r=Result.ok (Next.value (Yh w.heap.size 3 3)) (w.alloc (Yk #[O (AB f0.key),Yl f0.must,G (M ef0) #[] ec0,G (M mf0) #[] mc0,G (M pf0) #[] pc0,G (M gf0) #[] gc0,O (AB f1.key),Yl f1.must,G (M ef1) #[] ec1,G (M mf1) #[] mc1,G (M pf1) #[] pc1,G (M gf1) #[] gc1,O (AB f2.key),Yl f2.must,G (M ef2) #[] ec2,G (M mf2) #[] mc2,G (M pf2) #[] pc2,G (M gf2) #[] gc2] 220))→AO Yw (U0 gx 13) w r:=fun r h=>AKm;exact AGe
  |m+14,hi=>omega
 (·go_simp);have h24:LH gx (a.tmps.getD 16 Yx) w:=hg 13 ND;exact AGH
theorem nK (g o:Nat) (s:List UInt8) (W:J) (h:W.cell? ⟨g,o,Y⟩=Z (O (AB s))) (hl:g<W.heap.size) (hs:s.length=32):Yv Yw 217 #[.pointer (Z ⟨g,o,Y⟩)] W fun e w'=>e=Yi (Yl Yy)∧But [] W w':=by have hsz:=AQ s;rw[hs] at hsz;clear hs;exact AMD
theorem ABV (b3:Nat) (s:List UInt8) (W:J) (h:AJ W b3 #[G (M 217) #[] #[]] 291) (hs:s.length=32):Yv Yw 301 #[O (AB s),U b3] W fun e w'=>e=Yi (Yl Yz)∧But [] W w':=by have hfn:∀args W',(callFunc 217 args).run Yw W'=.ok (.enter 217 args) W':=fun _ _=>rfl;have X:=APw W #[O (AB s)] 9;have B:=sq ((APu [] W).alloc (Yk #[O (AB s)] 9));have c0:=h.cell 0 rfl;have hl:=h.lt;have CY:=sq (nK W.heap.size 0 s (W.alloc (Yk #[O (AB s)] 9)) (X.cell 0 rfl) X.lt hs);clear h hs X;generalize AB s=z at*;go_in;go_wp2_with fail;refine CY.o.mono ?_;exact AMF
theorem sQ (l:List (List UInt8)) (A:Option Addr) (c m:Nat) (b1 b2 b3 gx k:Nat) (W:J) (h1:AJ W b1 #[.pointer (Z ⟨gx,k,Y⟩)] 222) (h2:AJ W b2 #[Yg Yj m] 3) (h3:AJ W b3 #[G (M 217) #[] #[]] 291)
  (hg:gx<W.heap.size) (hx:W.cell? ⟨gx,k,Y⟩=Z (.slice A l.length c)) (hT:Dy W A l) (hc:l.length≤c) (hm:l.length≤m) (hm2:m<100000) (hs:∀s∈l,s.length=32):
  Yv Yw 300 #[U b1,U b2,U b3] W fun e w'=>e=Yi (Yl Yy)∧But [] W w':=by
 have hmf:=Ch;have c0:Shut (∀W',But [] W W'→W'.cell? b1=Z (.pointer (Z ⟨gx,k,Y⟩))):=⟨fun W' hb=>(h1.but hb NC).cell 0 rfl⟩;have c1:Shut (∀W',But [] W W'→W'.cell? b2=Z (Yg Yj m)):=⟨fun W' hb=>(h2.but hb NC).cell 0 rfl⟩;have cx:Shut (∀W',But [] W W'→W'.cell? ⟨gx,k,Y⟩=Z (.slice A l.length c)):=⟨fun W' hb=>(AMg (hb.block _ hg NC)).trans hx⟩
 have CF:Shut (∀W',But [] W W'→Yv Yw 184 #[.slice A l.length c,G (M 301) #[] #[U b3]] W' fun e w'=>e=Yi (Yl Yz)∧But [] W' w'):=⟨fun W' hb=>
  Ju l A c 301 _ W' (hT.but hb) hc KA (fun _ _=>rfl) (fun i W'' hi hb'=>ABV b3 _ W'' (h3.but (hb.trans hb') NC) (by
   rw[AMd,AMe hi];exact hs _ (ANZ _)))⟩
 generalize l.length=n at*;have hnm:(n:Int)≤(m:Int):=KA;clear h1 h2 hg hx h3 hT hs hc hm hm2;go_in;go_wp2_with fail;have hd:=AG9;refine KJ NA ?_;refine KC 0 (h:=Y9) ?_;refine KC 1 ?_;refine KC 2 (h:=ZA) ?_;refine KC 3 ?_;refine KC 4 (h:=by intro W1 hl;have e0:=c1.o _ (hd.trans hl);go_simp<;>with_reducible rfl) ?_;refine KC 5 (v:=Yl Yy) ?_;refine KC 6 (v:=Yl Yy) ?_;refine KC 7 (h:=Y9) ?_;refine KC 8 ?_;refine KC 9 (h:=ZA) ?_;refine KC 10 (v:=G (M 301) #[] #[U b3]) ?_;refine AAk 11 (v:=Yl Yz) (fun W1 hl=>CF.o W1 (hd.trans hl)) ?_;refine KC 12 (v:=Yl Yy) ?_;refine KC 13 (v:=Yl Yy) ?_;refine KC 14 (v:=Yl Yy) ?_;refine LM NA ?_ _;intro w8 hb8;replace hd:=hd.trans hb8;have HD:=sq hd;clear hb8 hd;go_wp2_with fail;go_ret;exact⟨rfl,HD.o⟩
def xe (s:List UInt8):List UInt8:=AR 1 s.length++s
def EZ (l:List (List UInt8)) (k:Nat):List UInt8:=((l.take k).map xe).flatten
theorem ai (l:List (List UInt8)) (k:Nat) (h:k<l.length):EZ l (k+1)=EZ l k++xe l[k]:=by unfold EZ;rw[ANn h,ANR,ANz,ANi,AOG,List.flatten_cons,List.flatten_nil,AM2]
theorem nJ (l:List (List UInt8)) (k:Nat):(EZ l k).length≤(EZ l l.length).length:=by unfold EZ;(conv=>rhs;rw[AOb]);(conv=>rhs;rw[←AN3 k l]);rw[ANR,ANz,AMf];omega
theorem ABE (g base gc j:Nat) (s bs:List UInt8) (W:J) (hO:Uh g base bs W) (hl:bs.length<80000) (hs:s.length=32) (hgc:gc<W.heap.size) (hx:W.cell? ⟨gc,j,Y⟩=Z (O (AB s))):
  Yv Yw 218 #[U g,.pointer (Z ⟨gc,j,Y⟩)] W (EE g base (bs++xe s) (Ym #[]) W):=by have CN:=sq (Wg s g base bs W hO hl KA (by rw[hs];have:(AR 1 32).length=2:=NA;omega));rw[ANA,show AR 1 s.length++s=xe s from rfl] at CN;clear hO hs;exact AE4
theorem rF (l:List (List UInt8)) (gc oc n c n0 b1 b4 gx k g base:Nat) (bs:List UInt8) (W:J) (hn:n=l.length) (hnl:n<1000) (hs:∀s∈l,s.length=32) (hg:n0≤g∧n0≤base) (hn0:n0≤W.heap.size)
  (hF:∀W',Below n0 W W'→(W'.cell? b1=Z (.pointer (Z ⟨gx,k,Y⟩))∧b1<W'.heap.size)∧(W'.cell? b4=Z (G (M 218) #[] #[])∧b4<W'.heap.size)∧
   (W'.cell? ⟨gx,k,Y⟩=Z (.slice (Z ⟨gc,oc,Y⟩) n c)∧gx<W'.heap.size)∧(∀i (hi:i<l.length),W'.cell? ⟨gc,oc+i,Y⟩=Z (O (AB l[i])))∧gc<W'.heap.size)
  (hO:Uh g base bs W) (hl:bs.length+(AR 3 n++EZ l n).length<50000):
  Yv Yw 302 #[U g,U b1,U b4] W (EE g base (bs++(AR 3 n++EZ l n)) (Ym #[]) W):=by
 have hfn:∀args W',(callFunc 218 args).run Yw W'=.ok (.enter 218 args) W':=fun _ _=>rfl;have HF:=sq hF;have HG:=sq (AMc hg hn0);have HL:=sq hl;have HS:=sq (AMc hn hs);obtain⟨⟨e1,l1⟩,⟨e4,l4⟩,⟨ex,lx⟩,ec,lc⟩:=hF W (ANF _ _);have CL:=sq (jT n g base bs W hO KA KA);have HO:=sq hO;clear hF hg hn0 hO hl ec hn hs;go_in;go_wp2_with fail;refine CL.o.mono ?_;rintro e w1 ⟨rfl,hw1,hk1⟩;have HO1:=sq (HO.o.next hw1 hk1);have HK1:=sq hk1;clear hw1 hk1 e1 l1 e4 l4 ex lx lc
 have HF1:Shut (∀W',WK g base w1 W'→(W'.cell? b1=Z (.pointer (Z ⟨gx,k,Y⟩))∧b1<W'.heap.size)∧(W'.cell? b4=Z (G (M 218) #[] #[])∧b4<W'.heap.size)∧
   (W'.cell? ⟨gx,k,Y⟩=Z (.slice (Z ⟨gc,oc,Y⟩) n c)∧gx<W'.heap.size)∧(∀i (hi:i<l.length),W'.cell? ⟨gc,oc+i,Y⟩=Z (O (AB l[i])))∧gc<W'.heap.size):=⟨fun W' hk=>HF.o W' ((HK1.o.trans hk).below0 HG.o.2 HG.o.1.1 HG.o.1.2)⟩
 obtain⟨⟨e1,l1⟩,⟨e4,l4⟩,⟨ex,lx⟩,ec,lc⟩:=HF1.o w1 (WK.refl _ _ _);clear ec;go_wp2_with fail;go_loopw [15] (fun k wr=>∃j:Nat,k=Yg Yj j∧j≤n∧Uh g base (bs++AR 3 n++EZ l j) wr∧WK g base w1 wr) (fun k _=>n-(intOf k).toNat);(case atStart=>exact⟨0,rfl,KA,by simpa [EZ] using HO1.o,WK.refl _ _ _⟩);case round=>clear e1 l1 e4 l4 ex lx lc;obtain⟨j,rfl,hj,hok,hwk⟩:=hrel;have HOK:=sq hok;have HWK:=sq hwk;by_cases hjm:j<n;(·have hjm':((j:Int)<(n:Int)):=KA;obtain⟨⟨e1,l1⟩,⟨e4,l4⟩,⟨ex,lx⟩,ec,lc⟩:=HF1.o wr hwk;(have hjl:j<l.length:=by rw[←HS.o.1];exact hjm);have HLJ:Shut ((bs++AR 3 n++EZ l j).length<80000):=⟨by have h:=HL.o;have h2:=nJ l j;rw[←HS.o.1] at h2;simp only[AMf] at h⊢;omega⟩;have hcj:=ec j hjl;have CP:=sq (fun w' (hw:But [] wr w')=>ABE g base gc (oc+j) l[j] _ w' (HOK.o.but hw) HLJ.o (HS.o.2 _ (ANZ _)) (AMn lc hw.size) ((AMg (hw.block _ lc NC)).trans hcj));have HTJ:=sq (ai l j hjl);clear hok hwk ec hcj;generalize l[j]=s at*;clear hjl;go_wp2_with fail;go_still_tail 7,NA;have HD:Shut (But [] wr wr.drew):=⟨(APu [] wr).drew⟩;have CP2:=sq (CP.o wr.drew HD.o);have HOD:=sq (HOK.o.but HD.o);have HKD:=sq (HWK.o.trans (AP2 HD.o NC));clear CP HD e1 l1 e4 l4 ex lx lc;change wpList _ _ _ _ _ wr.drew;generalize wr.drew=wd at*;go_wp2_with fail;refine CP2.o.mono ?_;rintro e w3 ⟨rfl,hw3,hk3⟩;have HO3:=sq (HOD.o.next hw3 hk3);have HK3:=sq (HKD.o.trans hk3);clear hw3 hk3;go_wp2_with fail;refine⟨⟨j+1,NC,KA,?_,HK3.o⟩,NF⟩;have:=HO3.o;rw[HTJ.o];exact AIX);have hjm':¬((j:Int)<(n:Int)):=KA;obtain rfl:j=n:=KA;clear hok hwk;go_wp2_with fail;go_end0;refine⟨rfl,?_,HK1.o.trans HWK.o⟩;have:=HOK.o.wr;exact AIX
theorem iR (W0:J) (key:List UInt8) (l:List (List UInt8)) (A:Option Addr) (b1 b2 b3 b4 b5 gx k c m:Nat) (h1:AJ W0 b1 #[.pointer (Z ⟨gx,k,Y⟩)] 222) (h2:AJ W0 b2 #[Yg Yj m] 3) (h3:AJ W0 b3 #[G (M 217) #[] #[]] 291)
  (h4:AJ W0 b4 #[G (M 218) #[] #[]] 293) (hg:gx<W0.heap.size) (hx:W0.cell? ⟨gx,k,Y⟩=Z (.slice A l.length c)) (hT:Dy W0 A l) (hc:l.length≤c) (hm:l.length≤m) (hm2:m<1000) (hs:∀s∈l,s.length=32):
  PF W0 (CK key b1 b2 b3 b4 b5) (l.length==0) Yy (AR 3 l.length++EZ l l.length):=by
 have hx':∀W',Below W0.heap.size W0 W'→W'.cell? ⟨gx,k,Y⟩=Z (.slice A l.length c):=fun W' hw=>(AMg (hw.block _ hg)).trans hx;refine⟨⟨⟨_,_,rfl⟩,⟨_,_,rfl⟩,⟨_,_,rfl⟩,⟨_,_,rfl⟩⟩,⟨_,_,rfl,fun _ _=>rfl,fun W' hw=>?_⟩,⟨_,_,rfl,fun _ _=>rfl,fun W' hw=>?_⟩,fun hne=>⟨_,_,rfl,fun _ _=>rfl,fun g base bs W' hw hO hg' hl=>?_⟩⟩;(exact Il b1 gx k W' A l.length c ((h1.later hw).cell 0 rfl) (hx' W' hw));(exact sQ l A c m b1 b2 b3 gx k W' (h1.later hw) (h2.later hw) (h3.later hw) (AMn hg hw.size) (hx' W' hw) (hT.but (APv hw)) hc hm KA hs);(have hn:0<l.length:=by(have:¬(l.length=0):=by simpa using hne);omega);obtain⟨gc,oc,hA,hc0⟩:=hT 0 hn;subst hA
 exact rF l gc oc l.length c W0.heap.size b1 b4 gx k g base bs W' rfl KA hs hg' hw.size (fun W'' hw'=>by
  have hb:=GW hw hw';have ht:=hT.but (APv hb);refine⟨⟨(h1.later hb).cell 0 rfl,(h1.later hb).lt⟩,⟨(h4.later hb).cell 0 rfl,(h4.later hb).lt⟩,⟨hx' W'' hb,AMn hg hb.size⟩,fun i hi=>?_,?_⟩
  ·obtain⟨g',o',e,h⟩:=ht i hi;injection e with e;injection e with e e' _;rw[e,e'];exact h
  ·obtain⟨g',o',e,h⟩:=ht 0 hn;injection e with e;injection e with e e' _;rw[e];exact Ae h) hO hl
theorem wJ (W0:J) (key:List UInt8) (b gx k:Nat) (q:Bool) (hb:AJ W0 b #[.pointer (Z ⟨gx,k,Y⟩)] 268) (hx:W0.cell? ⟨gx,k,Y⟩=Z (Yl q)) (hgx:gx<W0.heap.size):
  PF W0 (FC key b) (!q) Yy (AR 0 1):=by refine⟨⟨⟨_,_,rfl⟩,⟨_,_,rfl⟩,⟨_,_,rfl⟩,⟨_,_,rfl⟩⟩,⟨_,_,rfl,fun _ _=>rfl,fun W' hw=>?_⟩,⟨_,_,rfl,fun _ _=>rfl,fun W' hw=>?_⟩,fun _=>⟨_,_,rfl,fun _ _=>rfl,fun g base bs W' hw hO hg hl=>?_⟩⟩;(exact Mi b gx k W' q ((hb.later hw).cell 0 rfl) ((AMg (hw.block _ hgx)).trans hx));(clear hw hb hx hgx;exact AMD);have CN:=sq (Wf 1 g base bs W' hO KA ND);clear hw hO hg hl hb hx hgx;show Yv Yw 287 #[U (g:Nat)] W' _;exact AE4
def jB (em:Nat→Bool) (n:Nat):Bool:= !(decide (0≤firstIdx (fun i=> !em i) n 0))
theorem zZ (W0:J) (key:List UInt8) (mu:Bool) (lb gl n:Nat) (F:List FD) (em my:Nat→Bool) (pb:Nat→List UInt8) (hn:F.length=n) (hb:AJ W0 lb #[Yh gl n n] 191) (hF:Em W0 gl F) (h0:0<n) (h1:n<1000)
  (hP:∀i,i<F.length→PF W0 (F.getD i fd0) (em i) (my i) (pb i)) (hk:∀i,i<F.length→(F.getD i fd0).key.length<1000) (hL:(Me F em pb).length<40000):
  PF W0 (JI key mu lb) (jB em n) (Jy my n) (Me F em pb):=by subst hn;refine⟨⟨⟨_,_,rfl⟩,⟨_,_,rfl⟩,⟨_,_,rfl⟩,⟨_,_,rfl⟩⟩,⟨_,_,rfl,fun _ _=>rfl,fun W' hw=>?_⟩,⟨_,_,rfl,fun _ _=>rfl,fun W' hw=>?_⟩,fun hne=>⟨_,_,rfl,fun _ _=>rfl,fun g base bs W' hw hO hg' hl=>?_⟩⟩;(have HC:=sq (Li F gl F.length (fun i=> !em i) 282 W' (hF.later hw) (AMi _) KA (fun _ _=>rfl) (fun i W'' hi hb'=>by obtain⟨ef,ec,e1,hcf,hcl⟩:=(hP i hi).emp;obtain⟨⟨_,_,_⟩,⟨mf,mc,e2⟩,⟨pf,pc,e3⟩,⟨gf,gc,e4⟩⟩:=(hP i hi).fine;exact SA (F.getD i fd0) (em i) ef ec mf pf gf mc pc gc W'' e1 e2 e3 e4 hcf (fun W3 hb3=>hcl W3 (GW hw ((hb'.trans hb3).below' hw.size NC)))));obtain⟨x0,xl⟩:=ALP;have HE:Shut (jB em F.length= !(decide (0≤firstIdx (fun i=> !em i) F.length 0))):=⟨rfl⟩;rw[HE.o];generalize F.length=n at*;generalize decide (0≤firstIdx (fun i=> !em i) n 0)=q at*;clear hb hF hP hk hL hw;show Yv Yw 281 #[U lb] W' _;exact AHU);(have HC:=sq (jG W0 F gl F.length em my pb W' (hF.later hw) (AMi _) h1 hP hw);obtain⟨x0,xl⟩:=ALP;generalize F.length=n at*;clear hb hF hP hk hL hw;show Yv Yw 283 #[U lb] W' _;exact AHU);have HC:=sq (iZ W0 F gl F.length g base em my pb bs W' (hF.later hw) (AMi _) h0 h1 hP hw hO hg' hk hl);obtain⟨x0,xl⟩:=ALP;generalize Me F em pb=y at*;generalize F.length=n at*;clear hb hF hP hk hL hw hO hg' hl;show Yv Yw 284 #[U (g:Nat),U lb] W' _;go_in;go_wp2_with fail;refine HC.o.mono ?_;exact ALu
end Go.Proofs.YtiapejgiinidhaaGreatDoor
