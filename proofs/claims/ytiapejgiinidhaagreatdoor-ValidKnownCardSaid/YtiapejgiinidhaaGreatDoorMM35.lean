import Derived.Test.YtiapejgiinidhaaGreatDoorMM34
import Derived.Deep.Slices
import Derived.Deep.Fields
import Derived.ChangeSame
import Derived.LaidLaws
import Derived.LaidHandle
import Derived.Test.YtiapejgiinidhaaGreatDoorCards
import Derived.Test.YtiapejgiinidhaaGreatDoorTie
import Derived.ProofKit
import Derived.ShutString
import Derived.ChangeOld
import Derived.Deep.DeepHandedRow
import Derived.Deep.DeepWitnessRowRef
import Derived.SevenTiedAt
set_option linter.all false
set_option maxRecDepth 100000
set_option maxHeartbeats 40000000
namespace Go.Proofs.YtiapejgiinidhaaGreatDoor
open Value renaming int→Yg,string→O,slice→Yh,bool→Yl,tuple→Ym,iface→Yo,agg→Yr
open IntKind renaming u64→V,i64→Yj,u8→Yq
open Obj renaming cells→Yk
open Ending renaming returned→Yi
open Go renaming World→J,Value→Yu,Calls→Yv
open Go.Proofs.Tryz renaming prog→Yw
open Option renaming some→Z,none→Y
open Bool renaming true→Yy,false→Yz
open Go Go.RowKit Go.Shelf
def kc7 (pt dg:ByteArray):Nat→Yu
 |0=>.string pt
 |1=>Yg V 3
 |2=>.string dg
 |3=>Yg V 1
 |4=>Yg V 1
 |5=>Yg V 4
 |_=>Yg Yj 640
theorem j5 {cs:Array Yu} {pt dg:ByteArray} {j:Nat} (hs:cs.size=63) (hj:j<9) (h:∀i,i<j*7→cs[i]?=Z (kc7 pt dg (i%7))):
  ∀i,i<(j+1)*7→(((((((cs.setIfInBounds (j*7) (.string pt)).setIfInBounds (j*7+1) (Yg V 3)).setIfInBounds (j*7+2) (.string dg)).setIfInBounds (j*7+3) (Yg V 1)).setIfInBounds (j*7+4) (Yg V 1)).setIfInBounds (j*7+5) (Yg V 4)).setIfInBounds (j*7+6) (Yg Yj 640))[i]?=Z (kc7 pt dg (i%7)):=by intro i hi;simp only[AM0,ANM,hs];by_cases h6:j*7+6=i;(rw[AMx h6,AMx KA];subst h6;rw[show (j*7+6)%7=6 by omega];rfl);rw[AMu h6];by_cases h5:j*7+5=i;(rw[AMx h5,AMx KA];subst h5;rw[show (j*7+5)%7=5 by omega];rfl);rw[AMu h5];by_cases h4:j*7+4=i;(rw[AMx h4,AMx KA];subst h4;rw[show (j*7+4)%7=4 by omega];rfl);rw[AMu h4];by_cases h3:j*7+3=i;(rw[AMx h3,AMx KA];subst h3;rw[show (j*7+3)%7=3 by omega];rfl);rw[AMu h3];by_cases h2:j*7+2=i;(rw[AMx h2,AMx KA];subst h2;rw[show (j*7+2)%7=2 by omega];rfl);rw[AMu h2];by_cases h1:j*7+1=i;(rw[AMx h1,AMx KA];subst h1;rw[show (j*7+1)%7=1 by omega];rfl);rw[AMu h1];by_cases h0:j*7=i;(rw[AMx h0,AMx KA];subst h0;rw[show (j*7)%7=0 by omega];rfl);rw[AMu h0];exact h i KA
def ap (pt p31:ByteArray):Nat→ByteArray|0=>p31|_=>pt
def ad (dg d33:ByteArray):Nat→ByteArray|1=>d33|_=>dg
def ac:Nat→Int|2=>0|3=>65537|_=>3
def aw:Nat→Int|4=>0|_=>1
def as_:Nat→Int|5=>0|6=>257|_=>4
def am:Nat→Int|7=>0|8=>641|_=>640
def og (cs:Array Yu) (p31 d33:ByteArray):Array Yu:=((((((((cs.setIfInBounds 0 (.string p31)).setIfInBounds 9 (.string d33)).setIfInBounds 15 (Yg V 0)).setIfInBounds 22 (Yg V 65537)).setIfInBounds 32 (Yg V 0)).setIfInBounds 40 (Yg V 0)).setIfInBounds 47 (Yg V 257)).setIfInBounds 55 (Yg Yj 0)).setIfInBounds 62 (Yg Yj 641)
theorem xu {cs:Array Yu} {pt dg p31 d33:ByteArray} (hs:cs.size=63) (hc:∀i,i<63→cs[i]?=Z (kc7 pt dg (i%7))) (j:Nat) (hj:j<9):
  (og cs p31 d33)[j*7]?=Z (O (ap pt p31 j))∧(og cs p31 d33)[j*7+1]?=Z (Yg V (ac j))∧(og cs p31 d33)[j*7+2]?=Z (O (ad dg d33 j))∧(og cs p31 d33)[j*7+3]?=Z (Yg V 1)∧(og cs p31 d33)[j*7+4]?=Z (Yg V (aw j))∧(og cs p31 d33)[j*7+5]?=Z (Yg V (as_ j))∧(og cs p31 d33)[j*7+6]?=Z (Yg Yj (am j)):=by unfold og;simp only[AM0,ANM,hs];match j,hj with|0,_|1,_|2,_|3,_|4,_|5,_|6,_|7,_|8,_=>refine⟨?_,?_,?_,?_,?_,?_,?_⟩<;>first|rfl|exact hc _ ND
theorem jU (zb zr zp zd p31 d33:ByteArray) (hp:zp.size=32) (hd:zd.size=32) (e31:zp.extract 1 32=p31) (e33:zd++⟨#[120]⟩=d33) (W:J)
  (hm:∀A W1,uo W1 A [1,2,3]→Yv Yw 4 #[Yr #[.slice A 3 3,Yg Yq 7,Yg Yq 0,Yg Yq 3,Yg Yq 0,Yg Yq 0]] W1 fun e w'=>∃(Ar Ac As Ap:Option Addr) (cr cc cs cp nr nc ns np:Nat),e=Yi (Ym #[Yr #[.string zr,Yg V 9,.slice Ar nr cr,.slice Ac nc cc,.slice As ns cs,.slice Ap np cp],Yr #[.string zp,Yg V 3,.string zd,Yg V 1,Yg V 1,Yg V 4,Yg Yj 640],Yl Yy])∧But [] W1 w'∧
   ∀W2,But [] w' W2→Yv Yw 6 #[Yr #[.string zr,Yg V 9,.slice Ar nr cr,.slice Ac nc cc,.slice As ns cs,.slice Ap np cp]] W2 fun e w2=>e=Yi (Ym #[.string zb,Yg Yj 0])∧But [] W2 w2)
  (hw:∀w,But [] W w→Yv Yw 5 #[] w fun r w'=>r=Yi (Yl Yy)∧But [] w w')
  (h1:∀w,But [] W w→Yv Yw 7 #[.string zb,Yr #[.string zp,Yg V 3,.string zd,Yg V 1,Yg V 1,Yg V 4,Yg Yj 640]] w fun r w'=>r=Yi (Yg Yj 0)∧But [] w w')
  (h9:∀j w,j<9→But [] W w→Yv Yw 7 #[.string zb,Yr #[O (ap zp p31 j),Yg V (ac j),O (ad zd d33 j),Yg V 1,Yg V (aw j),Yg V (as_ j),Yg Yj (am j)]] w fun r w'=>r=Yi (Yg Yj 2)∧But [] w w'):
  Yv Yw 3 #[] W fun e w'=>e=Yi (Yl Yy)∧But [] W w':=by have HM:=sq (hm (Z ⟨W.heap.size,0,Y⟩) _ (jE W [1,2,3]));have HW:=sq hw;have E31:=sq e31;have E33:=sq e33;have H1:=sq h1;have H9:=sq h9;have B0:=sq ((APu [] W).alloc (Yk #[Yg Yq 1,Yg Yq 2,Yg Yq 3] 5));clear hm hw h1 h9 e31 e33;go_in;go_wp2_with fail;refine HM.o.mono ?_;rintro e w1 ⟨Ar,Ac,As,Ap,cr,cc,cs,cp,nr,nc,ns,np,rfl,hb,hcert⟩;have HC:=sq hcert;have B1:=AJr;clear hb hcert HM B0;go_upto_region 2 with fail;have X1:=sq ((APw w1 #[.string zr,Yg V 9,.slice Ar nr cr,.slice Ac nc cc,.slice As ns cs,.slice Ap np cp] 27).alloc (Yk #[.string zp,Yg V 3,.string zd,Yg V 1,Yg V 1,Yg V 4,Yg Yj 640] 29));have X2':=APw (w1.alloc (Yk #[.string zr,Yg V 9,.slice Ar nr cr,.slice Ac nc cc,.slice As ns cs,.slice Ap np cp] 27)) #[.string zp,Yg V 3,.string zd,Yg V 1,Yg V 1,Yg V 4,Yg Yj 640] 29;rw[AMk] at X2';have X2:=sq X2';have BB:=sq (((APu [] w1).alloc (Yk #[.string zr,Yg V 9,.slice Ar nr cr,.slice Ac nc cc,.slice As ns cs,.slice Ap np cp] 27)).alloc (Yk #[.string zp,Yg V 3,.string zd,Yg V 1,Yg V 1,Yg V 4,Yg Yj 640] 29));clear X2';generalize (w1.alloc (Yk #[.string zr,Yg V 9,.slice Ar nr cr,.slice Ac nc cc,.slice As ns cs,.slice Ap np cp] 27)).alloc (Yk #[.string zp,Yg V 3,.string zd,Yg V 1,Yg V 1,Yg V 4,Yg Yj 640] 29)=w2 at*;generalize w1.heap.size=g1 at*;have B2:=sq (B1.o.trans BB.o);clear B1;go_wp2_with fail;refine (HW.o _ B2.o).mono ?_;rintro e w3 ⟨rfl,hb⟩;have X3:=sq (X1.o.but hb NC);have Y3:=sq (X2.o.but hb NC);have B3:=sq (B2.o.trans hb);have HC3:=sq (HC.o w3 (BB.o.trans hb));clear hb HC BB X1 X2 B2 HW;have c0:=X3.o.cell 0 rfl;have c1:=X3.o.cell 1 rfl;have c2:=X3.o.cell 2 rfl;have c3:=X3.o.cell 3 rfl;have c4:=X3.o.cell 4 rfl;have c5:=X3.o.cell 5 rfl;have lc:=X3.o.lt;go_wp2_with fail;refine HC3.o.mono ?_;rintro e w4 ⟨rfl,hb⟩;have X4:=sq (Y3.o.but hb NC);have B4:=sq (B3.o.trans hb);clear hb HC3 X3 Y3 B3 c0 c1 c2 c3 c4 c5 lc;have a0:=X4.o.cell 0 rfl;have a1:=X4.o.cell 1 rfl;have a2:=X4.o.cell 2 rfl;have a3:=X4.o.cell 3 rfl;have a4:=X4.o.cell 4 rfl;have a5:=X4.o.cell 5 rfl;have a6:=X4.o.cell 6 rfl;have la:=X4.o.lt;go_wp2_with fail;refine (H1.o _ B4.o).mono ?_;rintro e w5 ⟨rfl,hb⟩;have X5:=sq (X4.o.but hb NC);have B5:=sq (B4.o.trans hb);clear hb X4 B4 H1 a0 a1 a2 a3 a4 a5 a6 la;go_upto_region 8 with fail;have X6':=APw w5 #[O ⟨#[]⟩,Yg V 0,O ⟨#[]⟩,Yg V 0,Yg V 0,Yg V 0,Yg Yj 0,O ⟨#[]⟩,Yg V 0,O ⟨#[]⟩,Yg V 0,Yg V 0,Yg V 0,Yg Yj 0,O ⟨#[]⟩,Yg V 0,O ⟨#[]⟩,Yg V 0,Yg V 0,Yg V 0,Yg Yj 0,O ⟨#[]⟩,Yg V 0,O ⟨#[]⟩,Yg V 0,Yg V 0,Yg V 0,Yg Yj 0,O ⟨#[]⟩,Yg V 0,O ⟨#[]⟩,Yg V 0,Yg V 0,Yg V 0,Yg Yj 0,O ⟨#[]⟩,Yg V 0,O ⟨#[]⟩,Yg V 0,Yg V 0,Yg V 0,Yg Yj 0,O ⟨#[]⟩,Yg V 0,O ⟨#[]⟩,Yg V 0,Yg V 0,Yg V 0,Yg Yj 0,O ⟨#[]⟩,Yg V 0,O ⟨#[]⟩,Yg V 0,Yg V 0,Yg V 0,Yg Yj 0,O ⟨#[]⟩,Yg V 0,O ⟨#[]⟩,Yg V 0,Yg V 0,Yg V 0,Yg Yj 0] 40;have B6':=(APu [] w5).alloc (Yk #[O ⟨#[]⟩,Yg V 0,O ⟨#[]⟩,Yg V 0,Yg V 0,Yg V 0,Yg Yj 0,O ⟨#[]⟩,Yg V 0,O ⟨#[]⟩,Yg V 0,Yg V 0,Yg V 0,Yg Yj 0,O ⟨#[]⟩,Yg V 0,O ⟨#[]⟩,Yg V 0,Yg V 0,Yg V 0,Yg Yj 0,O ⟨#[]⟩,Yg V 0,O ⟨#[]⟩,Yg V 0,Yg V 0,Yg V 0,Yg Yj 0,O ⟨#[]⟩,Yg V 0,O ⟨#[]⟩,Yg V 0,Yg V 0,Yg V 0,Yg Yj 0,O ⟨#[]⟩,Yg V 0,O ⟨#[]⟩,Yg V 0,Yg V 0,Yg V 0,Yg Yj 0,O ⟨#[]⟩,Yg V 0,O ⟨#[]⟩,Yg V 0,Yg V 0,Yg V 0,Yg Yj 0,O ⟨#[]⟩,Yg V 0,O ⟨#[]⟩,Yg V 0,Yg V 0,Yg V 0,Yg Yj 0,O ⟨#[]⟩,Yg V 0,O ⟨#[]⟩,Yg V 0,Yg V 0,Yg V 0,Yg Yj 0] 40);have hsz:(#[O ⟨#[]⟩,Yg V 0,O ⟨#[]⟩,Yg V 0,Yg V 0,Yg V 0,Yg Yj 0,O ⟨#[]⟩,Yg V 0,O ⟨#[]⟩,Yg V 0,Yg V 0,Yg V 0,Yg Yj 0,O ⟨#[]⟩,Yg V 0,O ⟨#[]⟩,Yg V 0,Yg V 0,Yg V 0,Yg Yj 0,O ⟨#[]⟩,Yg V 0,O ⟨#[]⟩,Yg V 0,Yg V 0,Yg V 0,Yg Yj 0,O ⟨#[]⟩,Yg V 0,O ⟨#[]⟩,Yg V 0,Yg V 0,Yg V 0,Yg Yj 0,O ⟨#[]⟩,Yg V 0,O ⟨#[]⟩,Yg V 0,Yg V 0,Yg V 0,Yg Yj 0,O ⟨#[]⟩,Yg V 0,O ⟨#[]⟩,Yg V 0,Yg V 0,Yg V 0,Yg Yj 0,O ⟨#[]⟩,Yg V 0,O ⟨#[]⟩,Yg V 0,Yg V 0,Yg V 0,Yg Yj 0,O ⟨#[]⟩,Yg V 0,O ⟨#[]⟩,Yg V 0,Yg V 0,Yg V 0,Yg Yj 0]:Array Yu).size=63:=rfl;generalize w5.alloc (Yk #[O ⟨#[]⟩,Yg V 0,O ⟨#[]⟩,Yg V 0,Yg V 0,Yg V 0,Yg Yj 0,O ⟨#[]⟩,Yg V 0,O ⟨#[]⟩,Yg V 0,Yg V 0,Yg V 0,Yg Yj 0,O ⟨#[]⟩,Yg V 0,O ⟨#[]⟩,Yg V 0,Yg V 0,Yg V 0,Yg Yj 0,O ⟨#[]⟩,Yg V 0,O ⟨#[]⟩,Yg V 0,Yg V 0,Yg V 0,Yg Yj 0,O ⟨#[]⟩,Yg V 0,O ⟨#[]⟩,Yg V 0,Yg V 0,Yg V 0,Yg Yj 0,O ⟨#[]⟩,Yg V 0,O ⟨#[]⟩,Yg V 0,Yg V 0,Yg V 0,Yg Yj 0,O ⟨#[]⟩,Yg V 0,O ⟨#[]⟩,Yg V 0,Yg V 0,Yg V 0,Yg Yj 0,O ⟨#[]⟩,Yg V 0,O ⟨#[]⟩,Yg V 0,Yg V 0,Yg V 0,Yg Yj 0,O ⟨#[]⟩,Yg V 0,O ⟨#[]⟩,Yg V 0,Yg V 0,Yg V 0,Yg Yj 0] 40)=w6 at*;generalize (#[O ⟨#[]⟩,Yg V 0,O ⟨#[]⟩,Yg V 0,Yg V 0,Yg V 0,Yg Yj 0,O ⟨#[]⟩,Yg V 0,O ⟨#[]⟩,Yg V 0,Yg V 0,Yg V 0,Yg Yj 0,O ⟨#[]⟩,Yg V 0,O ⟨#[]⟩,Yg V 0,Yg V 0,Yg V 0,Yg Yj 0,O ⟨#[]⟩,Yg V 0,O ⟨#[]⟩,Yg V 0,Yg V 0,Yg V 0,Yg Yj 0,O ⟨#[]⟩,Yg V 0,O ⟨#[]⟩,Yg V 0,Yg V 0,Yg V 0,Yg Yj 0,O ⟨#[]⟩,Yg V 0,O ⟨#[]⟩,Yg V 0,Yg V 0,Yg V 0,Yg Yj 0,O ⟨#[]⟩,Yg V 0,O ⟨#[]⟩,Yg V 0,Yg V 0,Yg V 0,Yg Yj 0,O ⟨#[]⟩,Yg V 0,O ⟨#[]⟩,Yg V 0,Yg V 0,Yg V 0,Yg Yj 0,O ⟨#[]⟩,Yg V 0,O ⟨#[]⟩,Yg V 0,Yg V 0,Yg V 0,Yg Yj 0]:Array Yu)=zs at*;obtain⟨gl,hgl⟩:∃b,b=w5.heap.size:=⟨_,rfl⟩;rw[←hgl] at X6'⊢;have HB:Shut (w5.heap.size≤gl):=⟨KA⟩;have X6:=sq (AMc X6' hsz);have B6:=sq B6';clear hgl X6' B6' hsz;go_wp2_with fail;go_loopw [7] (fun z wr=>∃j:Nat,z=Yg Yj j∧j≤9∧But [] w5 wr∧∃cs:Array Yu,AJ wr gl cs 40∧cs.size=63∧∀i,i<j*7→cs[i]?=Z (kc7 zp zd (i%7))) (fun z _=>9-(intOf z).toNat);(case atStart=>exact⟨0,rfl,KA,B6.o,zs,X6.o.1,X6.o.2,fun i hi=>absurd hi KA⟩);case round=>obtain⟨j,rfl,hj,hb,cs,hx,hcs,hc⟩:=hrel;have B2:=sq hb;have X2:=sq hx;have HCS:=sq (AMc hcs hc);by_cases hjn:j<9;(·have hjn':((j:Int)<9):=KA;have hj0:(0:Int)≤(j:Int):=KA;have Y2:=X5.o.but hb NC;have a0:=Y2.cell 0 rfl;have a1:=Y2.cell 1 rfl;have a2:=Y2.cell 2 rfl;have a3:=Y2.cell 3 rfl;have a4:=Y2.cell 4 rfl;have a5:=Y2.cell 5 rfl;have a6:=Y2.cell 6 rfl;have la:=Y2.lt;clear hb hx hcs hc hj Y2;obtain⟨u0,hu0⟩:∃v,cs[j*7]?=Z v:=⟨_,AMq RQ⟩;obtain⟨u1,hu1⟩:∃v,cs[j*7+1]?=Z v:=⟨_,AMq RQ⟩;obtain⟨u2,hu2⟩:∃v,cs[j*7+2]?=Z v:=⟨_,AMq RQ⟩;obtain⟨u3,hu3⟩:∃v,cs[j*7+3]?=Z v:=⟨_,AMq RQ⟩;obtain⟨u4,hu4⟩:∃v,cs[j*7+4]?=Z v:=⟨_,AMq RQ⟩;obtain⟨u5,hu5⟩:∃v,cs[j*7+5]?=Z v:=⟨_,AMq RQ⟩;obtain⟨u6,hu6⟩:∃v,cs[j*7+6]?=Z v:=⟨_,AMq RQ⟩;have b0:=X2.o.cell _ hu0;have f0:=X2.o.frozen (j*7);have b1:=X2.o.cell _ hu1;have f1:=X2.o.frozen (j*7+1);have b2:=X2.o.cell _ hu2;have f2:=X2.o.frozen (j*7+2);have b3:=X2.o.cell _ hu3;have f3:=X2.o.frozen (j*7+3);have b4:=X2.o.cell _ hu4;have f4:=X2.o.frozen (j*7+4);have b5:=X2.o.cell _ hu5;have f5:=X2.o.frozen (j*7+5);have b6:=X2.o.cell _ hu6;have f6:=X2.o.frozen (j*7+6);have l0:=X2.o.lt;clear hu0 hu1 hu2 hu3 hu4 hu5 hu6;go_wp2_with fail;exact⟨⟨j+1,NC,KA,(((((((B2.o.setCell (p:=⟨gl,j*7,Y⟩) (Or.inr PY) (.string zp)).setCell (p:=⟨gl,j*7+1,Y⟩) (Or.inr PY) (Yg V 3)).setCell (p:=⟨gl,j*7+2,Y⟩) (Or.inr PY) (.string zd)).setCell (p:=⟨gl,j*7+3,Y⟩) (Or.inr PY) (Yg V 1)).setCell (p:=⟨gl,j*7+4,Y⟩) (Or.inr PY) (Yg V 1)).setCell (p:=⟨gl,j*7+5,Y⟩) (Or.inr PY) (Yg V 4)).setCell (p:=⟨gl,j*7+6,Y⟩) (Or.inr PY) (Yg Yj 640)),_,(((((((X2.o.set (j*7) (.string zp)).set (j*7+1) (Yg V 3)).set (j*7+2) (.string zd)).set (j*7+3) (Yg V 1)).set (j*7+4) (Yg V 1)).set (j*7+5) (Yg V 4)).set (j*7+6) (Yg Yj 640)),by simp only[ANM];exact HCS.o.1,j5 HCS.o.1 hjn HCS.o.2⟩,NF⟩);obtain rfl:j=9:=KA;rw[show ((9:Nat):Int)=9 from rfl];have Y2:=X5.o.but hb NC;have a0:=Y2.cell 0 rfl;have a2:=Y2.cell 2 rfl;have la:=Y2.lt;clear hb hx hcs hc hj Y2;obtain⟨u0,hu0⟩:∃v,cs[0]?=Z v:=⟨_,AMq RQ⟩;have b0:=X2.o.cell 0 hu0;have f0:=X2.o.frozen 0;obtain⟨u9,hu9⟩:∃v,cs[9]?=Z v:=⟨_,AMq RQ⟩;have b9:=X2.o.cell 9 hu9;have f9:=X2.o.frozen 9;obtain⟨u15,hu15⟩:∃v,cs[15]?=Z v:=⟨_,AMq RQ⟩;have b15:=X2.o.cell 15 hu15;have f15:=X2.o.frozen 15;obtain⟨u22,hu22⟩:∃v,cs[22]?=Z v:=⟨_,AMq RQ⟩;have b22:=X2.o.cell 22 hu22;have f22:=X2.o.frozen 22;obtain⟨u32,hu32⟩:∃v,cs[32]?=Z v:=⟨_,AMq RQ⟩;have b32:=X2.o.cell 32 hu32;have f32:=X2.o.frozen 32;obtain⟨u40,hu40⟩:∃v,cs[40]?=Z v:=⟨_,AMq RQ⟩;have b40:=X2.o.cell 40 hu40;have f40:=X2.o.frozen 40;obtain⟨u47,hu47⟩:∃v,cs[47]?=Z v:=⟨_,AMq RQ⟩;have b47:=X2.o.cell 47 hu47;have f47:=X2.o.frozen 47;obtain⟨u55,hu55⟩:∃v,cs[55]?=Z v:=⟨_,AMq RQ⟩;have b55:=X2.o.cell 55 hu55;have f55:=X2.o.frozen 55;obtain⟨u62,hu62⟩:∃v,cs[62]?=Z v:=⟨_,AMq RQ⟩;have b62:=X2.o.cell 62 hu62;have f62:=X2.o.frozen 62;have l0:=X2.o.lt;clear hu0 hu9 hu15 hu22 hu32 hu40 hu47 hu55 hu62;go_upto_region 21 with fail;rw[E31.o,E33.o];have X7:Shut (AJ (((((((((wr.setCell gl (.string p31)).setCell ⟨gl,9,Y⟩ (.string d33)).setCell ⟨gl,15,Y⟩ (Yg V 0)).setCell ⟨gl,22,Y⟩ (Yg V 65537)).setCell ⟨gl,32,Y⟩ (Yg V 0)).setCell ⟨gl,40,Y⟩ (Yg V 0)).setCell ⟨gl,47,Y⟩ (Yg V 257)).setCell ⟨gl,55,Y⟩ (Yg Yj 0)).setCell ⟨gl,62,Y⟩ (Yg Yj 641)) gl (og cs p31 d33) 40):=⟨(((((((((X2.o.set 0 (.string p31)).set 9 (.string d33)).set 15 (Yg V 0)).set 22 (Yg V 65537)).set 32 (Yg V 0)).set 40 (Yg V 0)).set 47 (Yg V 257)).set 55 (Yg Yj 0)).set 62 (Yg Yj 641))⟩;have B7:Shut (But [] w5 (((((((((wr.setCell gl (.string p31)).setCell ⟨gl,9,Y⟩ (.string d33)).setCell ⟨gl,15,Y⟩ (Yg V 0)).setCell ⟨gl,22,Y⟩ (Yg V 65537)).setCell ⟨gl,32,Y⟩ (Yg V 0)).setCell ⟨gl,40,Y⟩ (Yg V 0)).setCell ⟨gl,47,Y⟩ (Yg V 257)).setCell ⟨gl,55,Y⟩ (Yg Yj 0)).setCell ⟨gl,62,Y⟩ (Yg Yj 641))):=⟨(((((((((B2.o.setCell (p:=gl) (Or.inr PY) (.string p31)).setCell (p:=⟨gl,9,Y⟩) (Or.inr PY) (.string d33)).setCell (p:=⟨gl,15,Y⟩) (Or.inr PY) (Yg V 0)).setCell (p:=⟨gl,22,Y⟩) (Or.inr PY) (Yg V 65537)).setCell (p:=⟨gl,32,Y⟩) (Or.inr PY) (Yg V 0)).setCell (p:=⟨gl,40,Y⟩) (Or.inr PY) (Yg V 0)).setCell (p:=⟨gl,47,Y⟩) (Or.inr PY) (Yg V 257)).setCell (p:=⟨gl,55,Y⟩) (Or.inr PY) (Yg Yj 0)).setCell (p:=⟨gl,62,Y⟩) (Or.inr PY) (Yg Yj 641))⟩;generalize (((((((((wr.setCell gl (.string p31)).setCell ⟨gl,9,Y⟩ (.string d33)).setCell ⟨gl,15,Y⟩ (Yg V 0)).setCell ⟨gl,22,Y⟩ (Yg V 65537)).setCell ⟨gl,32,Y⟩ (Yg V 0)).setCell ⟨gl,40,Y⟩ (Yg V 0)).setCell ⟨gl,47,Y⟩ (Yg V 257)).setCell ⟨gl,55,Y⟩ (Yg Yj 0)).setCell ⟨gl,62,Y⟩ (Yg Yj 641))=w7 at*;clear a0 a2 la l0 X2 B2 b0 f0 b9 f9 b15 f15 b22 f22 b32 f32 b40 f40 b47 f47 b55 f55 b62 f62;have LK:Shut (∀wr,But [] w7 wr→∀j,j<9→wr.cell? ⟨gl,j*7,Y⟩=Z (O (ap zp p31 j))∧wr.cell? ⟨gl,j*7+1,Y⟩=Z (Yg V (ac j))∧wr.cell? ⟨gl,j*7+2,Y⟩=Z (O (ad zd d33 j))∧wr.cell? ⟨gl,j*7+3,Y⟩=Z (Yg V 1)∧wr.cell? ⟨gl,j*7+4,Y⟩=Z (Yg V (aw j))∧wr.cell? ⟨gl,j*7+5,Y⟩=Z (Yg V (as_ j))∧wr.cell? ⟨gl,j*7+6,Y⟩=Z (Yg Yj (am j))∧gl<wr.heap.size):=⟨fun wr hb j hj=>by have hx:=X7.o.but hb NC;obtain⟨h0,h1,h2,h3,h4,h5,h6⟩:=xu (p31:=p31) (d33:=d33) HCS.o.1 HCS.o.2 j hj;exact⟨hx.cell _ h0,hx.cell _ h1,hx.cell _ h2,hx.cell _ h3,hx.cell _ h4,hx.cell _ h5,hx.cell _ h6,hx.lt⟩⟩;have B7W:=sq (B5.o.trans B7.o);clear X7 HCS B7;generalize ap zp p31=app at*;generalize ad zd d33=add at*;generalize ac=acc at*;generalize aw=aww at*;generalize as_=ass at*;generalize am=amm at*;go_wp2_with fail;go_loopw [8] (fun z wr=>∃j:Nat,z=Yg Yj j∧j≤9∧But [] w7 wr) (fun z _=>9-(intOf z).toNat);(case atStart=>exact⟨0,rfl,KA,APu _ _⟩);case round=>obtain⟨j,rfl,hj,hb⟩:=hrel;have HBR:=sq hb;by_cases hjn:j<9;(·have hjn':((j:Int)<9):=KA;have hj0:(0:Int)≤(j:Int):=KA;obtain⟨c0,c1,c2,c3,c4,c5,c6,l0⟩:=LK.o wr hb j hjn;have HJ:=sq (fun w=>H9.o j w hjn);clear hb hj;go_wp2_with fail;refine (HJ.o _ (B7W.o.trans HBR.o)).mono ?_;rintro r w8 ⟨rfl,hb⟩;have B8:=sq (HBR.o.trans hb);clear hb c0 c1 c2 c3 c4 c5 c6 l0;go_wp2_with fail;exact⟨⟨j+1,NC,KA,B8.o⟩,NF⟩);have hjn':¬((j:Int)<9):=KA;clear hb hj;go_wp2_with fail;go_ret;exact⟨rfl,B7W.o.trans HBR.o⟩
theorem ym (zb zp zd p31 d33:ByteArray) (hp:zp.size=32) (hd:zd.size=32) (h1:p31.size=31) (h2:d33.size=33) (j:Nat) (w:J) (hj:j<9):Yv Yw 7 #[.string zb,Yr #[O (ap zp p31 j),Yg V (ac j),O (ad zd d33 j),Yg V 1,Yg V (aw j),Yg V (as_ j),Yg Yj (am j)]] w fun r w'=>r=Yi (Yg Yj 2)∧But [] w w':=by match j,hj with|0,_=>exact EH p31 zd zb 3 1 1 4 640 w (by rw[h1,hd];decide)|1,_=>exact EH zp d33 zb 3 1 1 4 640 w (by rw[hp,h2];decide)|2,_=>exact EH zp zd zb 0 1 1 4 640 w ZS|3,_=>have h:=EH zp zd zb 65537 1 1 4 640 w ZS;rw[show ((65537:Nat):Int)=ac 3 by decide] at h;exact h|4,_=>exact EH zp zd zb 3 1 0 4 640 w ZS|5,_=>exact EH zp zd zb 3 1 1 0 640 w ZS|6,_=>exact EH zp zd zb 3 1 1 257 640 w ZS|7,_=>exact EH zp zd zb 3 1 1 4 0 w ZS|8,_=>exact EH zp zd zb 3 1 1 4 641 w ZS
theorem Wi (B:Nat) (W:J) (hE:oO B W):Yv Yw 3 #[] W fun e w'=>e=Yi (Yl Yy)∧But [] W w':=
 jU (AB Kf.Lu.by_) (AB Kf.Lu.rt) (AB Kf.Lu.pt) (AB Kf.Lu.dg) _ _ (by rw[AQ];exact Kf.all1.pt) (by rw[AQ];exact Kf.all1.dg) rfl rfl W
  (fun A W1 h=>(zk A W1 h).mono fun e w' hm=>hm)
  (fun w hb=>bT B w (hE.but hb))
  (fun w hb=>bA Kf.Lu Kf.rs1 Kf.all1 B w (hE.but hb).tabs (hE.but hb).low (hE.but hb).err (hE.but hb).pack)
  (fun j w hj hb=>ym _ _ _ _ _ (by rw[AQ];exact Kf.all1.pt) (by rw[AQ];exact Kf.all1.dg) (by rw[ByteArray.size_extract,AQ,Kf.all1.pt];rfl) (by rw[ByteArray.size_append,AQ,Kf.all1.dg];rfl) j w hj)
open Go Go.RowKit
open Go.ChangeShapes Go.WideShapes Go.Deep
section
variable {H:Type} {enc:TypeId×Yu→H} {w:J} {base n:Nat} {spare:Nat→Bool} {held:Bool}
theorem iF:Tryz.prog.cellsOf 3=1:=by kernel_rfl
theorem iE:Tryz.prog.cellsOf 22=1:=by kernel_rfl
end
theorem addr_add {g o k:Nat}:(⟨g,o,Y⟩:Addr).add k=⟨g,o+k,Y⟩:=ALH
structure ACU (B:Nat) (W:J):Prop where
 tabs:J4 B W
 low:B≤W.heap.size
 err:KH W
def vY (x:FB):DataW Unit:=.agg [.lit (.int .u8 (x.lo:Nat)),.lit (.int .u8 (x.hi:Nat)),.lit (.int .i64 (x.size:Nat)),.lit (.int .u64 (x.least:Nat))]
def yt (L:List FB):DataW Unit:=.slice (L.map vY) []
theorem Wm:Tryz.prog.cellsOf 374=4:=by kernel_rfl
theorem bg:Tryz.prog.cellsOf 5=1:=by kernel_rfl
theorem Jo {t:TypeId} {k:IntKind} {w:J} {base n:Nat} {spare:Nat→Bool} {held:Bool} {v:Yu} {z:Int} {y:DataW Unit×List MemPlace} (ht:Tryz.prog.underlying t=Z (.int k))
  (h:DataW.trod (fun _=>()) Yw w base spare held n t [v]=Z y) (hy:y.1=.lit (.int k z)):v=.int k z:=by obtain⟨x,h1,h2,_⟩:=DataW.trod_int ht h;injection h1 with h1;rw[h2] at hy;simp only[DataW.lit.injEq,Lit.int.injEq,APL] at hy;rw[h1,hy]
theorem bZ {w:J} {base fuel:Nat} {spare:Nat→Bool} {held:Bool} {cs:List Yu} {x:FB} {p:List MemPlace} (h:DataW.trod (fun _=>()) Yw w base spare held fuel 374 cs=Z (vY x,p)):
  cs=[.int .u8 (x.lo:Nat),.int .u8 (x.hi:Nat),.int .i64 (x.size:Nat),.int .u64 (x.least:Nat)]:=by obtain⟨ys,n',_,hx,hlen,hl,hf⟩:=DataW.trod_struct Tryz.underlying374 h;rw[Wm] at hlen;(obtain⟨c0,c1,c2,c3,rfl⟩:∃(c0 c1 c2 c3:Yu),cs=[c0,c1,c2,c3]:=by match cs,hlen with|[c0,c1,c2,c3],_=>exact⟨c0,c1,c2,c3,rfl⟩);clear hlen h;(have hl4:ys.length=4:=by rw[hl];rfl);(obtain⟨y0,y1,y2,y3,rfl⟩:∃y0 y1 y2 y3,ys=[y0,y1,y2,y3]:=by match ys,hl4 with|[y0,y1,y2,y3],_=>exact⟨y0,y1,y2,y3,rfl⟩);simp only[vY,ANi,AOG,AOH,APe,List.cons.injEq,and_true] at hx;obtain⟨⟨e0,e1,e2,e3⟩,_⟩:=hx;(have h0:DataW.trod (fun _=>()) Yw w base spare held n' 5 [c0]=Z y0:=by have h:=hf 0 _ rfl;change DataW.trod _ Yw w base spare held n' 5 ((List.drop 0 [c0,c1,c2,c3]).take (Tryz.prog.cellsOf 5))=Z y0 at h;rw[bg] at h;exact h);(have h1:DataW.trod (fun _=>()) Yw w base spare held n' 5 [c1]=Z y1:=by have h:=hf 1 _ rfl;change DataW.trod _ Yw w base spare held n' 5 ((List.drop 1 [c0,c1,c2,c3]).take (Tryz.prog.cellsOf 5))=Z y1 at h;rw[bg] at h;exact h);(have h2:DataW.trod (fun _=>()) Yw w base spare held n' 3 [c2]=Z y2:=by have h:=hf 2 _ rfl;change DataW.trod _ Yw w base spare held n' 3 ((List.drop 2 [c0,c1,c2,c3]).take (Tryz.prog.cellsOf 3))=Z y2 at h;rw[iF] at h;exact h);(have h3:DataW.trod (fun _=>()) Yw w base spare held n' 22 [c3]=Z y3:=by have h:=hf 3 _ rfl;change DataW.trod _ Yw w base spare held n' 22 ((List.drop 3 [c0,c1,c2,c3]).take (Tryz.prog.cellsOf 22))=Z y3 at h;rw[iE] at h;exact h);rw[Jo Tryz.underlying5 h0 e0.symm,Jo Tryz.underlying5 h1 e1.symm,Jo Tryz.underlying3 h2 e2.symm,Jo Tryz.underlying22 h3 e3.symm]
theorem Ns {L:List FB} (hL:0<L.length) {W:J} {name:String} {g:Nat} (hg:Tryz.prog.globalNamed name=Z g) (hty:(Tryz.prog.globals[g]?).map (·.type)=Z 304)
  (h:∃g' t cs fuel p,Tryz.prog.globalNamed name=Z g'∧(Tryz.prog.globals[g']?).map (·.type)=Z t∧W.var? Yw name=Z cs∧DataW.trod (fun _=>()) Yw W 0 (fun _=>Yy) Yz fuel t cs.toList=Z (yt L,p)):
  SI W.heap.size W g L:=by obtain⟨g',t,cs,fuel,p,hg',ht',hvar,hd⟩:=h;obtain rfl:=ANW (hg.symm.trans hg');obtain rfl:=ANW (hty.symm.trans ht');rcases open_slice Tryz.underlying304 hd with⟨_,hx⟩|⟨a,len,cap,m,n,D,Pl,hcs,hb,hl,hm,hmm,hx,hi⟩;(simp[yt] at hx);simp only[yt,AOH,DataW.slice.injEq] at hx;obtain⟨⟨hx1,hx2⟩,_⟩:=hx;(have hlen:len=L.length:=by have:=ANb List.length hx1;simpa using this.symm);subst hlen;(have hD:∀i,i<L.length→D i=vY (L.getD i Mj):=fun i hi=>by have:=ANb (·[i]?) hx1;simp[hi] at this;rw[←this];exact AKd);(have hml:L.length≤m:=by rw[AMx rfl] at hmm;omega);(have each:∀i,i<L.length→∀k,k<4→W.cell? ((a.add (i*4)).add k)=([.int .u8 ((L.getD i Mj).lo:Nat),.int .u8 ((L.getD i Mj).hi:Nat),.int .i64 ((L.getD i Mj).size:Nat),.int .u64 ((L.getD i Mj).least:Nat)]:List Yu)[k]?:=by intro i hil;obtain⟨cs',hc,ht⟩:=hi i KA;rw[Wm] at hc;obtain⟨_,hcl,hat⟩:=World.cells?_some hc;rw[hD i hil] at ht;rw[←bZ ht];exact hat);(have hsp:a=⟨a.block,a.off,Y⟩∧a.block<W.heap.size:=by have h00:=each 0 hL 0 ND;rw[AOo,show (a.add 0).add 0=a from rfl] at h00;have h2:W.cell? a=Z (.int .u8 ((L.getD 0 Mj).lo:Nat)):=h00;exact AGm);obtain⟨e,hbl⟩:=hsp;(have hcell:W.cell? ⟨g,0,Y⟩=Z (.slice (Z a) L.length cap):=by have:=APf hg hvar 0;(have h1:cs[0]?=Z (.slice (Z a) L.length cap):=by rw[←AN4,hcs];rfl);rw[h1] at this;exact this);(have hgl:g<W.heap.size:=by rcases AM7 g W.heap.size with h'|h';(exact h');exact ALB);refine⟨a.block,a.off,cap,by rw[←e];exact hcell,hl,fun k hk=>?_,hbl,hgl⟩;have hh:=each k hk;rw[e] at hh;refine⟨?_,?_,?_,?_⟩;(have:=hh 0 ND;exact AJq);(have:=hh 1 ND;exact AJq);(have:=hh 2 ND;exact AJq);have:=hh 3 ND;exact AJq
theorem AAI:Tryz.prog.globalNamed "sextant/unpack.nums"=Z 0:=by kernel_rfl
theorem AAJ:Tryz.prog.globalNamed "sextant/unpack.bins"=Z 5:=by kernel_rfl
theorem AAH:Tryz.prog.globalNamed "sextant/unpack.strs"=Z 2:=by kernel_rfl
theorem xU:Tryz.prog.globalNamed "sextant/unpack.lists"=Z 6:=by kernel_rfl
theorem xS:Tryz.prog.globalNamed "sextant/unpack.pairs"=Z 1:=by kernel_rfl
theorem ABj:Tryz.prog.globalNamed "errors.errorType"=Z 3:=by kernel_rfl
theorem xP:(Tryz.prog.globals[0]?).map (·.type)=Z 304:=by kernel_rfl
theorem xQ:(Tryz.prog.globals[5]?).map (·.type)=Z 304:=by kernel_rfl
theorem xN:(Tryz.prog.globals[2]?).map (·.type)=Z 304:=by kernel_rfl
theorem tZ:(Tryz.prog.globals[6]?).map (·.type)=Z 304:=by kernel_rfl
theorem tY:(Tryz.prog.globals[1]?).map (·.type)=Z 304:=by kernel_rfl
theorem zO:(Tryz.prog.cutTypes.find? (·.1=="internal/reflectlite.rtype")).map (·.2)=Z 393:=by kernel_rfl
theorem wO:((List.range Tryz.prog.types.size).filter fun t=>Tryz.prog.rowNamed t [101,114,114,111,114])=[129]:=by kernel_rfl
theorem fZ:typeHandle Yw 129=.pointer (Z ⟨7,129,Y⟩):=by kernel_rfl
def ABg:List (String×DataW Unit):=[("sextant/pack.rows",Rows.laid_sextant_pack_rows),("sextant/unpack.nums",Rows.laid_sextant_unpack_nums),("sextant/unpack.bins",Rows.laid_sextant_unpack_bins),("sextant/unpack.strs",Rows.laid_sextant_unpack_strs),("sextant/unpack.lists",Rows.laid_sextant_unpack_lists),("sextant/unpack.pairs",Rows.laid_sextant_unpack_pairs)]
def ABh:List (String×DataW Unit):=[("errors.errorType",Rows.laid_errors_errorType)]
theorem Rb {W:J} (h:laidMetH Yw Rows.validKnownRow.laid W):laidMet Yw ABg W∧handlesMet Yw ABh W:=h
theorem Vy {W:J} (h:laidMetH Yw Rows.validKnownRow.laid W):ACU W.heap.size W:=by
 obtain⟨⟨ps,hv,_⟩,hh⟩:=Rb h;obtain⟨_,_,_,_,_,_,_,_,_,_,hv,_⟩:=hv;obtain⟨g1,t1,c1,f1,p1,_,a1,b1,d1,e1,hv,_⟩:=hv;obtain⟨g2,t2,c2,f2,p2,_,a2,b2,d2,e2,hv,_⟩:=hv;obtain⟨g3,t3,c3,f3,p3,_,a3,b3,d3,e3,hv,_⟩:=hv;obtain⟨g4,t4,c4,f4,p4,_,a4,b4,d4,e4,hv,_⟩:=hv;obtain⟨g5,t5,c5,f5,p5,_,a5,b5,d5,e5,hv,_⟩:=hv
 refine⟨⟨Ns ND AAI xP ⟨g1,t1,c1,f1,p1,a1,b1,d1,e1⟩,Ns ND AAJ xQ ⟨g2,t2,c2,f2,p2,a2,b2,d2,e2⟩,Ns ND AAH xN ⟨g3,t3,c3,f3,p3,a3,b3,d3,e3⟩,
  Ns ND xU tZ ⟨g4,t4,c4,f4,p4,a4,b4,d4,e4⟩,Ns ND xS tY ⟨g5,t5,c5,f5,p5,a5,b5,d5,e5⟩⟩,AMi _,?_⟩
 obtain⟨name,u,ty,x1,x2,x3,x4,x5⟩:=hh _ (AMh.2 rfl);have en:name=[101,114,114,111,114]:=(ANW x1).symm;subst en;obtain rfl:=ANW (zO.symm.trans x2);have hm:ty∈(List.range Tryz.prog.types.size).filter fun t=>Tryz.prog.rowNamed t [101,114,114,111,114]:=APd.2 ⟨ANa.2 x3,x4⟩;rw[wO] at hm;obtain rfl:=AMh.1 hm;rw[fZ] at x5;have:=APf ABj x5 0;exact this
def prD (x:PR):DataW Unit:=.agg [.lit (.int .u64 (x.below:Nat)),.lit (.int .u8 (x.first.toNat:Nat)),.lit (.int .i64 (x.size:Nat))]
def Xx (L:List PR):DataW Unit:=.slice (L.map prD) []
theorem Wn:Tryz.prog.cellsOf 368=3:=by kernel_rfl
theorem jc:Tryz.prog.cellsOf 370=1:=by kernel_rfl
theorem dm {w:J} {base fuel:Nat} {spare:Nat→Bool} {held:Bool} {cs:List Yu} {x:PR} {p:List MemPlace} (h:DataW.trod (fun _=>()) Yw w base spare held fuel 368 cs=Z (prD x,p)):
  cs=prC x:=by obtain⟨ys,n',_,hx,hlen,hl,hf⟩:=DataW.trod_struct Tryz.underlying368 h;rw[Wn] at hlen;(obtain⟨c0,c1,c2,rfl⟩:∃(c0 c1 c2:Yu),cs=[c0,c1,c2]:=by match cs,hlen with|[c0,c1,c2],_=>exact⟨c0,c1,c2,rfl⟩);clear hlen h;(have hl3:ys.length=3:=by rw[hl];rfl);(obtain⟨y0,y1,y2,rfl⟩:∃y0 y1 y2,ys=[y0,y1,y2]:=by match ys,hl3 with|[y0,y1,y2],_=>exact⟨y0,y1,y2,rfl⟩);simp only[prD,ANi,AOG,AOH,APe,List.cons.injEq,and_true] at hx;obtain⟨⟨e0,e1,e2⟩,_⟩:=hx;(have h0:DataW.trod (fun _=>()) Yw w base spare held n' 22 [c0]=Z y0:=by have h:=hf 0 _ rfl;change DataW.trod _ Yw w base spare held n' 22 ((List.drop 0 [c0,c1,c2]).take (Tryz.prog.cellsOf 22))=Z y0 at h;rw[iE] at h;exact h);(have h1:DataW.trod (fun _=>()) Yw w base spare held n' 5 [c1]=Z y1:=by have h:=hf 1 _ rfl;change DataW.trod _ Yw w base spare held n' 5 ((List.drop 1 [c0,c1,c2]).take (Tryz.prog.cellsOf 5))=Z y1 at h;rw[bg] at h;exact h);(have h2:DataW.trod (fun _=>()) Yw w base spare held n' 3 [c2]=Z y2:=by have h:=hf 2 _ rfl;change DataW.trod _ Yw w base spare held n' 3 ((List.drop 2 [c0,c1,c2]).take (Tryz.prog.cellsOf 3))=Z y2 at h;rw[iF] at h;exact h);rw[Jo Tryz.underlying22 h0 e0.symm,Jo Tryz.underlying5 h1 e1.symm,Jo Tryz.underlying3 h2 e2.symm];rfl
theorem di {L:List PR} (hL:0<L.length) {W:J} {fuel:Nat} {cs:List Yu} {y:DataW Unit×List MemPlace} (h:DataW.trod (fun _=>()) Yw W 0 (fun _=>Yy) Yz fuel 370 cs=Z y) (hy:y.1=Xx L):
  ∃gb go c,cs=[.slice (Z ⟨gb,go,Y⟩) L.length c]∧gb<W.heap.size∧∀i,i<L.length→W.rangeAt gb (go+i*3) (prC (L.getD i oW)):=by rcases open_slice Tryz.underlying370 h with⟨_,hx⟩|⟨a,len,cap,m,n,D,Pl,hcs,hb,hl,hm,hmm,hx,hi⟩;(rw[hx] at hy;simp[Xx] at hy);rw[hx] at hy;simp only[Xx,DataW.slice.injEq] at hy;obtain⟨hx1,hx2⟩:=hy;(have hlen:len=L.length:=by have:=ANb List.length hx1;simpa using this);subst hlen;(have hD:∀i,i<L.length→D i=prD (L.getD i oW):=fun i hi=>by have:=ANb (·[i]?) hx1;simp[hi] at this;rw[this];exact AKd);(have hml:L.length≤m:=by rw[AMx rfl] at hmm;omega);(have each:∀i,i<L.length→∀k,k<3→W.cell? ((a.add (i*3)).add k)=(prC (L.getD i oW))[k]?:=by intro i hil;obtain⟨cs',hc,ht⟩:=hi i KA;rw[Wn] at hc;obtain⟨_,hcl,hat⟩:=World.cells?_some hc;rw[hD i hil] at ht;rw[←dm ht];exact hat);(have hsp:a=⟨a.block,a.off,Y⟩∧a.block<W.heap.size:=by have h00:=each 0 hL 0 ND;rw[AOo,show (a.add 0).add 0=a from rfl] at h00;have h2:W.cell? a=Z (.int .u64 ((L.getD 0 oW).below:Nat)):=h00;exact AGm);obtain⟨e,hbl⟩:=hsp;refine⟨a.block,a.off,cap,by rw[←e];exact hcs,hbl,fun k hk j v hv=>?_⟩;(have hj:j<3:=by have:=(AON.1 hv).1;simpa [prC] using this);have hh:=each k hk j hj;rw[e,hv,addr_add,addr_add] at hh;exact hh
theorem uA:Tryz.prog.globalNamed "sextant/pack.rows"=Z 4:=by kernel_rfl
theorem xO:(Tryz.prog.globals[4]?).map (·.type)=Z 371:=by kernel_rfl
theorem lu:(Rows.laid_sextant_pack_rows:DataW Unit)=.agg ((List.range 5).map fun s=>Xx (D5 s)):=by rfl
theorem ku:∀s,s<5→0<(D5 s).length
 |0,_=>by decide
 |1,_=>by decide
 |2,_=>by decide
 |3,_=>by decide
 |4,_=>by decide
 |n+5,h=>absurd h (by omega)
theorem rj {W:J} (h:laidMetH Yw Rows.validKnownRow.laid W):Eg W.heap.size W:=by obtain⟨⟨ps,hv,_⟩,_⟩:=Rb h;obtain⟨g',t,cs,fuel,p,_,hg',ht',hvar,hd,_⟩:=hv;obtain rfl:=ANW (uA.symm.trans hg');obtain rfl:=ANW (xO.symm.trans ht');obtain⟨xs,m,_,hx,hcl,hl,hf⟩:=DataW.trod_array Tryz.underlying371 hd;rw[lu] at hx;simp only[AOH,APe] at hx;obtain⟨hx,_⟩:=hx;(have hc5:cs.toList.length=5:=by rw[hcl];kernel_rfl);intro s hs;have hxs:s<xs.length:=KA;have hfs:=hf s hs;rw[jc,AN0,AMe hxs] at hfs;(have hxv:(xs[s]).1=Xx (D5 s):=by have h1:=ANb (·[s]?) hx;simp only[ANI,AMe hxs,AOp hs,Option.map_some] at h1;exact (ANW h1).symm);obtain⟨gb,go,c,hcs,hbl,hrow⟩:=di (ku s hs) hfs hxv;(have hcell:W.cell? ⟨4,s,Y⟩=Z (.slice (Z ⟨gb,go,Y⟩) (D5 s).length c):=by have:=APf uA hvar s;rw[this,←AN4];(have h1:(cs.toList.drop s).take 1=[cs.toList[s]'KA]:=by rw[AOM KA];rfl);rw[h1] at hcs;rw[AMe KA];exact ANb Z (List.cons.inj hcs).1);(have hgl:4<W.heap.size:=by rcases AM7 4 W.heap.size with h'|h';(exact h');exact ALB);exact⟨gb,go,c,hcell,hbl,hbl,hgl,hgl,hrow⟩
theorem xW {W:J} (h:laidMetH Yw Rows.validKnownRow.laid W):oO W.heap.size W:=
 ⟨(Vy h).tabs,rj h,(Vy h).low,(Vy h).err⟩
end Go.Proofs.YtiapejgiinidhaaGreatDoor
namespace Go.Proofs.YtiapejgiinidhaaGreatDoor.validKnown
open Value renaming int→Yg,string→O,slice→Yh,bool→Yl,tuple→Ym,iface→Yo,agg→Yr
open IntKind renaming u64→V,i64→Yj,u8→Yq
open Obj renaming cells→Yk
open Ending renaming returned→Yi
open Go renaming World→J,Value→Yu,Calls→Yv
open Go.Proofs.Tryz renaming prog→Yw
open Option renaming some→Z,none→Y
open Bool renaming true→Yy,false→Yz
open Go.ChangeShapes Go.WideShapes Go.ChangeAt Go.RowKit
theorem own:ownKnob Tryz.prog.godebug=none:=by kernel_rfl
theorem contract (H:Type) (enc:TypeId×Yu→H) (W:J) (base:Nat) (args:Array Yu) (ds gs:List (DataW H)) (before:List MemPlace)
  (hval:∀(j:Nat) t v,Tryz.f3.params[j]?=Z t→args[j]?=Z v→Value.okWide Yw W .any base t v)
  (hW:DataW.Whole enc Yw Tryz.f3.params.toList Rows.validKnownSpec.vars Yz W args.toList ds gs before) (hL:laidMetH Yw Rows.validKnownRow.laid W):
  Yv Yw 3 args W fun e W'=>∃v,e=.returned v∧Rows.validKnownSpec.post enc Yw Tryz.f3 Yz Yy Yz Yz W args v W':=by have hW':=hW;obtain⟨p,q,hA0,hV,rfl,hfz,hnd⟩:=hW;have hA:DataW.TrodAll enc Yw W 0 (fun _=>Yy) Yy Tryz.f3.params.toList args.toList ds p:=hA0;rw[Tryz.params3] at hA hval;obtain⟨rfl,rfl,rfl⟩:=trodAll_none hA;obtain⟨rfl,rfl⟩:=trodVars_none hV;clear hA0;simp only[AM2] at hW';refine (Wi W.heap.size W (xW hL)).mono fun e W' ⟨he,hb⟩=>?_;subst he;have bel:Below W.heap.size W W':=hb.later;exact⟨_,rfl,_,_,_,[],_,[],hW',trodAll_mk1 (shut_bool Tryz.underlying4 _),trodAll_mk0,rfl,bel.frame _,fun h=>Ze⟩
noncomputable def low:Nat:=(World.holding Yw default ⟨#[],#[],[]⟩).heap.size
noncomputable def FM (os:Os):J:=
 let w0:=World.holding Yw os ⟨#[Yk #[Yg V 128,Yg Yq 0,Yg Yj 0,Yg V 256,Yg Yq 204,Yg Yj 1,Yg V 65536,Yg Yq 205,Yg Yj 2,Yg V 4294967296,Yg Yq 206,Yg Yj 4,Yg V 0,Yg Yq 207,Yg Yj 8] 368,
  Yk #[Yg V 256,Yg Yq 196,Yg Yj 1,Yg V 65536,Yg Yq 197,Yg Yj 2] 368,
  Yk #[Yg V 32,Yg Yq 160,Yg Yj 0,Yg V 256,Yg Yq 217,Yg Yj 1,Yg V 65536,Yg Yq 218,Yg Yj 2] 368,
  Yk #[Yg V 16,Yg Yq 144,Yg Yj 0,Yg V 65536,Yg Yq 220,Yg Yj 2] 368,
  Yk #[Yg V 16,Yg Yq 128,Yg Yj 0,Yg V 65536,Yg Yq 222,Yg Yj 2] 368,
  Yk #[Yg Yq 0,Yg Yq 127,Yg Yj 0,Yg V 0,Yg Yq 204,Yg Yq 204,Yg Yj 1,Yg V 128,Yg Yq 205,Yg Yq 205,Yg Yj 2,Yg V 256,Yg Yq 206,Yg Yq 206,Yg Yj 4,Yg V 65536,Yg Yq 207,Yg Yq 207,Yg Yj 8,Yg V 4294967296] 374,
  Yk #[Yg Yq 196,Yg Yq 196,Yg Yj 1,Yg V 0,Yg Yq 197,Yg Yq 197,Yg Yj 2,Yg V 256] 374,
  Yk #[Yg Yq 160,Yg Yq 191,Yg Yj 0,Yg V 0,Yg Yq 217,Yg Yq 217,Yg Yj 1,Yg V 32,Yg Yq 218,Yg Yq 218,Yg Yj 2,Yg V 256] 374,
  Yk #[Yg Yq 144,Yg Yq 159,Yg Yj 0,Yg V 0,Yg Yq 220,Yg Yq 220,Yg Yj 2,Yg V 16] 374,
  Yk #[Yg Yq 128,Yg Yq 143,Yg Yj 0,Yg V 0,Yg Yq 222,Yg Yq 222,Yg Yj 2,Yg V 16] 374],#[],[]⟩
 {w0 with heap:=(((((((w0.heap.modify 4 fun
   |.cells _ t frozen=>Yk #[Yh (low+0:Nat) 5 5,Yh (low+1:Nat) 2 2,Yh (low+2:Nat) 3 3,Yh (low+3:Nat) 2 2,Yh (low+4:Nat) 2 2] t frozen
   |o=>o).modify 0 fun
   |.cells _ t frozen=>Yk #[Yh (low+5:Nat) 5 5] t frozen
   |o=>o).modify 5 fun
   |.cells _ t frozen=>Yk #[Yh (low+6:Nat) 2 2] t frozen
   |o=>o).modify 2 fun
   |.cells _ t frozen=>Yk #[Yh (low+7:Nat) 3 3] t frozen
   |o=>o).modify 6 fun
   |.cells _ t frozen=>Yk #[Yh (low+8:Nat) 2 2] t frozen
   |o=>o).modify 1 fun
   |.cells _ t frozen=>Yk #[Yh (low+9:Nat) 2 2] t frozen
   |o=>o).modify 3 fun
   |.cells _ t frozen=>Yk #[Yo 393 (Yr #[.pointer (Z ⟨7,129,Y⟩)])] t frozen
   |o=>o)}
theorem tI (os:Os):laidMetH Yw Rows.validKnownRow.laid ((FM os).forCall (fun _ _=>0) ⟨#[],#[],[]⟩).memory:=
 laidMetH_of_parts (laidMet_of_run' 8 NA NA) NA
theorem reads (os:Os) {H:Type} (enc:TypeId×Yu→H):∃places,DataW.whole enc Yw ((FM os).forCall (fun _ _=>0) ⟨#[],#[],[]⟩).memory Tryz.f3.params.toList Rows.validKnownSpec.vars Yz (#[]:Array Yu).toList 8=Z ([],[],places):=
 ⟨[],NA⟩
theorem hv (os:Os):((FM os).forCall (fun _ _=>0) ⟨#[],#[],[]⟩).variablesRefB Tryz.checked.prog=true:=by kernel_rfl
theorem hr (os:Os):(((FM os).forCall (fun _ _=>0) ⟨#[],#[],[]⟩).heap.toList.drop Tryz.checked.prog.globals.size).take ((begin Tryz.checked.prog (fun _ _=>0) default).world.heap.size-Tryz.checked.prog.globals.size)=(begin Tryz.checked.prog (fun _ _=>0) default).world.heap.toList.drop Tryz.checked.prog.globals.size:=by kernel_rfl
theorem hok (os:Os):Input.okWideB Tryz.checked.prog ((FM os).forCall (fun _ _=>0) ⟨#[],#[],[]⟩) 3 ⟨#[],#[],[]⟩=true:=by kernel_rfl
theorem ni:Tryz.checked.prog.inits.idxOf? 3=none:=by kernel_rfl
theorem hc {H:Type}:Rows.validKnownRow.domain.all (PathCond.test (H:=H) Yw ⟨Tryz.f3.params.toList,[],(OpenSpec.ofChange Rows.validKnownSpec).bare.plain.varTypes Yw,[]⟩)=true:=by kernel_rfl
theorem hsz (os:Os) {H:Type} (enc:TypeId×Yu→H):(OpenSpec.ofChange Rows.validKnownSpec).bare.sizedB enc Yw Tryz.f3 Yz ((FM os).forCall (fun _ _=>0) ⟨#[],#[],[]⟩).memory #[] 8=true:=by kernel_rfl
theorem ACE (os:Os) {H:Type} (enc:TypeId×Yu→H):(OpenSpec.ofChange Rows.validKnownSpec).preRow enc Yw Tryz.f3 Rows.validKnownRow.domain Yz Rows.validKnownRow.laid ((FM os).forCall (fun _ _=>0) ⟨#[],#[],[]⟩).memory #[]:=by obtain⟨places,hx⟩:=reads os enc;exact OpenSpec.preRow_of_cond 8 hx hc (fun k hk=>AEJ) (hsz os enc) (tI os)
theorem wit (os:Os) {H:Type} (enc:TypeId×Yu→H):∃(w:J) (tape:Tape) (i:Input),w.os=os∧(w.forCall tape i).Shaped Tryz.checked.prog∧i.vars=[]∧Input.okWide Tryz.checked.prog (w.forCall tape i) .any w.heap.size 3 i∧
   (OpenSpec.ofChange Rows.validKnownSpec).preRow enc Tryz.checked.prog Tryz.f3 Rows.validKnownRow.domain Yz Rows.validKnownRow.laid (w.forCall tape i).memory i.args∧({modest:=Yz}:Assume).holds Tryz.checked.prog (lone (Frame.enter Tryz.checked.prog 3 i.args .normal) [] (w.forCall tape i)):=
 witness_row_atRef (enc:=enc) (C:=Tryz.checked) Yz (FM os) #[] rfl (hv os) (hr os) (hok os) (ACE os enc)
theorem lifted (os:Os) (started:os.Started) (H:Type) (enc:TypeId×Yu→H) (F:Stop.Interp):
  ReturnsInHanded {} Tryz.checked os 3 .any ((OpenSpec.ofChange Rows.validKnownSpec).preRow enc Yw Tryz.f3 Rows.validKnownRow.domain Yz Rows.validKnownRow.laid) (((OpenSpec.ofChange Rows.validKnownSpec).at F).post enc Yw Tryz.f3 Yz Yy Yz Yz):=by refine returnsInHanded_of_row (C:=Tryz.checked) (s:=OpenSpec.ofChange Rows.validKnownSpec) own started ni Tryz.func3 (wit os enc) ?_;intro W base args ds gs before hval hW _ _ _ hL _ _;exact contract H enc W base args ds gs before hval hW hL
theorem k10:(Rows.validKnownRow.inPlace==Tryz.pinned.checked.prog.inPlace 3)=true:=by kernel_rfl
theorem k11:(Rows.validKnownRow.unfollowed==Tryz.pinned.checked.prog.unfollowed 3)=true:=by kernel_rfl
theorem k12:(Rows.validKnownRow.recurses==Tryz.pinned.checked.prog.recurses 3)=true:=by kernel_rfl
theorem k13:(Rows.validKnownRow.named==Tryz.pinned.checked.prog.varsNamed 3)=true:=by kernel_rfl
theorem bK {a b:Bool} (h1:a=Yy) (h2:b=Yy):(a&&b)=true:=by rw[h1,h2];rfl
theorem closed:joinedFacts Tryz.pinned.checked.prog 3 Tryz.f3 (OpenSpec.ofChange Rows.validKnownSpec).bare Rows.validKnownRow=true:=by unfold joinedFacts;(iterate 19 (refine bK ?_ NA));refine bK (bK (bK (bK ?_ k10) k11) k12) k13;kernel_rfl
theorem said:Rows.ValidKnownSaid:=
 OpenClaim.holds_of_cond 3 Tryz.f3 rfl rfl rfl rfl rfl rfl rfl ⟨rfl,rfl,rfl,rfl,rfl⟩ rfl rfl rfl rfl rfl NA Tryz.func3 closed
  (APQ NA) (by unfold Func.isWrapper;first|(rw[AMx PV];kernel_rfl)|(rw[AMu PV];exact⟨rfl,rfl⟩))
  (fun os started H enc _ F=>by rw[OpenClaim.pre_eq_preRow];exact lifted os started H enc F)
theorem plain (f:FuncId) (fn:Func) (hf:Tryz.pinned.checked.prog.funcNamed "sextant/sextantlaw22.ValidKnown"=Z f) (hfn:Tryz.pinned.checked.prog.funcs[f]?=Z fn):
  Yy=Tryz.pinned.checked.prog.looks []∧∀(j:Nat) t,fn.params[j]?=Z t→Tryz.pinned.checked.prog.wantsStandIn t=false:=by obtain rfl:f=3:=ANW ((show Tryz.prog.funcNamed "sextant/sextantlaw22.ValidKnown"=Z 3 by kernel_rfl).symm.trans hf) |>.symm;obtain rfl:fn=Tryz.f3:=(ANW (Tryz.func3.symm.trans hfn)).symm;refine⟨NA,fun j t ht=>?_⟩;rw[Tryz.params3] at ht;cases ht
theorem card:Rows.ValidKnownCardSaid:=
 Claim7.holds_tied_plain_at .later [] _ _ _ _ said (fun _ h=>Ze) NA (fun _ h=>Ze) validKnown_row_tie rfl ⟨rfl,rfl⟩ NA rfl plain NA
end Go.Proofs.YtiapejgiinidhaaGreatDoor.validKnown
