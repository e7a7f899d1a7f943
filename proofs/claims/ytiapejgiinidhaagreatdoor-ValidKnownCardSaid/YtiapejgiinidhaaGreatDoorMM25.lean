import Derived.Test.YtiapejgiinidhaaGreatDoorMM24
set_option linter.all false
set_option maxRecDepth 100000
set_option maxHeartbeats 40000000
namespace Go.Proofs.YtiapejgiinidhaaGreatDoor
open Value renaming int→Yg,pointer→U,string→O,func→G,slice→Yh,bool→Yl,tuple→Ym,nilIface→Yn,iface→Yo,nilFunc→Yp,agg→Yr
open IntKind renaming u64→V,i64→Yj
open Obj renaming cells→Yk
open Ending renaming returned→Yi
open Fn renaming func→M
open Go renaming World→J,Value→Yu,Calls→Yv,undef→Yx
open Go.Proofs.Tryz renaming prog→Yw
open Option renaming some→Z,none→Y
open Bool renaming true→Yy,false→Yz
open Go Go.RowKit
namespace Full
theorem ES {k:Nat} {o:Option CW} {w:J} {cs:Array Yu} (h:Cj k o w cs):∃n:Nat,cs[k]?=Z (Yg V n):=by match o,h with|none,h=>exact⟨0,h⟩|some (.num n),h=>exact⟨n,h⟩
theorem Wu {k:Nat} {o:Option CW} {w:J} {cs:Array Yu} (h:JY k o w cs):∃y:Bool,cs[k]?=Z (Yl y):=by match o,h with|none,h=>exact⟨Yz,h⟩|some (.flag n),h=>exact⟨_,h⟩
theorem Qm {k:Nat} {o:Option CW} {w:J} {cs:Array Yu} (h:JB k o w cs):∃s:ByteArray,cs[k]?=Z (.string s):=by match o,h with|none,h=>exact⟨_,h⟩|some (.txt n),h=>exact⟨_,h⟩
theorem Hw {k:Nat} {o:Option CW} {w:J} {cs:Array Yu} (h:DK k o w cs):∃(A:Option Addr) (n c:Nat),cs[k]?=Z (.slice A n c):=by match o,h with|none,h=>exact⟨Y,0,0,h⟩|some (.digs l),⟨A,c,h,_⟩=>exact⟨A,l.length,c,h⟩
theorem Ws {k:Nat} {o:Option CW} {w:J} {cs:Array Yu} (h:JX k o w cs):∃(A:Option Addr) (n c:Nat),cs[k]?=Z (.slice A n c):=by match o,h with|none,h=>exact⟨Y,0,0,h⟩|some (.nums l),⟨A,c,h,_⟩=>exact⟨A,l.length,c,h⟩
theorem MU {n:Nat} {St:Nat→Option CW→J→Array Yu→Prop} {fe:Nat→Bool} {o:Option CW} {w:J} {cs:Array Yu} (h:FV n St fe o w cs):∀i,i<n→∃o',St i o' w cs:=by match o,h with|none,h=>exact fun i hi=>⟨Y,h i hi⟩|some (.sub any rs),⟨_,h⟩=>exact fun i hi=>⟨look rs i,h i hi⟩
theorem qw {cs0 cs:Array Yu} {fr:Nat} {rs:List (Nat×CW)} {w:J} (h0:cs0.size=11) (h:oL 3 C8 0 11 cs0 fr rs w cs):∃p l y i A1 n1 c1 A2 n2 c2 r wt fi li ke,cs=EB p l y i A1 n1 c1 A2 n2 c2 r wt fi li ke:=by obtain⟨_,h1,h2⟩:=h;obtain⟨p,hp⟩:=ES (h1 0 ND);have hpart:=MU (h1 1 ND);have hslot:=MU (h1 2 ND);obtain⟨_,q0⟩:=hpart 0 ND;obtain⟨fi,q0⟩:=ES q0;obtain⟨_,q1⟩:=hpart 1 ND;obtain⟨ke,q1⟩:=ES q1;obtain⟨_,q2⟩:=hpart 2 ND;obtain⟨li,q2⟩:=ES q2;obtain⟨_,q3⟩:=hpart 3 ND;obtain⟨r,q3⟩:=Qm q3;obtain⟨_,q4⟩:=hpart 4 ND;obtain⟨wt,q4⟩:=ES q4;obtain⟨_,s0⟩:=hslot 0 ND;have hsig:=MU s0;obtain⟨_,s1⟩:=hslot 1 ND;obtain⟨l,s1⟩:=ES s1;obtain⟨_,s2⟩:=hslot 2 ND;obtain⟨y,s2⟩:=Wu s2;obtain⟨_,g0⟩:=hsig 0 ND;obtain⟨i,g0⟩:=ES g0;obtain⟨_,g1⟩:=hsig 1 ND;obtain⟨A2,n2,c2,g1⟩:=Hw g1;obtain⟨_,g2⟩:=hsig 2 ND;obtain⟨A1,n1,c1,g2⟩:=Hw g2;refine⟨p,l,y,i,A1,n1,c1,A2,n2,c2,r,wt,fi,li,ke,?_⟩;refine ANp fun k=>?_;match k with|0=>exact hp|1=>exact s1|2=>exact s2|3=>exact g0|4=>exact g2|5=>exact g1|6=>exact q3|7=>exact q4|8=>exact q0|9=>exact q2|10=>exact q1|k+11=>rw[h2 (k+11) (Or.inr KA),AMz KA,AMz (by show 11≤_;omega)]
theorem kM (w:J):∀i,i<3→C8 i Y w wB:=fun i hi=>by
 match i,hi with
 |0,_=>rfl
 |1,_=>
  intro j hj
  match j,hj with
  |0,_=>rfl
  |1,_=>rfl
  |2,_=>rfl
  |3,_=>rfl
  |4,_=>rfl
 |2,_=>
  intro j hj
  match j,hj with
  |0,_=>
   intro k hk
   match k,hk with
   |0,_=>rfl
   |1,_=>rfl
   |2,_=>rfl
  |1,_=>rfl
  |2,_=>rfl
theorem Ht {k:Nat} {o:Option CW} {tx:TypeId} {w w':J} {cs:Array Yu} (h:DK k o w cs) (hk:Ff (Tq tx) w w'):DK k o w' cs:=by match o,h with|none,h=>exact h|some (.digs l),⟨A,c,h,ho⟩=>exact⟨A,c,h,EF ho hk (Or.inl rfl)⟩
theorem MT {n:Nat} {St:Nat→Option CW→J→Array Yu→Prop} {fe:Nat→Bool} {o:Option CW} {w w':J} {cs:Array Yu} (h:FV n St fe o w cs) (hs:∀i o,i<n→St i o w cs→St i o w' cs):FV n St fe o w' cs:=by match o,h with|none,h=>exact fun i hi=>hs i _ hi (h i hi)|some (.sub any rs),⟨h1,h2⟩=>exact⟨h1,fun i hi=>hs i _ hi (h2 i hi)⟩
theorem EQ {k:Nat} {o:Option CW} {w w':J} {cs:Array Yu} (h:Cj k o w cs):Cj k o w' cs:=by match o,h with|none,h=>exact h|some (.num n),h=>exact h
theorem Wt {k:Nat} {o:Option CW} {w w':J} {cs:Array Yu} (h:JY k o w cs):JY k o w' cs:=by match o,h with|none,h=>exact h|some (.flag n),h=>exact h
theorem Ql {k:Nat} {o:Option CW} {w w':J} {cs:Array Yu} (h:JB k o w cs):JB k o w' cs:=by match o,h with|none,h=>exact h|some (.txt n),h=>exact h
theorem MI {tx:TypeId} {w w':J} {cs:Array Yu} (hk:Ff (Tq tx) w w'):∀i o,i<3→C8 i o w cs→C8 i o w' cs:=fun i o hi h=>by
 match i,hi with
 |0,_=>exact EQ h
 |1,_=>
  refine MT h fun j o' hj h'=>?_
  match j,hj with
  |0,_=>exact EQ h'
  |1,_=>exact EQ h'
  |2,_=>exact EQ h'
  |3,_=>exact Ql h'
  |4,_=>exact EQ h'
 |2,_=>
  refine MT h fun j o' hj h'=>?_
  match j,hj with
  |0,_=>
   refine MT h' fun k o'' hk' h''=>?_
   match k,hk' with
   |0,_=>exact EQ h''
   |1,_=>exact Ht h'' hk
   |2,_=>exact Ht h'' hk
  |1,_=>exact EQ h'
  |2,_=>exact Wt h'
def EI (w:J):List (List (Nat×CW))→List (Array Yu)→Prop
 |[],[]=>True
 |x::l,cs::css=>(cs.size=11∧∀i,i<3→C8 i (look x i) w cs)∧EI w l css
 |_,_=>False
theorem EI.stay {tx:TypeId} {w w':J} (hk:Ff (Tq tx) w w'):∀{l:List (List (Nat×CW))} {css:List (Array Yu)},EI w l css→EI w' l css
 |[],[],_=>trivial
 |x::l,cs::css,h=>⟨⟨h.1.1,fun i hi=>MI hk i _ hi (h.1.2 i hi)⟩,EI.stay hk h.2⟩
theorem EI.snoc {w:J} {x:List (Nat×CW)} {cs:Array Yu} (hx:cs.size=11∧∀i,i<3→C8 i (look x i) w cs):∀{l:List (List (Nat×CW))} {css:List (Array Yu)},EI w l css→EI w (l++[x]) (css++[cs])
 |[],[],_=>⟨hx,trivial⟩
 |y::l,d::css,h=>⟨h.1,EI.snoc hx h.2⟩
def j6 (css:List (Array Yu)):List Yu:=css.flatMap (·.toList)
theorem qW (css:List (Array Yu)) (cs:Array Yu):j6 (css++[cs])=j6 css++cs.toList:=by simp[j6]
theorem nG {B gR g:Nat} {S rest:List UInt8} {W:J} (h:RS B gR g S W rest) (q:Nat) (hq:AJ W q wB 70) (hd:q≠g∧q≠gR∧B≤q):
  Yv Yw 171 #[U gR,U q] W fun e w'=>DS B gR g S [q] W (EJ DL Dr rest) (fun x w'=>∃p l y i A1 n1 c1 A2 n2 c2 r wt fi li ke,AJ w' q (EB p l y i A1 n1 c1 A2 n2 c2 r wt fi li ke) 70∧∀j,j<3→C8 j (look x j) w' (EB p l y i A1 n1 c1 A2 n2 c2 r wt fi li ke)) e w':=by
 have E:Env B gR g q 70 W.heap.size:=⟨h.rd.lt,h.rR.lt,hq.lt,hd.1,hd.2.1,hd.2.2,ND⟩;have HM:=sq (Xm (S:=S) (tx:=70) E);have H:=sq h;have HQ:=sq hq;have D:=sq hd;clear h hq hd E;go_in;go_wp2_with fail;refine HM.o.mono ?_;rintro e w1 ⟨v,rfl,⟨gl,F,rfl,hl,hF,hz,hk,hm,⟨K⟩⟩,hlt⟩;have hb1:But [] W w1:=APv hlt;(have hgl:gl≠g∧gl≠q:=by have h1:=H.o.rd.lt;have h2:=HQ.o.lt;omega);have hO:=Ma (sU K (fun i j hi hj=>dO i j (by rw[←hl];exact hi) (by rw[←hl];exact hj)) wB 0 11 (fun i hi=>kL i (by rw[←hl];exact hi)) ND) gl 3 wB (H.o.zero hb1) hF (HQ.o.but hb1 NC) ⟨fun p hp=>(by cases hp),fun i hi=>kM _ i (by rw[hl] at hi;exact hi),Same.refl _ _ _⟩ ⟨hgl.1,hgl.2,D.o.1,D.o.2.1,D.o.2.2⟩ (by rw[hl];decide) (fun i=>by rw[hk];exact Si i) (by rw[hl];decide);rw[Kc hl hk hm] at hO
 have hO2:Shut (Yv Yw 154 #[U gR,Yh gl 3 3] w1 fun e w'=>DS B gR g S [q] W (EJ DL Dr rest) (fun x w'=>∃p l y i A1 n1 c1 A2 n2 c2 r wt fi li ke,AJ w' q (EB p l y i A1 n1 c1 A2 n2 c2 r wt fi li ke) 70∧∀j,j<3→C8 j (look x j) w' (EB p l y i A1 n1 c1 A2 n2 c2 r wt fi li ke)) e w'):=⟨by
  have h3:F.length=3:=hl;rw[h3] at hO;refine hO.mono fun e w' hh=>?_
  have:=DS.from (hh.map (fun x=>x) (P':=fun x w'=>∃p l y i A1 n1 c1 A2 n2 c2 r wt fi li ke,AJ w' q (EB p l y i A1 n1 c1 A2 n2 c2 r wt fi li ke) 70∧∀j,j<3→C8 j (look x j) w' (EB p l y i A1 n1 c1 A2 n2 c2 r wt fi li ke)) fun rs hp=>by
   obtain⟨fr,cs',h1,h2⟩:=hp;obtain⟨p,l,y,i,A1,n1,c1,A2,n2,c2,r,wt,fi,li,ke,rfl⟩:=qw rfl h2;exact⟨p,l,y,i,A1,n1,c1,A2,n2,c2,r,wt,fi,li,ke,h1,h2.2.1⟩) hb1.nil
  simpa using this⟩
 clear hO K hF HM hk hm;go_wp2_with fail;refine hO2.o.mono ?_;rintro e w2 hE;have HE:=sq hE;rcases hE.cases with rfl|⟨p,rfl⟩;(·clear hE;go_wp2_with fail;go_end0;exact HE.o);clear hE;go_wp2_with fail;exact⟨rfl,HE.o⟩
theorem Vu {B gR g:Nat} {S rest:List UInt8} {W:J} (h:RS B gR g S W rest) (v1 v2 v3 gx k m:Nat) (cs:Array Yu) (tx:TypeId)
  (h1:AJ W v1 #[Yg Yj m] 3) (h2:AJ W v2 #[G (M 171) #[] #[]] 244) (h3:AJ W v3 #[.pointer (Z ⟨gx,k,Y⟩)] 237) (hx:AJ W gx cs tx) (hk:cs[k]?=Z (.slice Y 0 0))
  (hg:v1≠g∧v2≠g∧v3≠g∧gx≠g∧gx≠gR∧v1≠gx∧v2≠gx∧v3≠gx∧B≤gx) (hm:m<100000) (txs:tx≠9):
  Yv Yw 243 #[U gR,U v1,U v2,U v3] W fun e w'=>DS B gR g S [gx] W (Mc (EJ DL Dr) m rest) (fun l w'=>∃A c css,AJ w' gx (cs.setIfInBounds k (.slice A l.length c)) tx∧w'.ownsRow W.heap.size 70 11 (.slice A l.length c) l.length (j6 css)∧EI w' l css) e w':=by
 obtain⟨H,D,V1,V2,V3,X0,K,c1,HL⟩:=AI6;have TXS:=sq txs;clear txs;clear h hg h1 h2 h3 hx hk;go_in;go_wp2_with fail;refine HL.o.mono ?_;rintro e w1 ⟨hb1,hE⟩;rcases ho:ML m rest with _|⟨n,r⟩;(exact AGK);rw[ho] at hE;obtain⟨rfl,hr1⟩:=hE;obtain⟨hnm,HO,R1,B1⟩:=AJF;have X1:=sq (X0.o.but hb1 (by simpa using D.o.2.2.2.1));clear hb1 hr1 ho c1;simp only[OQ];go_wp2_with fail;go_loopw [9] (fun i wr=>∃j:Nat,∃v l acc css,i=Yg Yj j∧j≤n∧RS B gR g S wr l∧Dp (EJ DL Dr) n r=(Dp (EJ DL Dr) (n-j) l).map (fun p=>(acc++p.1,p.2))∧acc.length=j∧EI wr acc css∧AJ wr gx (cs.setIfInBounds k v) tx∧(∃A c,v=.slice A j c)∧wr.ownsRow W.heap.size 70 11 v j (j6 css)∧But (g::[gx]) W wr) (fun i _=>n-(intOf i).toNat);(case atStart=>refine⟨0,.slice Y 0 0,r,[],[],rfl,KA,R1.o,(JV _ _ _).symm,rfl,trivial,?_,⟨Y,0,rfl⟩,⟨rfl,Or.inl ⟨rfl,rfl⟩⟩,B1.o⟩;rw[set_self K.o];exact X1.o)
 case round=>
  obtain⟨j,v,l,acc,css,rfl,hj,hrs,hti,hacc,hrv,hbx,hvf,hrow,hbb⟩:=hrel;have RS0:=sq hrs;have TI:=sq hti;have AC:=sq hacc;have RV:=sq hrv;have BX:=sq hbx;have VF:=sq hvf;have RW:=sq hrow;have BB:=sq hbb;have e2:=(V2.o.but hbb YN).cell 0 rfl;have l2:=(V2.o.but hbb YN).lt;clear R1 B1 X1 hrs hti hacc hrv hbx hvf hrow hbb;by_cases hjn:j<n
  ·have hjn':=AGN;have HQ:=sq (APw wr #[Yg V 0,Yg V 0,Yl Yz,Yg V 0,.slice Y 0 0,.slice Y 0 0,O ⟨#[]⟩,Yg V 0,Yg V 0,Yg V 0,Yg V 0] 70);have BQ:=sq ((APu [] wr).alloc (Yk #[Yg V 0,Yg V 0,Yl Yz,Yg V 0,.slice Y 0 0,.slice Y 0 0,O ⟨#[]⟩,Yg V 0,Yg V 0,Yg V 0,Yg V 0] 70));go_wp2_with fail;generalize hwq:wr.alloc (Yk #[Yg V 0,Yg V 0,Yl Yz,Yg V 0,.slice Y 0 0,.slice Y 0 0,O ⟨#[]⟩,Yg V 0,Yg V 0,Yg V 0,Yg V 0] 70)=wq at*;obtain⟨q,hq⟩:∃q,q=wr.heap.size:=⟨_,rfl⟩;rw[←hq];rw[←hq] at HQ;have HQE:=sq hq;clear hq hwq;(have hWq:W.heap.size≤q:=by rw[HQE.o];exact BB.o.size);(have hqd:q≠g∧q≠gR∧B≤q∧gx≠q:=by have h1:=RS0.o.rd.lt;have h2:=RS0.o.rR.lt;have h3:=RS0.o.hB;have h4:=BX.o.lt;have h5:=HQE.o;omega);refine (nG (RS0.o.zero BQ.o) q HQ.o ⟨hqd.1,hqd.2.1,hqd.2.2.1⟩).mono ?_;rintro e w2 ⟨hb2,hE2⟩;have BW2:Shut (But (g::[gx]) W w2):=⟨(BB.o.trans2 BQ.o NC).trans2 hb2 (AHD)⟩;rcases hd:(EJ DL Dr) l with _|⟨x,l'⟩;(·rw[hd] at hE2;obtain⟨p,rfl⟩:=hE2;go_wp2_with fail;refine⟨rfl,BW2.o,?_⟩;simp only[Mc,HO.o,TI.o,KT hjn hd];exact⟨p,rfl⟩);rw[hd] at hE2;obtain⟨rfl,hrs2,hblk2⟩:=hE2;obtain⟨p,lL,y,ix,A1,n1,c1,A2,n2,c2,rt,wt,fi,li,ke,hblk2,hst2⟩:=hblk2;rw[EB] at hblk2;have ST2:Shut (∀i,i<3→C8 i (look x i) w2 (EB p lL y ix A1 n1 c1 A2 n2 c2 rt wt fi li ke)):=⟨hst2⟩;clear hst2;have RV2:Shut (EI w2 acc css):=⟨(RV.o.stay (BQ.o.keeps0 (Tq 70))).stay (hb2.keepsT (T:=Tq 70) fun b hbm cs1 t1 hB=>by rcases AM1.1 hbm with rfl|hbm;(have hr:=(RS0.o.zero BQ.o).rd;unfold Rd AJ at hr;unfold AJ at hB;rw[hr] at hB;cases hB;exact Ii _);obtain rfl:=AMh.1 hbm;have hr:=HQ.o;exact ALA)⟩;have RS2:=sq hrs2;have HD:=sq hd;have Q2:=sq hblk2;have X2:Shut (AJ w2 gx (cs.setIfInBounds k v) tx):=⟨(BX.o.but BQ.o NC).but hb2 YN⟩;have RW2:Shut (w2.ownsRow W.heap.size 70 11 v j (j6 css)):=⟨by have hxs:=RW.o;refine AA (AA hxs BQ.o NC) hb2 ?_;intro k hk hvk;have h1:=C5 hxs hvk;have h2:=RS0.o.rd.lt;have h3:=HQE.o;have h4:=H.o.rd.lt;simp at hk;omega⟩;have V32:Shut (AJ w2 v3 #[.pointer (Z ⟨gx,k,Y⟩)] 237):=⟨V3.o.but BW2.o YN⟩;obtain⟨A,c,hvv⟩:=VF.o;have VV:=sq hvv;(have hks:(cs.setIfInBounds k v)[k]?=Z v:=by have:=(AMm.1 K.o).1;exact AIa);have HKS:=sq hks;subst hvv;have hBW:B≤W.heap.size:=H.o.hB;have HBW:=sq (AMc hBW (AMc H.o.rd.lt (AMc H.o.rR.lt (AMc X0.o.lt hWq))));obtain⟨XX,hXX⟩:∃XX,XX=(Value.slice A j c).ownBlock.toList:=⟨_,rfl⟩;have HXX:=sq hXX;(have hxm:∀b∈XX,W.heap.size≤b∧b<q:=by intro b hb;rw[hXX] at hb;have hxs:=RW.o;have:=C5 hxs (AMw.1 hb);rw[HQE.o];exact this);have HX:Shut (v3∉XX∧gx∉XX∧q∉XX∧g∉XX∧gR∉XX∧(∀b∈XX,W.heap.size≤b)):=⟨by have h1:=V3.o.lt;have h2:=X0.o.lt;have h3:=H.o.rd.lt;have h4:=H.o.rR.lt;exact AGV⟩;have KX:Shut (∀W6,But XX w2 W6→Ff (Tq 70) w2 W6):=⟨fun W6 hb=>hb.keepsT fun b hbm cs1 t1 hB=>by rw[hXX] at hbm;rw[(AL RW2.o b hbm).2 cs1 t1 hB];exact GH ND⟩;clear hb2 hrs2 hblk2 hd HQ BQ BX RW e2 l2 hks VF hBW hWq hqd hXX hxm;go_wp2_with fail;have hd2:=AKk;refine Bh NA XX [6] [8] ?_;refine Ay 0 (h:=VA) ?_;refine Ay 1 (h:=VA) ?_;refine Ay 2 ?_;refine Ay 3 (h:=by intro W1 hl;have e0:=(X2.o.but (hd2.nil.trans hl) HX.o.2.1).cell k HKS.o;go_simp<;>with_reducible rfl) ?_;refine Ay 4 (h:=by intro W1 hl;have eq:=Q2.o.but (hd2.nil.trans hl) HX.o.2.2.1;have e0:=eq.cell 0 rfl;have e1:=eq.cell 1 rfl;have e2:=eq.cell 2 rfl;have e3:=eq.cell 3 rfl;have e4:=eq.cell 4 rfl;have e5:=eq.cell 5 rfl;have e6:=eq.cell 6 rfl;have e7:=eq.cell 7 rfl;have e8:=eq.cell 8 rfl;have e9:=eq.cell 9 rfl;have e10:=eq.cell 10 rfl;clear eq;go_simp<;>with_reducible rfl) ?_;refine FH (i:=5) (ob:=Yk #[Yg V (p:Nat),Yg V lL,Yl y,Yg V ix,.slice A1 n1 c1,.slice A2 n2 c2,.string rt,Yg V wt,Yg V fi,Yg V li,Yg V ke] 70) (fv:=fun h=>Yh (h:Nat) 1 1) rfl NA PE (fun W3 hl3=>?_) (fun W3 hl3=>?_);(exact AFN);refine tz ?_;have N3:=sq (APw W3 #[Yg V (p:Nat),Yg V lL,Yl y,Yg V ix,.slice A1 n1 c1,.slice A2 n2 c2,.string rt,Yg V wt,Yg V fi,Yg V li,Yg V ke] 70);have L3:=sq ((hd2.trans hl3).alloc (Yk #[Yg V (p:Nat),Yg V lL,Yl y,Yg V ix,.slice A1 n1 c1,.slice A2 n2 c2,.string rt,Yg V wt,Yg V fi,Yg V li,Yg V ke] 70));clear hl3 hd2;generalize W3.alloc (Yk #[Yg V (p:Nat),Yg V lL,Yl y,Yg V ix,.slice A1 n1 c1,.slice A2 n2 c2,.string rt,Yg V wt,Yg V fi,Yg V li,Yg V ke] 70)=W4 at*;generalize W3.heap.size=g3 at*;obtain⟨ii,hii,hz,hsz,hby⟩:=aR;refine Be (i:=6) rfl NA PE PE _ _ 23 rfl W.heap.size 70 ii (Yr #[Yg V 0,Yg V 0,Yl Yz,Yg V 0,.slice Y 0 0,.slice Y 0 0,O ⟨#[]⟩,Yg V 0,Yg V 0,Yg V 0,Yg V 0]) 11 128 Tryz.underlying23 hii hz hsz hby PE ND ND ND (.slice A j c) j 1 1 (j6 css) (fun b hb=>by rw[HXX.o];exact hb) rfl g3 [Yg V (p:Nat),Yg V lL,Yl y,Yg V ix,.slice A1 n1 c1,.slice A2 n2 c2,.string rt,Yg V wt,Yg V fi,Yg V li,Yg V ke] rfl rfl PI KA ?_ ?_;(intro W5 hl5;exact⟨AMj BW2.o.size (AMj L3.o.size hl5.size),AA RW2.o (L3.o.trans hl5) NC,N3.o.but hl5 NC⟩);intro W5 v6 W6 hl5 hrow6 hgr;refine tz ?_;have LX:Shut (But XX w2 W6):=⟨(L3.o.trans hl5).nil.trans (by rw[HXX.o];exact hgr)⟩;obtain⟨A6,m6,cap,rfl⟩:=BH hrow6;have hm6:m6=j+1:=LZ hrow6;subst hm6;(have hrow7:W6.ownsRow W.heap.size 70 11 (.slice A6 (j+1) cap) (j+1) (j6 (css++[EB p lL y ix A1 n1 c1 A2 n2 c2 rt wt fi li ke])):=by rw[qW];exact hrow6);have RW6:=sq hrow7;clear hl5 hrow6 hrow7 hgr N3 L3 hii hz hsz hby RW2;refine D8 (i:=7) (v:=?_) rfl NA PE ?_ (fun W7 hl7=>?_);rotate_left;(exact AJl);refine tz ?_;refine Bu (i:=8) (f:=fun W8=>W8.setCell ⟨gx,k,Y⟩ (.slice A6 (j+1) cap)) rfl NA NA NA PE (fun W8 hl8=>?_) (fun W8 W9 hl8 hl9=>?_);(have bx:=(X2.o.but (LX.o.trans (hl7.trans hl8).nil) HX.o.2.1);have q0:=bx.cell k HKS.o;exact AHu);refine tz ?_;have bset:=AL7;have B9:Shut (But (g::[gx]) W W9):=⟨(((BW2.o.trans2 (LX.o.trans (hl7.trans hl8).nil) (fun b hb=>Or.inr (HX.o.2.2.2.2.2 b hb))).trans2 bset NC).trans hl9.nil)⟩;have R9:Shut (RS B gR g S W9 l'):=⟨((((RS2.o.but LX.o HX.o.2.2.2.1 HX.o.2.2.2.2.1 (fun b hb=>AMj HBW.o.1 (HX.o.2.2.2.2.2 b hb))).zero (hl7.trans hl8)).but bset YN YN YN).zero hl9)⟩;have X9:Shut (AJ W9 gx (cs.setIfInBounds k (.slice A6 (j+1) cap)) tx):=⟨by have:=((X2.o.but (LX.o.trans (hl7.trans hl8).nil) HX.o.2.1).set k (.slice A6 (j+1) cap)).but hl9 NC;rwa [U5] at this⟩;have RW9:Shut (W9.ownsRow W.heap.size 70 11 (.slice A6 (j+1) cap) (j+1) (j6 (css++[EB p lL y ix A1 n1 c1 A2 n2 c2 rt wt fi li ke]))):=⟨by have hxs:=RW6.o;refine AA (AA (AA hxs (hl7.trans hl8) NC) bset ?_) hl9 NC;intro b hb hvb;have h1:=(C5 hxs hvb).1;have h2:=HBW.o.2.2.2.1;simp at hb;omega⟩;have TI9:=sq (TI.o.trans (KS hjn HD.o acc));have AC9:Shut ((acc++[x]).length=j+1):=⟨by simp[AC.o]⟩
   have KK:Ff (Tq 70) w2 W9:=((((KX.o _ LX.o).trans ((hl7.trans hl8).keeps0 _)).trans (bset.keepsT fun b hbm cs1 t1 hB=>by
    obtain rfl:=AMh.1 hbm;have hr:=X2.o.but (LX.o.trans (hl7.trans hl8).nil) HX.o.2.1;unfold AJ at hr hB;rw[hr] at hB;cases hB;rintro (h1|⟨h1,_⟩)
    ·exact TXS.o h1
    ·exact absurd h1 ND)).trans (hl9.keeps0 _))
   have RV9:Shut (EI W9 (acc++[x]) (css++[EB p lL y ix A1 n1 c1 A2 n2 c2 rt wt fi li ke])):=⟨EI.snoc ⟨rfl,fun i hi=>MI KK i _ hi (ST2.o i hi)⟩ (RV2.o.stay KK)⟩;clear KK;clear bset hl7 hl8 hl9;go_wp2_with fail;exact⟨⟨j+1,_,l',acc++[x],_,NC,KA,R9.o,TI9.o,AC9.o,RV9.o,X9.o,⟨_,_,rfl⟩,RW9.o,B9.o⟩,NF⟩
  have hjn':=AFG;have hje:j=n:=KA;subst hje;obtain⟨A,c,rfl⟩:=VF.o;have TI0:=TI.o;rw[AN6,Dp,Option.map_some,AM2] at TI0;have TT:=sq TI0;clear TI0;go_wp2_with fail;go_end0;refine⟨BB.o,?_⟩;simp only[Mc,HO.o,TT.o];rw[AC.o];exact⟨trivial,RS0.o,A,c,BX.o,css,RW.o,RV.o⟩
def Qv (m:Nat) (l:List UInt8):Option (CW×List UInt8):=(Mc (EJ DL Dr) m l).map fun p=>(.revs p.1,p.2)
def JW (k:Nat):Option CW→J→Array Yu→Prop
 |none,_,cs=>cs[k]?=Z (.slice Y 0 0)
 |some (.revs l),w,cs=>∃A c css,cs[k]?=Z (.slice A l.length c)∧w.ownsRow 0 70 11 (.slice A l.length c) l.length (j6 css)∧EI w l css
 |_,_,_=>False
theorem Wp {k:Nat} {o:Option CW} {w:J} {cs:Array Yu} (h:JW k o w cs):∃(A:Option Addr) (n c:Nat),cs[k]?=Z (.slice A n c):=by match o,h with|none,h=>exact⟨Y,0,0,h⟩|some (.revs l),⟨A,c,css,h,_⟩=>exact⟨A,l.length,c,h⟩
section
variable {B gR g gx:Nat} {S:List UInt8} {W:J} {tx:TypeId}
def uB (key:List UInt8) {b1 b2 b3 b4 b5 k m:Nat} (h:At B gR g gx tx W b1 k 237) (hcert:tx=27) (hc:Bnd g gx W b2 b5 m 171 244):bR B gR g gx S W tx (VW key b1 b2 b3 b4 b5) (Qv m) k (k+1) (JW k) Yy where
 gfn:=243
 gcaps:=#[U b2,U b5,U b1]
 efn:=239
 ecaps:=#[U b1]
 gval:=rfl
 eval_:=rfl
 mval:=⟨_,_,rfl⟩
 pval:=⟨_,_,rfl⟩
 gcall:=fun _ _=>rfl
 ecall:=fun _ _=>rfl
 txs:=h.xt
 loc:=fun o w w' cs cs' hkp hc hs=>by
  have hk:=hc k (AMi _) (AOJ _)
  match o,hs with
  |none,hs=>exact hk.trans hs
  |some (.revs l),⟨A,c,css,hs,ho,hr⟩=>exact⟨A,c,css,hk.trans hs,EF ho hkp (Or.inr ⟨hcert,Or.inr rfl⟩),hr.stay (tx:=tx) hkp⟩
 hget:=fun cs l W' hs hrs hx hb=>by
  have hc':=hc.step hb;refine (Vu hrs b2 b5 b1 gx k m cs tx hc'.1 hc'.2 (h.step hb) hx hs ⟨hc.n1,hc.n3,h.b1,h.x1,h.x2,hc.n2,hc.n4,h.b2,h.x3⟩ hc.hm h.xt).mono fun e w' hh=>hh.map CW.revs fun x hp=>?_;obtain⟨A,c,css,hp,ho,hr⟩:=hp;exact⟨_,hp,AQB _ _ _,A,c,css,OW hs _,Ad ho (AM4 _),hr⟩
 hemp:=fun o cs W' hs hx hb=>by
  match o,hs with
  |none,hs=>exact MH b1 gx k W' Y 0 0 ((h.step hb).cell 0 rfl) (hx.cell k hs)
  |some (.revs l),⟨A,c,css,hs,ho,hr⟩=>exact MH b1 gx k W' A l.length c ((h.step hb).cell 0 rfl) (hx.cell k hs)
theorem Xl (E:Env B gR g gx tx W.heap.size) (key:List UInt8) (k m:Nat) (f1 f2:FuncId) (hm:m<100000) (hcert:tx=27):Yv Yw 165 #[O (AB key),.pointer (Z ⟨gx,k,Y⟩),Yg Yj m,G (M f1) #[] #[],G (M f2) #[] #[],G (M 171) #[] #[]] W fun e w'=>∃v,e=Yi v∧AZ B gR g gx S tx (Qv m) k (k+1) (JW k) Yy key Yz v w'∧Later W w':=
 (lU key ⟨gx,k,Y⟩ m f1 f2 171 W).mono fun e w' h=>by
  obtain⟨v,h1,⟨b1,b2,b3,b4,b5,h2,h3,h4,h5,z1,z2,z5⟩,hl⟩:=h;exact⟨v,h1,⟨_,h2,rfl,rfl,⟨uB key (E.at h3 z1) hcert (E.bnd h4 h5 z2 z5 hm)⟩⟩,hl⟩
end
def Fx:List FD:=[⟨[80],Yz,Yp,Yp,Yp,Yp⟩,⟨[83],Yz,Yp,Yp,Yp,Yp⟩,⟨[99],Yy,Yp,Yp,Yp,Yp⟩,⟨[112],Yz,Yp,Yp,Yp,Yp⟩,⟨[114],Yz,Yp,Yp,Yp,Yp⟩,⟨[119],Yz,Yp,Yp,Yp,Yp⟩]
def IU:Nat→List UInt8→Option (CW×List UInt8)
 |0=>FY 10240
 |1=>FY 10240
 |2=>Pn
 |3=>Qw 640
 |4=>Qv 640
 |_=>rdNum
def Mk:Nat→Nat
 |0=>5
 |1=>4
 |2=>0
 |3=>3
 |4=>2
 |_=>1
def Ml:Nat→Nat
 |0=>6
 |1=>5
 |2=>1
 |3=>4
 |4=>3
 |_=>2
def Im:Nat→Option CW→J→Array Yu→Prop
 |0=>DK 5
 |1=>DK 4
 |2=>JB 0
 |3=>JX 3
 |4=>JW 2
 |_=>Cj 1
def WE:Nat→Bool
 |0=>Yy
 |1=>Yy
 |2=>Yz
 |3=>Yy
 |4=>Yy
 |_=>Yy
def N8 (B gR g gx:Nat) (S:List UInt8) (tx:TypeId) (W0:Nat):Nat→Yu→J→Prop
 |0,v,w=>v=U gx
 |1,v,w=>v=U gx
 |2,v,w=>v=.pointer (Z ⟨gx,5,Y⟩)
 |3,v,w=>AZ B gR g gx S tx (FY 10240) 5 6 (DK 5) Yy [80] Yz v w
 |4,v,w=>v=U gx
 |5,v,w=>v=U gx
 |6,v,w=>v=.pointer (Z ⟨gx,4,Y⟩)
 |7,v,w=>AZ B gR g gx S tx (FY 10240) 4 5 (DK 4) Yy [83] Yz v w
 |8,v,w=>v=U gx
 |9,v,w=>v=U gx
 |10,v,w=>v=U gx
 |11,v,w=>AZ B gR g gx S tx (Pn) 0 1 (JB 0) Yz [99] Yy v w
 |12,v,w=>v=U gx
 |13,v,w=>v=U gx
 |14,v,w=>v=.pointer (Z ⟨gx,3,Y⟩)
 |15,v,w=>AZ B gR g gx S tx (Qw 640) 3 4 (JX 3) Yy [112] Yz v w
 |16,v,w=>v=U gx
 |17,v,w=>v=U gx
 |18,v,w=>v=.pointer (Z ⟨gx,2,Y⟩)
 |19,v,w=>AZ B gR g gx S tx (Qv 640) 2 3 (JW 2) Yy [114] Yz v w
 |20,v,w=>v=U gx
 |21,v,w=>v=U gx
 |22,v,w=>v=.pointer (Z ⟨gx,1,Y⟩)
 |23,v,w=>AZ B gR g gx S tx (rdNum) 1 2 (Cj 1) Yy [119] Yz v w
 |24,v,w=>Ao B gR g gx S tx W0 Fx IU Mk Ml Im WE v w
 |_,_,_=>True
theorem Rt (B gR g gx:Nat) (S:List UInt8) (tx:TypeId) (W0:Nat):∀i v w w',N8 B gR g gx S tx W0 i v w→Later w w'→N8 B gR g gx S tx W0 i v w'
 |0,_,_,_,h,_=>h
 |1,_,_,_,h,_=>h
 |2,_,_,_,h,_=>h
 |3,_,_,_,h,hl=>AZ.later h hl
 |4,_,_,_,h,_=>h
 |5,_,_,_,h,_=>h
 |6,_,_,_,h,_=>h
 |7,_,_,_,h,hl=>AZ.later h hl
 |8,_,_,_,h,_=>h
 |9,_,_,_,h,_=>h
 |10,_,_,_,h,_=>h
 |11,_,_,_,h,hl=>AZ.later h hl
 |12,_,_,_,h,_=>h
 |13,_,_,_,h,_=>h
 |14,_,_,_,h,_=>h
 |15,_,_,_,h,hl=>AZ.later h hl
 |16,_,_,_,h,_=>h
 |17,_,_,_,h,_=>h
 |18,_,_,_,h,_=>h
 |19,_,_,_,h,hl=>AZ.later h hl
 |20,_,_,_,h,_=>h
 |21,_,_,_,h,_=>h
 |22,_,_,_,h,_=>h
 |23,_,_,_,h,hl=>AZ.later h hl
 |24,_,_,_,h,hl=>Ao.later h hl
 |n+25,_,_,_,_,_=>trivial
theorem nT {B gR g gx:Nat} {S:List UInt8} {tx:TypeId} {W:J} (E:Env B gR g gx tx W.heap.size) (hcert:tx=27):Yv Yw 107 #[U gx] W fun e w'=>∃v,e=Yi v∧Ao B gR g gx S tx W.heap.size Fx IU Mk Ml Im WE v w'∧Later W w':=by go_in;go_wp2_with fail;have hd:=AK4;refine Cm (N:=25) (n:=28) (t:=27) (dN:=2) (Good:=N8 B gR g gx S tx W.heap.size) NA NA rfl (Rt B gR g gx S tx W.heap.size) (fun i hi=>?_) rfl rfl rfl (fun a w=>?_) (fun a w hl hdf hsz hg hr=>?_);(match i,hi with|0,_=>exact AEN|1,_=>exact AMR|2,_=>refine⟨_,rfl,rfl,fun a w hl hg hs=>?_⟩;have e1:=AIA;have e1':=AJb;exact AKb|3,_=>(refine⟨_,rfl,rfl,fun a w hl hg hs=>?_⟩;have e1:a.tmps.getD 5 Yx=.pointer (Z ⟨gx,5,Y⟩):=hg ⟨2,.data⟩ NC rfl;obtain⟨e1',EW⟩:=AE2;refine APz (f:=156) (args:=#[O (AB [80]),.pointer (Z ⟨gx,5,Y⟩),Yg Yj 10240]) ?_ (IP EW [80] 5 10240 ND);exact AJ3)|4,_=>exact AEN|5,_=>exact AMS|6,_=>exact AMB|7,_=>(refine⟨_,rfl,rfl,fun a w hl hg hs=>?_⟩;have e1:=AH5;obtain⟨e1',EW⟩:=AE2;refine APz (f:=156) (args:=#[O (AB [83]),.pointer (Z ⟨gx,4,Y⟩),Yg Yj 10240]) ?_ (IP EW [83] 4 10240 ND);exact AJ3)|8,_=>exact AEN|9,_=>exact AMW|10,_=>exact AMT|11,_=>(refine⟨_,rfl,rfl,fun a w hl hg hs=>?_⟩;have e1:=AJn;obtain⟨e1',EW⟩:=AE2;refine APz (f:=157) (args:=#[O (AB [99]),U gx]) ?_ (Rk EW [99] 0);exact AJ3)|12,_=>exact AEN|13,_=>exact AMU|14,_=>refine⟨_,rfl,rfl,fun a w hl hg hs=>?_⟩;have e1:a.tmps.getD 16 Yx=U gx:=hg ⟨13,.data⟩ NC rfl;exact ALx|15,_=>(refine⟨_,rfl,rfl,fun a w hl hg hs=>?_⟩;have e1:a.tmps.getD 17 Yx=.pointer (Z ⟨gx,3,Y⟩):=hg ⟨14,.data⟩ NC rfl;obtain⟨e1',EW⟩:=AE2;refine APz (f:=158) (args:=#[O (AB [112]),.pointer (Z ⟨gx,3,Y⟩),Yg Yj 640,G (M 159) #[] #[],G (M 160) #[] #[],G (M 162) #[] #[]]) ?_ (sB EW [112] 3 640 159 160 ND hcert);exact AJ3)|16,_=>exact AEN|17,_=>exact AMV|18,_=>refine⟨_,rfl,rfl,fun a w hl hg hs=>?_⟩;have e1:a.tmps.getD 20 Yx=U gx:=hg ⟨17,.data⟩ NC rfl;exact ALz|19,_=>(refine⟨_,rfl,rfl,fun a w hl hg hs=>?_⟩;have e1:a.tmps.getD 21 Yx=.pointer (Z ⟨gx,2,Y⟩):=hg ⟨18,.data⟩ NC rfl;obtain⟨e1',EW⟩:=AE2;refine APz (f:=165) (args:=#[O (AB [114]),.pointer (Z ⟨gx,2,Y⟩),Yg Yj 640,G (M 166) #[] #[],G (M 169) #[] #[],G (M 171) #[] #[]]) ?_ (Xl EW [114] 2 640 166 169 ND hcert);exact AJ3)|20,_=>exact AEN|21,_=>refine⟨_,rfl,rfl,fun a w hl hg hs=>?_⟩;have e1:a.tmps.getD 23 Yx=U gx:=hg ⟨20,.data⟩ NC rfl;exact ALh|22,_=>refine⟨_,rfl,rfl,fun a w hl hg hs=>?_⟩;have e1:a.tmps.getD 24 Yx=U gx:=hg ⟨21,.data⟩ NC rfl;exact ALy|23,_=>(refine⟨_,rfl,rfl,fun a w hl hg hs=>?_⟩;have e1:a.tmps.getD 25 Yx=.pointer (Z ⟨gx,1,Y⟩):=hg ⟨22,.data⟩ NC rfl;obtain⟨e1',EW⟩:=AE2;refine APz (f:=172) (args:=#[O (AB [119]),.pointer (Z ⟨gx,1,Y⟩)]) ?_ (IE EW [119] 1);exact AJ3)|24,_=>(refine⟨_,rfl,rfl,fun a w hl hg hs=>?_⟩;obtain⟨f0,v0,k0,m0,⟨K0⟩⟩:AZ B gR g gx S tx (FY 10240) 5 6 (DK 5) Yy [80] Yz (a.tmps.getD 6 Yx) w:=hg ⟨3,.data⟩ NC rfl;have t0:=AF v0;obtain⟨mf0,mc0,hmv0⟩:=K0.mval;obtain⟨pf0,pc0,hpv0⟩:=K0.pval;rw[FD.agg,k0,m0,K0.eval_,hmv0,hpv0,K0.gval] at t0;obtain⟨f1,v1,k1,m1,⟨K1⟩⟩:AZ B gR g gx S tx (FY 10240) 4 5 (DK 4) Yy [83] Yz (a.tmps.getD 10 Yx) w:=hg ⟨7,.data⟩ NC rfl;have t1:=AF v1;obtain⟨mf1,mc1,hmv1⟩:=K1.mval;obtain⟨pf1,pc1,hpv1⟩:=K1.pval;rw[FD.agg,k1,m1,K1.eval_,hmv1,hpv1,K1.gval] at t1;obtain⟨f2,v2,k2,m2,⟨K2⟩⟩:AZ B gR g gx S tx (Pn) 0 1 (JB 0) Yz [99] Yy (a.tmps.getD 14 Yx) w:=hg ⟨11,.data⟩ NC rfl;have t2:=AF v2;obtain⟨mf2,mc2,hmv2⟩:=K2.mval;obtain⟨pf2,pc2,hpv2⟩:=K2.pval;rw[FD.agg,k2,m2,K2.eval_,hmv2,hpv2,K2.gval] at t2;obtain⟨f3,v3,k3,m3,⟨K3⟩⟩:AZ B gR g gx S tx (Qw 640) 3 4 (JX 3) Yy [112] Yz (a.tmps.getD 18 Yx) w:=hg ⟨15,.data⟩ NC rfl;have t3:=AF v3;obtain⟨mf3,mc3,hmv3⟩:=K3.mval;obtain⟨pf3,pc3,hpv3⟩:=K3.pval;rw[FD.agg,k3,m3,K3.eval_,hmv3,hpv3,K3.gval] at t3;obtain⟨f4,v4,k4,m4,⟨K4⟩⟩:AZ B gR g gx S tx (Qv 640) 2 3 (JW 2) Yy [114] Yz (a.tmps.getD 22 Yx) w:=hg ⟨19,.data⟩ NC rfl;have t4:=AF v4;obtain⟨mf4,mc4,hmv4⟩:=K4.mval;obtain⟨pf4,pc4,hpv4⟩:=K4.pval;rw[FD.agg,k4,m4,K4.eval_,hmv4,hpv4,K4.gval] at t4;obtain⟨f5,v5,k5,m5,⟨K5⟩⟩:AZ B gR g gx S tx (rdNum) 1 2 (Cj 1) Yy [119] Yz (a.tmps.getD 26 Yx) w:=hg ⟨23,.data⟩ NC rfl;have t5:=AF v5;obtain⟨mf5,mc5,hmv5⟩:=K5.mval;obtain⟨pf5,pc5,hpv5⟩:=K5.pval;rw[FD.agg,k5,m5,K5.eval_,hmv5,hpv5,K5.gval] at t5;have BN:=APw w #[O (AB [80]),Yl Yz,G (M K0.efn) #[] K0.ecaps,G (M mf0) #[] mc0,G (M pf0) #[] pc0,G (M K0.gfn) #[] K0.gcaps,O (AB [83]),Yl Yz,G (M K1.efn) #[] K1.ecaps,G (M mf1) #[] mc1,G (M pf1) #[] pc1,G (M K1.gfn) #[] K1.gcaps,O (AB [99]),Yl Yy,G (M K2.efn) #[] K2.ecaps,G (M mf2) #[] mc2,G (M pf2) #[] pc2,G (M K2.gfn) #[] K2.gcaps,O (AB [112]),Yl Yz,G (M K3.efn) #[] K3.ecaps,G (M mf3) #[] mc3,G (M pf3) #[] pc3,G (M K3.gfn) #[] K3.gcaps,O (AB [114]),Yl Yz,G (M K4.efn) #[] K4.ecaps,G (M mf4) #[] mc4,G (M pf4) #[] pc4,G (M K4.gfn) #[] K4.gcaps,O (AB [119]),Yl Yz,G (M K5.efn) #[] K5.ecaps,G (M mf5) #[] mc5,G (M pf5) #[] pc5,G (M K5.gfn) #[] K5.gcaps] 220;(have hF:Em (w.alloc (Yk #[O (AB [80]),Yl Yz,G (M K0.efn) #[] K0.ecaps,G (M mf0) #[] mc0,G (M pf0) #[] pc0,G (M K0.gfn) #[] K0.gcaps,O (AB [83]),Yl Yz,G (M K1.efn) #[] K1.ecaps,G (M mf1) #[] mc1,G (M pf1) #[] pc1,G (M K1.gfn) #[] K1.gcaps,O (AB [99]),Yl Yy,G (M K2.efn) #[] K2.ecaps,G (M mf2) #[] mc2,G (M pf2) #[] pc2,G (M K2.gfn) #[] K2.gcaps,O (AB [112]),Yl Yz,G (M K3.efn) #[] K3.ecaps,G (M mf3) #[] mc3,G (M pf3) #[] pc3,G (M K3.gfn) #[] K3.gcaps,O (AB [114]),Yl Yz,G (M K4.efn) #[] K4.ecaps,G (M mf4) #[] mc4,G (M pf4) #[] pc4,G (M K4.gfn) #[] K4.gcaps,O (AB [119]),Yl Yz,G (M K5.efn) #[] K5.ecaps,G (M mf5) #[] mc5,G (M pf5) #[] pc5,G (M K5.gfn) #[] K5.gcaps] 220)) w.heap.size [f0,f1,f2,f3,f4,f5]:=by refine⟨BN.lt,fun i hi=>?_⟩;match i,hi with|0,_=>rw[show [f0,f1,f2,f3,f4,f5].getD 0 fd0=f0 from rfl,k0,m0,K0.eval_,hmv0,hpv0,K0.gval];exact AFQ|1,_=>rw[show [f0,f1,f2,f3,f4,f5].getD 1 fd0=f1 from rfl,k1,m1,K1.eval_,hmv1,hpv1,K1.gval];exact AFO|2,_=>rw[show [f0,f1,f2,f3,f4,f5].getD 2 fd0=f2 from rfl,k2,m2,K2.eval_,hmv2,hpv2,K2.gval];exact AFM|3,_=>rw[show [f0,f1,f2,f3,f4,f5].getD 3 fd0=f3 from rfl,k3,m3,K3.eval_,hmv3,hpv3,K3.gval];exact AIg|4,_=>rw[show [f0,f1,f2,f3,f4,f5].getD 4 fd0=f4 from rfl,k4,m4,K4.eval_,hmv4,hpv4,K4.gval];exact AIh|5,_=>rw[show [f0,f1,f2,f3,f4,f5].getD 5 fd0=f5 from rfl,k5,m5,K5.eval_,hmv5,hpv5,K5.gval];exact⟨BN.cell 30 rfl,BN.cell 31 rfl,BN.cell 32 rfl,BN.cell 33 rfl,BN.cell 34 rfl,BN.cell 35 rfl⟩|m+6,hi=>exact absurd (show m+6<6 from hi) KA);have hl2:Later w (w.alloc (Yk #[O (AB [80]),Yl Yz,G (M K0.efn) #[] K0.ecaps,G (M mf0) #[] mc0,G (M pf0) #[] pc0,G (M K0.gfn) #[] K0.gcaps,O (AB [83]),Yl Yz,G (M K1.efn) #[] K1.ecaps,G (M mf1) #[] mc1,G (M pf1) #[] pc1,G (M K1.gfn) #[] K1.gcaps,O (AB [99]),Yl Yy,G (M K2.efn) #[] K2.ecaps,G (M mf2) #[] mc2,G (M pf2) #[] pc2,G (M K2.gfn) #[] K2.gcaps,O (AB [112]),Yl Yz,G (M K3.efn) #[] K3.ecaps,G (M mf3) #[] mc3,G (M pf3) #[] pc3,G (M K3.gfn) #[] K3.gcaps,O (AB [114]),Yl Yz,G (M K4.efn) #[] K4.ecaps,G (M mf4) #[] mc4,G (M pf4) #[] pc4,G (M K4.gfn) #[] K4.gcaps,O (AB [119]),Yl Yz,G (M K5.efn) #[] K5.ecaps,G (M mf5) #[] mc5,G (M pf5) #[] pc5,G (M K5.gfn) #[] K5.gcaps] 220)):=(ANF _ _).alloc (AMi _) _;(have hr:Ao B gR g gx S tx W.heap.size Fx IU Mk Ml Im WE (Yh w.heap.size 6 6) (w.alloc (Yk #[O (AB [80]),Yl Yz,G (M K0.efn) #[] K0.ecaps,G (M mf0) #[] mc0,G (M pf0) #[] pc0,G (M K0.gfn) #[] K0.gcaps,O (AB [83]),Yl Yz,G (M K1.efn) #[] K1.ecaps,G (M mf1) #[] mc1,G (M pf1) #[] pc1,G (M K1.gfn) #[] K1.gcaps,O (AB [99]),Yl Yy,G (M K2.efn) #[] K2.ecaps,G (M mf2) #[] mc2,G (M pf2) #[] pc2,G (M K2.gfn) #[] K2.gcaps,O (AB [112]),Yl Yz,G (M K3.efn) #[] K3.ecaps,G (M mf3) #[] mc3,G (M pf3) #[] pc3,G (M K3.gfn) #[] K3.gcaps,O (AB [114]),Yl Yz,G (M K4.efn) #[] K4.ecaps,G (M mf4) #[] mc4,G (M pf4) #[] pc4,G (M K4.gfn) #[] K4.gcaps,O (AB [119]),Yl Yz,G (M K5.efn) #[] K5.ecaps,G (M mf5) #[] mc5,G (M pf5) #[] pc5,G (M K5.gfn) #[] K5.gcaps] 220)):=by refine⟨w.heap.size,[f0,f1,f2,f3,f4,f5],rfl,rfl,hF,(hd.trans hl).size,fun i=>?_,fun i=>?_,⟨fun i hi=>?_⟩⟩;(match i with|0=>exact k0|1=>exact k1|2=>exact k2|3=>exact k3|4=>exact k4|5=>exact k5|m+6=>rfl);(match i with|0=>exact m0|1=>exact m1|2=>exact m2|3=>exact m3|4=>exact m4|5=>exact m5|m+6=>rfl);match i,hi with|0,_=>exact K0.later (APv hl2).nil|1,_=>exact K1.later (APv hl2).nil|2,_=>exact K2.later (APv hl2).nil|3,_=>exact K3.later (APv hl2).nil|4,_=>exact K4.later (APv hl2).nil|5,_=>exact K5.later (APv hl2).nil|m+6,hi=>exact absurd (show m+6<6 from hi) KA);have HH:=AII;clear hr hl2 hF BN;have hfin:∀r,r=Result.ok (Next.value (Yh w.heap.size 6 6)) (w.alloc (Yk #[O (AB [80]),Yl Yz,G (M K0.efn) #[] K0.ecaps,G (M mf0) #[] mc0,G (M pf0) #[] pc0,G (M K0.gfn) #[] K0.gcaps,O (AB [83]),Yl Yz,G (M K1.efn) #[] K1.ecaps,G (M mf1) #[] mc1,G (M pf1) #[] pc1,G (M K1.gfn) #[] K1.gcaps,O (AB [99]),Yl Yy,G (M K2.efn) #[] K2.ecaps,G (M mf2) #[] mc2,G (M pf2) #[] pc2,G (M K2.gfn) #[] K2.gcaps,O (AB [112]),Yl Yz,G (M K3.efn) #[] K3.ecaps,G (M mf3) #[] mc3,G (M pf3) #[] pc3,G (M K3.gfn) #[] K3.gcaps,O (AB [114]),Yl Yz,G (M K4.efn) #[] K4.ecaps,G (M mf4) #[] mc4,G (M pf4) #[] pc4,G (M K4.gfn) #[] K4.gcaps,O (AB [119]),Yl Yz,G (M K5.efn) #[] K5.ecaps,G (M mf5) #[] mc5,G (M pf5) #[] pc5,G (M K5.gfn) #[] K5.gcaps] 220))→AO Yw (N8 B gR g gx S tx W.heap.size 24) w r:=fun r h=>AKm;exact AGe)|m+25,hi=>omega);(·go_simp);have h24:Ao B gR g gx S tx W.heap.size Fx IU Mk Ml Im WE (a.tmps.getD 27 Yx) w:=hg 24 ND;have H24:=sq h24;generalize a.tmps.getD 27 Yx=vv at H24⊢;rename_i K hK;refine hK _ _ (APt (AMo (v:=vv) ?_ UU ⟨vv,rfl,H24.o,hd.trans hl⟩));rw[AO6 Tryz.results107];exact AL4
theorem bC:∀i,((Fx.getD i fd0).key).length≤1000000
 |0=>(by decide:1≤1000000)
 |1=>(by decide:1≤1000000)
 |2=>(by decide:1≤1000000)
 |3=>(by decide:1≤1000000)
 |4=>(by decide:1≤1000000)
 |5=>(by decide:1≤1000000)
 |m+6=>AM4 _
theorem uP:∀i j,i<Fx.length→j<Fx.length→i≠j→Ml i≤Mk j∨Ml j≤Mk i:=fun i j hi hj=>by
 have hi':i<6:=hi;have hj':j<6:=hj;clear hi hj
 match i,hi',j,hj' with
 |0,_,0,_=>decide
 |0,_,1,_=>decide
 |0,_,2,_=>decide
 |0,_,3,_=>decide
 |0,_,4,_=>decide
 |0,_,5,_=>decide
 |1,_,0,_=>decide
 |1,_,1,_=>decide
 |1,_,2,_=>decide
 |1,_,3,_=>decide
 |1,_,4,_=>decide
 |1,_,5,_=>decide
 |2,_,0,_=>decide
 |2,_,1,_=>decide
 |2,_,2,_=>decide
 |2,_,3,_=>decide
 |2,_,4,_=>decide
 |2,_,5,_=>decide
 |3,_,0,_=>decide
 |3,_,1,_=>decide
 |3,_,2,_=>decide
 |3,_,3,_=>decide
 |3,_,4,_=>decide
 |3,_,5,_=>decide
 |4,_,0,_=>decide
 |4,_,1,_=>decide
 |4,_,2,_=>decide
 |4,_,3,_=>decide
 |4,_,4,_=>decide
 |4,_,5,_=>decide
 |5,_,0,_=>decide
 |5,_,1,_=>decide
 |5,_,2,_=>decide
 |5,_,3,_=>decide
 |5,_,4,_=>decide
 |5,_,5,_=>decide
 |m+6,h,_,_=>omega
 |_,_,m+6,h=>omega
theorem xy:∀i,i<Fx.length→0≤Mk i∧Ml i≤6:=fun i hi=>by
 have hi':i<6:=hi;clear hi
 match i,hi' with
 |0,_=>decide
 |1,_=>decide
 |2,_=>decide
 |3,_=>decide
 |4,_=>decide
 |5,_=>decide
 |m+6,h=>omega
def Fw (S:List UInt8):Option (List (Nat×CW)):=match EJ Fx IU S with|some (rs,[])=>Z rs|_=>Y
theorem nU {cs0 cs:Array Yu} {fr:Nat} {rs:List (Nat×CW)} {w:J} (h0:cs0.size=6) (h:oL 6 Im 0 6 cs0 fr rs w cs):∃r n A2 n2 c2 A3 n3 c3 A4 n4 c4 A5 n5 c5,cs=Bz r n A2 n2 c2 A3 n3 c3 A4 n4 c4 A5 n5 c5:=by obtain⟨_,h2,h3⟩:=h;obtain⟨A5,n5,c5,e5⟩:=Hw (h2 0 ND);obtain⟨A4,n4,c4,e4⟩:=Hw (h2 1 ND);obtain⟨r,e0⟩:=Qm (h2 2 ND);obtain⟨A3,n3,c3,e3⟩:=Ws (h2 3 ND);obtain⟨A2,n2,c2,e2⟩:=Wp (h2 4 ND);obtain⟨n,e1⟩:=ES (h2 5 ND);refine⟨r,n,A2,n2,c2,A3,n3,c3,A4,n4,c4,A5,n5,c5,?_⟩;refine ANp fun k=>?_;rcases AM7 k 6 with hk|hk;(match k,hk with|0,_=>exact e0|1,_=>exact e1|2,_=>exact e2|3,_=>exact e3|4,_=>exact e4|5,_=>exact e5|k+6,hk=>omega);rw[h3 k (Or.inr hk),AMz KA,AMz];show 6≤k;exact hk
theorem gO (w:J):∀i,i<6→Im i Y w DR:=fun i hi=>by
 match i,hi with
 |0,_=>rfl
 |1,_=>rfl
 |2,_=>rfl
 |3,_=>rfl
 |4,_=>rfl
 |5,_=>rfl
 |k+6,hk=>omega
def J7 (rs:List (Nat×CW)) (w:J) (cs:Array Yu):Prop:=∀i,i<6→Im i (look rs i) w cs
theorem Wq {k:Nat} {o:Option CW} {w w':J} {cs:Array Yu} (h:JX k o w cs) (hk:Ff (Tq 27) w w'):JX k o w' cs:=by match o,h with|none,h=>exact h|some (.nums l),⟨A,c,h,ho⟩=>exact⟨A,c,h,EF ho hk (Or.inr ⟨rfl,Or.inl rfl⟩)⟩
theorem Wo {k:Nat} {o:Option CW} {w w':J} {cs:Array Yu} (h:JW k o w cs) (hk:Ff (Tq 27) w w'):JW k o w' cs:=by match o,h with|none,h=>exact h|some (.revs l),⟨A,c,css,h,ho,hr⟩=>exact⟨A,c,css,h,EF ho hk (Or.inr ⟨rfl,Or.inr rfl⟩),hr.stay hk⟩
theorem J7.stay {rs:List (Nat×CW)} {w w':J} {cs:Array Yu} (h:J7 rs w cs) (hk:Ff (Tq 27) w w'):J7 rs w' cs:=fun i hi=>by
 have h:=h i hi
 match i,hi with
 |0,_=>exact Ht h hk
 |1,_=>exact Ht h hk
 |2,_=>exact Ql h
 |3,_=>exact Wq h hk
 |4,_=>exact Wo h hk
 |5,_=>exact EQ h
 |k+6,hk=>omega
def Lr (S:List UInt8) (e:Ending) (w:J):Prop:=match Fw S with
 |some rs=>∃cs,J7 rs w cs∧(∃r n A2 n2 c2 A3 n3 c3 A4 n4 c4 A5 n5 c5,cs=Bz r n A2 n2 c2 A3 n3 c3 A4 n4 c4 A5 n5 c5)∧e=Yi (Ym #[Yr cs,Yn])
 |none=>∃p cs,(∃r n A2 n2 c2 A3 n3 c3 A4 n4 c4 A5 n5 c5,cs=Bz r n A2 n2 c2 A3 n3 c3 A4 n4 c4 A5 n5 c5)∧e=Yi (Ym #[Yr cs,Yo 286 (U (p:Nat))])
theorem Td (B:Nat) (S:List UInt8) (W:J) (hS:S.length<4000000000000000000) (hT:J4 B W) (hB:B≤W.heap.size) (hE:KH W):
  Yv Yw 106 #[O (AB S),G (M 107) #[] #[]] W fun e w'=>But [] W w'∧Lr S e w':=by
 have hmf:=AIW;have B0:=sq (((APu [] W).alloc (.cells DR 27)).alloc (Yk #[Yn] 129));have X0:=sq ((APw W DR 27).alloc (Yk #[Yn] 129));have E0':=APw (W.alloc (.cells DR 27)) #[Yn] 129;rw[AMk] at E0';have E0:=sq E0';have HT:=sq hT;have HE:=sq hE;have HSB:=sq (AMc hS hB);rw[DR] at B0 X0 E0;clear hT hE hS hB E0';go_enter_defers Tryz.func106,Tryz.ntmps106;go_wp2_with fail;generalize (W.alloc (Yk #[O ⟨#[]⟩,Yg V 0,.slice Y 0 0,.slice Y 0 0,.slice Y 0 0,.slice Y 0 0] 27)).alloc (Yk #[Yn] 129)=W0 at*;obtain⟨xb,hxb⟩:∃z,z=W.heap.size:=⟨_,rfl⟩;rw[←hxb] at X0 E0⊢;have HXB:=sq hxb;clear hxb;refine (wQ S W0).mono ?_;rintro e w1 ⟨g,rfl,hg,hrd,hb1⟩;have B1:=sq (hb1.alloc (Yk #[U g] 213));have R1:=sq (AP9 hrd (Yk #[U g] 213));have Q1:=sq (APw w1 #[U g] 213);have HG:=sq hg;have HZ1:Shut (g<w1.heap.size):=⟨hrd.lt⟩;have hz0:Shut (W0.heap.size≤w1.heap.size):=⟨hb1.size⟩;clear hb1 hrd hg;go_upto_region 3 with fail;generalize w1.alloc (Yk #[U g] 213)=w2 at*;generalize w1.heap.size=gR at*;have hcf:∀w,(callFunc 107 #[U xb]).run Yw w=.ok (.enter 107 #[U xb]) w:=fun _=>rfl;go_wp2_with fail;refine (nT (B:=B) (gR:=gR) (g:=g) (gx:=xb) (S:=S) (tx:=27) (W:=w2) ?_ ?_).mono ?_;(have h1:=Q1.o.lt;have h2:=HG.o;have h3:=HZ1.o;have h4:=E0.o.lt;have h5:=HXB.o;have h6:=HSB.o.2;exact⟨KA,KA,KA,KA,KA,KA,ND⟩);(rfl);rintro e w3 ⟨v,rfl,⟨gl,F,rfl,hFl,hf,hgl,hk,hm,⟨K⟩⟩,hl⟩;have FL3:=sq hf;have B23:Shut (But [] w2 w3):=⟨APv hl⟩;have hgz:Shut (g<gR∧gR<w2.heap.size∧xb<g∧xb+1<g∧xb=W.heap.size∧W0.heap.size≤g∧gR≠g):=⟨by have h1:=Q1.o.lt;have h2:=HG.o;have h3:=HZ1.o;have h4:=E0.o.lt;have h5:=HXB.o;omega⟩;have B3:Shut (But [] W0 w3):=⟨B1.o.trans B23.o⟩;have X3:=sq (X0.o.but B3.o NC);have E3:=sq (E0.o.but B3.o NC);have HE3:=sq (HE.o.but (B0.o.trans B3.o) NC)
 have RS3:Shut (RS B gR g S w3 S):=⟨{
  rd:=by rw[AN6];exact R1.o.but B23.o NC
  rR:=Q1.o.but B23.o NC
  suf:=⟨0,rfl⟩
  hS:=HSB.o.1
  tabs:=HT.o.below ((B0.o.trans B3.o).below HSB.o.2 NC)
  hB:=AMj HSB.o.2 (B0.o.trans B3.o).size
  hg:=ADU
  hgR:=ADU
  hne:=hgz.o.2.2.2.2.2.2}⟩
 have LL:Lvl B gR g xb S w3 27 F IU (oL F.length Im 0 6 DR):=sU K (fun i j h h'=>uP i j KA KA) DR 0 6 (fun i h=>xy i KA) ND;have HK0:oL F.length Im 0 6 DR 0 [] w3 DR:=⟨(fun p hp=>by cases hp),fun i hi=>gO _ i (by rw[hFl] at hi;exact hi),Same.refl _ _ _⟩;have LV:=sq (Ma LL gl F.length DR RS3.o FL3.o X3.o HK0 (by have:=hgz.o;have:=HSB.o.2;omega) (by rw[hFl];decide) (fun i=>by rw[hk];exact bC i) (AMi _));rw[Kc hFl hk hm,hFl,show Fx.length=6 from rfl] at LV;have LV':Shut (Yv Yw 154 #[U gR,Yh gl 6 6] w3 fun e w'=>DS B gR g S [xb] w3 (EJ Fx IU S) (fun rs w'=>∃fr cs',AJ w' xb cs' 27∧oL 6 Im 0 6 DR fr rs w' cs') e w'):=⟨LV.o⟩;rw[show Fx.length=6 from rfl];clear LV LL HK0 K hk hm hFl hf hgl hl R1 Q1 B1 B23 hcf hz0 HZ1;go_wp2_with fail;refine LV'.o.mono ?_;rintro e w4 ⟨hb4,hE⟩;have B4:=sq hb4;have E4:=sq (E3.o.but hb4 (by have:=hgz.o;simp;omega));have HW:Shut (∀w',But [xb,xb+1] w4 w'→But [] W w'):=⟨fun w' hb=>(B0.o.trans B3.o).trans2 ((hb4.mono (L':=[g,xb,xb+1]) (fun k _ hk=>by simp at hk⊢;omega)).trans (hb.mono (L':=[g,xb,xb+1]) (fun k _ hk=>by simp at hk⊢;omega))) (fun k hk=>by have:=hgz.o;have:=B0.o.size;simp at hk;omega)⟩;have hxe:xb≠xb+1:=KA;clear LV' hb4;rcases hO:EJ Fx IU S with _|⟨rs,rest⟩;(·rw[hO] at hE;obtain⟨p,rfl⟩:=hE;obtain⟨cs4,hcs4,X4⟩:=B4.o.shape xb _ _ (Or.inr rfl) X3.o;go_wp2_with fail;show Leaves Yw _ _ _ _ _ _;refine AOl (f:=152) (args:=#[U xb,U (xb+1:Nat)]) NC Zm ?_;refine (QK xb (xb+1) cs4 hcs4 [] p w4 X4 E4.o hxe).mono ?_;rintro e u' w5 ⟨rfl,rfl,hx5,he5,hb5⟩;have hd5:=HW.o w5 hb5;have x0:=hx5.cell 0 rfl;have x1:=hx5.cell 1 rfl;have x2:=hx5.cell 2 rfl;have x3:=hx5.cell 3 rfl;have x4:=hx5.cell 4 rfl;have x5:=hx5.cell 5 rfl;have e0:=he5.cell 0 rfl;simp only[settle,List.dropWhile_nil,Leaves];refine⟨Ym #[Yr DR,Yo 286 (U (p:Nat))],?_,hd5,?_⟩;(·simp[results,Tryz.results106,go_sem,x0,x1,x2,x3,x4,x5,e0,DR]);simp only[Lr,Fw,hO];exact⟨p,DR,⟨⟨#[]⟩,0,Y,0,0,Y,0,0,Y,0,0,Y,0,0,rfl⟩,rfl⟩);rw[hO] at hE;obtain⟨rfl,hr4,fr,cs4,X4,hok⟩:=hE;have HOK:Shut (J7 rs w4 cs4):=⟨hok.2.1⟩;obtain⟨r,n,A2,n2,c2,A3,n3,c3,A4,n4,c4,A5,n5,c5,rfl⟩:=nU PE hok;clear hok;have R4:=sq hr4;rw[Bz] at X4;have X4:=sq X4;have EV:Shut (∀W',But [] w4 W'→Yv Yw 155 #[U g] W' fun e w'=>∃v,e=Yi v∧Later W' w'∧ABs rest v):=⟨fun W' hb=>by have hr:=R4.o.zero hb;have hsuf:=JA hr.suf;have hrd:=hr.rd;rcases rest with _|⟨b,r⟩;(refine (AAN g _ _ S W' hrd KA hsuf).mono ?_;rintro e w' ⟨rfl,hb'⟩;exact⟨_,rfl,hb'.later,rfl⟩);refine (xY g _ _ S W' ((HE3.o.but B4.o (by have:=hgz.o;have:=HSB.o.2;have:=HE.o.lt;simp;omega)).but hb NC) hrd KA b r hsuf).mono ?_;rintro e w' ⟨⟨p,rfl⟩,hb'⟩;exact⟨_,rfl,hb'.later,p,rfl⟩⟩;have r0:=R4.o.rR.cell 0 rfl;have RR4:Shut (∀W',But [] w4 W'→W'.cell? gR=Z (U g)):=⟨fun W' hb=>(R4.o.rR.but hb NC).cell 0 rfl⟩;clear r0;go_wp2_with fail;have hd:=APy w4;refine Mv NA [6,7] ?_;refine AY 0 (h:=by intro W1 hl;have hx:=X4.o.but (APv (hd.trans hl)) NC;have x0:=hx.cell 0 rfl;have x1:=hx.cell 1 rfl;have x2:=hx.cell 2 rfl;have x3:=hx.cell 3 rfl;have x4:=hx.cell 4 rfl;have x5:=hx.cell 5 rfl;clear hx;go_simp<;>with_reducible rfl) ?_;refine JT (i:=1) (v:=?_) rfl NA PE ?_ (fun W11 hl=>?_);rotate_left;(exact AEV);rotate_left;replace hd:=hd.trans hl;clear hl;refine tz ?_;refine JT (i:=2) (v:=?_) rfl NA PE ?_ (fun W12 hl=>?_);rotate_left;(exact AEV);rotate_left;replace hd:=hd.trans hl;clear hl;refine tz ?_;refine JT (i:=3) (v:=?_) rfl NA PE ?_ (fun W13 hl=>?_);rotate_left;(exact AEV);rotate_left;replace hd:=hd.trans hl;clear hl;refine tz ?_;refine JT (i:=4) (v:=?_) rfl NA PE ?_ (fun W14 hl=>?_);rotate_left;(·(intro W1 hl;have q0:=RR4.o _ (APv (hd.trans hl));go_simp<;>with_reducible rfl));rotate_left;replace hd:=hd.trans hl;clear hl;refine tz ?_;refine KQ (i:=5) (R:=fun _ v _=>ABs rest v) rfl NA PE (fun W1 hl=>EV.o W1 (APv (hd.trans hl))) (fun W1 hl=>?_) (fun W1 v W2 hl hl2 hv=>?_);(exact AFN);refine tz ?_;have L2:=sq (hd.trans (hl.trans hl2));have HV:=sq hv;clear hl hl2 hv hd;refine Uo (i:=6) (f:=fun W=>Gd W xb r n A2 n2 c2 A3 n3 c3 A4 n4 c4 A5 n5 c5) rfl NA NA PE (fun W1 hl=>?_) (fun W1 hl=>?_);(·have hx:=X4.o.but (APv (L2.o.trans hl)) NC;have x0:=hx.cell 0 rfl;have x1:=hx.cell 1 rfl;have x2:=hx.cell 2 rfl;have x3:=hx.cell 3 rfl;have x4:=hx.cell 4 rfl;have x5:=hx.cell 5 rfl;have f0:=hx.frozen 0;have f1:=hx.frozen 1;have f2:=hx.frozen 2;have f3:=hx.frozen 3;have f4:=hx.frozen 4;have f5:=hx.frozen 5;clear hx;unfold Gd;go_simp);refine tz ?_;have X5:Shut (AJ (Gd W1 xb r n A2 n2 c2 A3 n3 c3 A4 n4 c4 A5 n5 c5) xb (Bz r n A2 n2 c2 A3 n3 c3 A4 n4 c4 A5 n5 c5) 27):=⟨qH _ _ _ _ _ _ _ _ _ _ _ _ _ _ _ _ _ (X4.o.but (APv (L2.o.trans hl)) NC) rfl⟩;have B5:Shut (But [xb,xb+1] w4 (Gd W1 xb r n A2 n2 c2 A3 n3 c3 A4 n4 c4 A5 n5 c5)):=⟨XH (APv (L2.o.trans hl)).nil NC⟩;have E5:Shut (AJ (Gd W1 xb r n A2 n2 c2 A3 n3 c3 A4 n4 c4 A5 n5 c5) (xb+1) #[Yn] 129):=⟨qF (E4.o.but (APv (L2.o.trans hl)) NC) hxe⟩;clear hl L2;generalize Gd W1 xb r n A2 n2 c2 A3 n3 c3 A4 n4 c4 A5 n5 c5=W5 at*;refine DJ (i:=7) (f:=fun W=>W.setCell (xb+1:Nat) v) rfl NA NA NA PE (fun W6 hl=>?_) (fun W6 W7 hl hl2=>?_);(·have he:=E5.o.but (APv hl) NC;have e0:=he.cell 0 rfl;have f0:=he.frozen 0;have hv:=HV.o;clear he;cases rest with|nil=>(obtain rfl:=hv;go_simp)|cons b r=>obtain⟨p,rfl⟩:=hv;go_simp);refine tz ?_;have X7:Shut (AJ W7 xb (Bz r n A2 n2 c2 A3 n3 c3 A4 n4 c4 A5 n5 c5) 27):=⟨((X5.o.but (APv hl) NC).far (p:=(xb+1:Nat)) (AOP hxe) _).but (APv hl2) NC⟩;have E7:Shut (AJ W7 (xb+1) #[v] 129):=⟨((E5.o.but (APv hl) NC).set 0 v).but (APv hl2) NC⟩;have B7:Shut (But [xb,xb+1] w4 W7):=⟨((B5.o.trans (APv hl).nil).setCell (p:=(xb+1:Nat)) (Or.inl NC) v).trans (APv hl2).nil⟩;clear hl hl2 X5 E5 B5;refine K7.normal ?_;go_wp2_with fail;show Leaves Yw _ _ _ _ _ _;refine AOl (f:=152) (args:=#[U xb,U (xb+1:Nat)]) NC Zm ?_;refine (Rw _ _ W7).mono ?_;rintro e u' w8 ⟨rfl,rfl,rfl⟩;have hx:=X7.o;rw[Bz] at hx;have x0:=hx.cell 0 rfl;have x1:=hx.cell 1 rfl;have x2:=hx.cell 2 rfl;have x3:=hx.cell 3 rfl;have x4:=hx.cell 4 rfl;have x5:=hx.cell 5 rfl;have e0:=E7.o.cell 0 rfl;simp only[settle,Leaves];refine⟨Ym #[Yr (Bz r n A2 n2 c2 A3 n3 c3 A4 n4 c4 A5 n5 c5),v],?_,HW.o _ B7.o,?_⟩;(·simp[results,Tryz.results106,go_sem,x0,x1,x2,x3,x4,x5,e0,Bz]);have hv:=HV.o
 cases rest with
 |nil=>
  obtain rfl:=hv;simp only[Lr,Fw,hO]
  exact⟨_,HOK.o.stay (B7.o.keepsT fun b hbm cs1 t1 hB=>by
   rcases AM1.1 hbm with rfl|hbm
   ·have hr:=X4.o;unfold AJ at hr hB;rw[hr] at hB;cases hB;exact GH ND
   ·obtain rfl:=AMh.1 hbm;have hr:=E4.o;unfold AJ at hr hB;rw[hr] at hB;cases hB;rintro (h1|⟨_,h1|h1⟩)
    ·exact absurd h1 ND
    ·exact absurd h1 ND
    ·exact absurd h1 ND),⟨_,_,_,_,_,_,_,_,_,_,_,_,_,_,rfl⟩,rfl⟩
 |cons b r=>obtain⟨p,rfl⟩:=hv;simp only[Lr,Fw,hO];exact⟨p,_,⟨_,_,_,_,_,_,_,_,_,_,_,_,_,_,rfl⟩,rfl⟩
end Full
end Go.Proofs.YtiapejgiinidhaaGreatDoor
