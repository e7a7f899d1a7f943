import Derived.Test.YtiapejgiinidhaaGreatDoorMM22
import Derived.Test.YtiapejgiinidhaaGreatDoorMM13
set_option linter.all false
set_option maxRecDepth 100000
set_option maxHeartbeats 40000000
namespace Go.Proofs.YtiapejgiinidhaaGreatDoor
open Value renaming int→Yg,pointer→U,string→O,func→G,slice→Yh,bool→Yl,tuple→Ym
open IntKind renaming u64→V,i64→Yj
open Obj renaming cells→Yk
open Ending renaming returned→Yi
open Fn renaming func→M
open Go renaming World→J,Value→Yu,Calls→Yv
open Go.Proofs.Tryz renaming prog→Yw
open Option renaming some→Z,none→Y
open Bool renaming true→Yy,false→Yz
open Go Go.RowKit Go.Shelf
attribute [local go_sem] Oper.semAt_some
def Iw (L:List Nat):Nat→Nat→Bool
 |0,k=>L.contains k
 |i+1,k=>Iw L i (2*k)||Iw L i (2*k+1)
def fB (p:Nat→Bool) (k:Nat):Option Yu:=if p k then Z (Yl Yy) else Y
theorem Vx (p:Nat→Bool) (x:Nat):upd (fB p) x (Yl Yy)=fB (fun k=>p k||k==x):=by funext k;unfold upd fB;by_cases e:k=x;(simp[e]);simp[e]
theorem Nv:(fun _=>Y)=fB (fun _=>Yz):=by funext k;simp[fB]
theorem Gh (p:Nat→Bool) (k:Nat):(fB p k).isSome=p k:=by unfold fB;cases p k<;>rfl
theorem Kr {p q:Nat→Bool} (h:∀k,p k=q k):fB p=fB q:=by rw[show p=q from funext h]
theorem fI (A:Option Addr) (n c d:Nat) (W:J):Yv Yw 275 #[.slice A n c,Yg Yj d] W fun e w'=>
  e=Yi (G (M 323) #[] #[U W.heap.size,U (W.heap.size+1:Nat)])∧w'=(W.alloc (Yk #[.slice A n c] 24)).alloc (Yk #[Yg Yj d] 3):=ALn
theorem XO (k:Nat) (W:J) (h:k<18446744073709551614):Yv Yw 276 #[Yg V k] W fun e w'=>e=Yi (Yg V (A9 k:Nat))∧w'=W:=by (have hx:bits .xor .u64 (k:Int) 1=(A9 k:Int):=by have h1:=bits_xor_u64_nat k 1 KA ND;rw[show ((1:Nat):Int)=1 from rfl] at h1;rw[h1];congr 1;apply AOm;intro j;unfold A9;rw[APA];rcases AOL k with h2|h2;(rw[AMx h2];cases j with|zero=>simp[Nat.testBit_zero,h2];omega|succ j=>rw[AOd,AOd,AOd,show (k+1)/2=k/2 by omega];simp);rw[AMu KA];cases j with|zero=>simp[Nat.testBit_zero,h2];omega|succ j=>rw[AOd,AOd,AOd,show (k-1)/2=k/2 by omega];simp);clear h;exact ALn
theorem xA (L:List Nat) (i k:Nat) (left:Nat→Bool) (hl:left k=Yy) (hk:Iw L i k=Yy) (hs:∀j,left j=Yy→Iw L i j=Yy):
  (fun j=>((Iw L i (2*j)&& !(left (2*j)&& !(2*j==k)))||(Iw L i (2*j+1)&& !(left (2*j+1)&& !(2*j+1==k)))))=fun j=>((Iw L i (2*j)&& !left (2*j))||(Iw L i (2*j+1)&& !left (2*j+1)))||j==k/2:=by funext j;by_cases e:j=k/2;(subst e;rcases AOL k with h2|h2;(have e0:2*(k/2)=k:=KA;rw[e0];simp[hk]);have e0:2*(k/2)+1=k:=KA;rw[e0];simp[hk]);have e0:(2*j==k)=false:=NG;have e1:(2*j+1==k)=false:=NG;(have e2:(j==k/2)=false:=by simpa using e);rw[e0,e1,e2];simp
theorem aK (bL bD g o n c d B:Nat) (L:List Nat) (I:List Nat→J→Prop) (hI:OwnFrom B I) (hn:n=L.length) (hL:∀x∈L,x<18446744073709551616) (hLs:n≤1000) (hd:d≤16)
  (hB:∀pre W,I pre W→Boxed W bL 24 (.slice (Z ⟨g,o,Y⟩) n c)∧Boxed W bD 3 (Yg Yj d)∧∀j,j<n→W.cell? ⟨g,o+j,Y⟩=Z (Yg V (L.getD j 0:Nat)))
  (l:Nat) (R:J→Prop) (Rx:Code→J→Prop) (hBl:l=B+1) (hR:∀W W',R W→W'.heap[l]?=W.heap[l]?→W'.heap[B]?=W.heap[B]?→R W') (hlt:∀W,R W→l<W.heap.size)
  (hY:∀(pre:List Nat) (a:Nat) W,(I pre W∧(∃m,m≤1000∧MapU W a m (fB (Iw L pre.length)))∧pre.length<d∧B+2≤a)→R W→YieldAt Fence.wide 1 Yw l #[.map (Z a)] W fun e W'=>
    (e=Yi (Yl Yy)∧I (pre++[a]) W'∧R W'∧SH B l W W')∨(e=Yi (Yl Yz)∧∃c:Code,False∧Rx c W'))
  (W:J) (hI0:I [] W) (hRW:R W):
  CallsIn Fence.wide 2 Yw 323 #[.func (.yield l) #[] #[],U bL,U bD] W fun e W'=>(∃v,e=Yi v)∧∃pre,pre.length=d∧I pre W'∧R W':=by refine AOh Tryz.func323 rfl trivial ?_ rfl;simp only[Tryz.ntmps323,List.size_toArray,AMl,AMr,Nat.reduceAdd,Nat.reduceSub,Array.replicate_succ,Array.replicate_zero,ANO,ANH,List.nil_append,List.cons_append];have KP:Shut (∀pre W1 W2 b,I pre W1→R W1→W1.grownBy W2 (Z b)→l<b→(∃o,W1.heap[b]?=Z o∧o.isCells=Yz)→I pre W2∧R W2):=⟨fun pre W1 W2 b h1 h2 hg hb ho=>by have h3:=hlt W1 h2;exact⟨hI pre W1 W2 (Z b) h1 hg (fun r e=>by cases e;exact⟨KA,ho⟩),hR W1 W2 h2 (aX hg h3 KA) (aX hg KA KA)⟩⟩;have KZ:Shut (∀pre W1 W2,I pre W1→R W1→W1.grownBy W2 Y→I pre W2∧R W2):=⟨fun pre W1 W2 h1 h2 hg=>by have h3:=hlt W1 h2;exact⟨hI pre W1 W2 Y h1 hg (fun r e=>by cases e),hR W1 W2 h2 (hg.block l h3 NC) (hg.block B KA NC)⟩⟩;have HBL:=sq hBl;clear hBl;obtain⟨a,ha⟩:∃a,a=W.heap.size:=⟨_,rfl⟩;(have hla:l<a:=by rw[ha];exact hlt W hRW);have hI1:=KZ.out [] W _ hI0 hRW (World.grownBy_alloc W (.map #[] 0) Y);have hI2:=KZ.out [] _ _ hI1.1 hI1.2 (World.grownBy_alloc _ (.map #[] 0) Y);(have hm0:MapU ((W.alloc (.map #[] 0)).alloc (.map #[] 0)) a 0 (fB (fun k=>(L.take 0).contains k)):=by have:=(AQA W).but ((APu [] _).alloc (.map #[] 0)) NC;rw[←ha,Nv] at this;exact this);(have hm1:MapU ((W.alloc (.map #[] 0)).alloc (.map #[] 0)) (a+1) 0 (fB (fun _=>Yz)):=by have:=AQA (W.alloc (.map #[] 0));rw[AMk,←ha,Nv] at this;exact this);obtain⟨hx,hxd,hc⟩:=hB [] W hI0;have c0:=hx.cell;have lx:=hx.lt;have hmm:=ALM;have HI2:=sq (AMc hI2 (AMc hm0 hm1));clear hI1 hI2 hm0 hm1 hx hxd hc;have HLA:=sq hla;have HLL:Shut (∀j,j<n→L.getD j 0<18446744073709551616):=⟨fun j hj=>by rw[AMd,AMe KA];exact hL _ (ANZ _)⟩;gi_wp2_with fail;rw[←ha];clear c0 lx ha hmm;gi_loopw [13] (fun z wr=>∃j:Nat,z=Yg Yj (j:Nat)∧j≤n∧MapU wr a j (fB (fun k=>(L.take j).contains k))∧MapU wr (a+1) 0 (fB (fun _=>Yz))∧I [] wr∧R wr) (fun z _=>n-(intOf z).toNat);(case atStart=>exact⟨0,rfl,KA,HI2.out.2.1,HI2.out.2.2,HI2.out.1.1,HI2.out.1.2⟩);case round=>obtain⟨j,rfl,hj,hm0,hm1,hJ,hRw⟩:=hrel;by_cases hjn:j<n;(·have hjn':=AGN;obtain⟨hx,hxd,hc⟩:=hB [] wr hJ;have cj:=hc j hjn;have lg:=Ae cj;have hxj:=HLL.out j hjn;obtain⟨w3,hrun,hm3,hb3,hs3,hg3⟩:=hm0.put Tryz.underlying167 (L.getD j 0) hxj (Yl Yy) KA;have hI3:=KP.out [] wr w3 a hJ hRw hg3 HLA.out hm0.obj;have hm4:=hm1.but hb3 NC;rw[Vx] at hm3;(have et:fB (fun k=>(L.take j).contains k||k==L.getD j 0)=fB (fun k=>(L.take (j+1)).contains k):=Kr fun k=>by have hjl:j<L.length:=KA;(have e:L.take (j+1)=L.take j++[L.getD j 0]:=by rw[AMs,AMd,AMe hjl];rfl);rw[e];generalize L.getD j 0=lj;by_cases e1:k=lj;(subst e1;simp);simp[e1]);rw[et] at hm3;have HE:=sq (AMc hm3 (AMc hm4 hI3));clear hm0 hm1 hJ hRw hx hxd hc hxj hm3 hb3 hs3 hg3 hI3 hm4 et;generalize L.getD j 0=lj at*;gi_wp2_with fail;exact⟨⟨j+1,NC,KA,HE.out.1,HE.out.2.1,HE.out.2.2⟩,NF⟩);have hjn':=AFG;obtain rfl:j=n:=KA;obtain⟨hx,hxd,hc⟩:=hB [] wr hJ;have c1:=hxd.cell;have l1:=hxd.lt;(have et:fB (fun k=>(L.take j).contains k)=fB (Iw L 0):=Kr fun k=>by rw[Iw,AMp KA]);rw[et] at hm0;have HE:=sq (AMc hm0 (AMc hm1 (AMc hJ hRw)));clear hm0 hm1 hJ hRw hx hxd hc et;gi_wp2_with fail;gi_loopw [21,4,5] (fun z u v wr=>∃i p q m m2:Nat,z=Yg Yj i∧u=.map (Z p)∧v=.map (Z q)∧i≤d∧p≠q∧a≤p∧a≤q∧m≤1000∧m2≤1000∧MapU wr p m (fB (Iw L i))∧(∃f,MapU wr q m2 f)∧(∃pre,pre.length=i∧I pre wr)∧R wr) (fun z _ _ _=>d-(intOf z).toNat);(case atStart=>exact⟨0,a,a+1,j,0,rfl,rfl,rfl,KA,KA,KA,KA,KA,KA,HE.out.1,⟨_,HE.out.2.1⟩,⟨[],rfl,HE.out.2.2.1⟩,HE.out.2.2.2⟩);case round=>obtain⟨i,p,q,m,m2,rfl,rfl,rfl,hi,hpq,hap,haq,hm,hm2,hmp,⟨fq,hmq⟩,⟨pre,hpl,hJ⟩,hRw⟩:=hrel;clear HE c1 l1;have hla:=HLA.out;by_cases hid:i<d;(·have hid':((i:Int)<(d:Int)):=KA;obtain⟨fn,tmps,assign,body,hyl,hRd⟩:=hY pre p _ ⟨hJ,⟨m,hm,by rw[hpl];exact hmp⟩,KA,by have:=HBL.out;omega⟩ hRw;have HRD:=sq hRd;have HMP:=sq (AMc hmp hmq);have HN:=sq (AMc hid (AMc hpq (AMc hap (AMc haq (AMc hm (AMc hm2 hpl))))));clear hRd hmp hmq hJ hRw hid hpq hap haq hm hm2 hpl hla hLs;gi_wp2_with fail;refine HRD.out.mono ?_;rintro e W3 (⟨rfl,hJ3,hR3,hK3⟩|⟨rfl,cc,hc,_⟩);(·obtain⟨hid,hpq,hap,haq,hm,hm2,hpl⟩:=HN.out;(have hmp3:MapU W3 p m (fB (Iw L i)):=by obtain⟨ob,ho,hc⟩:=HMP.out.1.obj;exact HMP.out.1.same ((hK3.same p ob ADF ADg ho hc).trans ho.symm));(have hmq3:MapU W3 q m2 fq:=by obtain⟨ob,ho,hc⟩:=HMP.out.2.obj;exact HMP.out.2.same ((hK3.same q ob ADF ADg ho hc).trans ho.symm));obtain⟨w4,hrunC,hmq4,hb4,hs4,hg4⟩:=hmq3.clear Tryz.underlying167 0;have hk4:=KP.out (pre++[p]) W3 w4 q hJ3 hR3 hg4 ADg hmq3.obj;have hmp4:=hmp3.but hb4 NG;obtain⟨w5,hrunR,hmr5,hb5,hs5,hg5,hcnt⟩:=hmp4.range Tryz.underlying167;have hk5:=KZ.out (pre++[p]) w4 w5 hk4.1 hk4.2 hg5;have hmq5:=hmq4.but hb5 NC;have hpr:p<w4.heap.size:=hmp4.lt;have hqr:q<w4.heap.size:=hmq4.lt;obtain⟨r,hr⟩:∃r,r=w4.heap.size:=⟨_,rfl⟩;rw[←hr] at hrunR hmr5 hcnt hpr hqr;rw[Nv] at hmq5;have H5:=sq (AMc hmr5 (AMc hcnt (AMc hk5 hmq5)));have HP:=sq (AMc hpr hqr);have HPL:Shut ((pre++[p]).length=i+1):=⟨by simp[hpl]⟩;clear hmp3 hmq3 hmq4 hb4 hs4 hg4 hk4 hmp4 hmr5 hb5 hs5 hg5 hcnt hk5 hmq5 hpr hqr hr hid hpq hap haq hm hm2 hpl hJ3 hR3 hK3 HMP HRD hyl;generalize pre++[p]=pre1 at*;gi_wp2_with fail;have hk64:Shut (∀k,Iw L i k=Yy→k<18446744073709551616):=⟨fun k hk=>by rcases AM7 k 18446744073709551616 with h|h;(exact h);obtain⟨D,_,h2⟩:=H5.out.1.map;have:=h2.2.2 k h;simp[fB,hk] at this⟩;gi_loopw [8] (fun z wr=>∃(left:Nat→Bool) (m3:Nat),Gj wr p r m (fB (Iw L i)) left∧MapU wr q m3 (fB (fun j=>((Iw L i (2*j)&& !left (2*j))||(Iw L i (2*j+1)&& !left (2*j+1)))))∧m3+wr.rangeLeft p r≤m∧(∀j,left j=Yy→Iw L i j=Yy)∧I pre1 wr∧R wr) (fun _ wr=>wr.rangeLeft p r);(case atStart=>refine⟨_,0,H5.out.1,?_,by have:=H5.out.2.1;omega,fun j hj=>ADH,H5.out.2.2.1⟩;(have e:(fun _=>Yz)=(fun j=>((Iw L i (2*j)&& !(fB (Iw L i) (2*j)).isSome)||(Iw L i (2*j+1)&& !(fB (Iw L i) (2*j+1)).isSome))):=by funext j;rw[Gh,Gh];cases Iw L i (2*j)<;>cases Iw L i (2*j+1)<;>rfl);rw[←e];exact H5.out.2.2.2);case round=>obtain⟨left,m3,hMR,hMQ,hm3,hlf,hJ,hRw⟩:=hrel;rcases hMR.next 0 with⟨hno,hrn⟩|⟨k,vv,w1,hk,hlk,hfk,hrn,hr1,hlt1,hb1,hsz1,hg1,hen⟩;(·(have eT:fB (fun j=>((Iw L i (2*j)&& !left (2*j))||(Iw L i (2*j+1)&& !left (2*j+1))))=fB (Iw L (i+1)):=Kr fun j=>by rw[hno,hno,Iw];simp);rw[eT] at hMQ;have HE:=sq (AMc hMR.map (AMc hMQ (AMc hm3 (AMc hJ hRw))));clear hMR hMQ hm3 hlf hJ hRw hno H5 hk64;gi_wp2_with fail;have hn:=HN.out;exact⟨⟨i+1,q,p,m3,m,NC,rfl,rfl,KA,KA,KA,KA,by have:=HE.out.2.2.1;omega,KA,HE.out.2.1,⟨_,HE.out.1⟩,⟨pre1,HPL.out,HE.out.2.2.2.1⟩,HE.out.2.2.2.2⟩,NF⟩);have hkp:k/2<18446744073709551616:=KA;(have hnq:q≠r:=by have:=HP.out;omega);have hMQ1:=hMQ.but hb1 (by simpa using hnq);obtain⟨w2,hput,hmq2,hb2,hs2,hg2⟩:=hMQ1.put Tryz.underlying167 (k/2) hkp (Yl Yy) (by have:=HN.out;omega);rw[Vx] at hmq2;have hlk2:=hlf k hlk;rw[←xA L i k left hlk hlk2 hlf] at hmq2;have hit:=hMR.iter;have h1:=KP.out pre1 wr w1 r hJ hRw hg1 (by have:=HP.out;have:=HN.out;have:=HLA.out;omega) hit;have h2:=KP.out pre1 w1 w2 q h1.1 h1.2 hg2 (by have:=HN.out;have:=HLA.out;omega) hMQ1.obj;(have hpq2:p∉[q]:=by simp;exact HN.out.2.1);(have hrq2:r∉[q]:=by simpa using fun e=>hnq e.symm);have hr2:=hr1.but hb2 hpq2 hrq2;have hl2:w2.rangeLeft p r=w1.rangeLeft p r:=CQ hb2 hpq2 hrq2 (hr1.map.lt) hr1.lt;have PAR:=sq (fun W1=>RH k W1 hk);have HE:=sq (AMc hr2 (AMc hmq2 (AMc (show m3+1+w2.rangeLeft p r≤m by omega) (AMc (fun j (hj:(left j&& !(j==k))=Yy)=>hlf j ABz) (AMc h2 (show w2.rangeLeft p r<wr.rangeLeft p r by omega))))));clear hMR hMQ hm3 hlf hJ hRw hkp hMQ1 hmq2 hb2 hs2 hg2 hlk2 hit h1 h2 hr2 hl2 hk hlk hfk hr1 hlt1 hb1 hsz1 hg1 H5;generalize k/2=kh at*;gi_wp2_with fail;refine⟨trivial,(ANE.2 (PAR.out _)).mono ?_⟩;rintro e w3 ⟨rfl,hw3⟩;rw[hw3];clear hw3 w3;gi_wp2_with fail;exact⟨⟨_,m3+1,HE.out.1,HE.out.2.1,HE.out.2.2.1,HE.out.2.2.2.1,HE.out.2.2.2.2.1⟩,HE.out.2.2.2.2.2⟩);exact hc.elim);have hid':¬((i:Int)<(d:Int)):=KA;obtain rfl:i=d:=KA;gi_wp2_with fail;go_end0;exact⟨⟨_,rfl⟩,pre,hpl,hJ,hRw⟩
open Go Go.RowKit
theorem Seen.noBlk {W:J} {m n:Nat} {ks:List (List UInt8)} (h:Seen W m n ks) (cs:Array Yu) (t:TypeId):¬AJ W m cs t:=fun hb=>by
 obtain⟨D,⟨es,clock,hb1,_⟩,_⟩:=h;unfold AJ at hb;rw[hb1] at hb;cases hb
def Ff (T:TypeId→Prop) (W W':J):Prop:=∀k cs t,T t→AJ W k cs t→AJ W' k cs t
theorem Ff.trans {T:TypeId→Prop} {a b c:J} (h:Ff T a b) (h':Ff T b c):Ff T a c:=fun k cs t ht hb=>h' k cs t ht (h k cs t ht hb)
theorem But.keepsT {T:TypeId→Prop} {L:List Nat} {W W':J} (h:But L W W') (hL:∀k∈L,∀cs t,AJ W k cs t→¬T t):Ff T W W':=fun k cs t ht hb=>
 (h.block k hb.lt0 fun hm=>hL k hm cs t hb ht).trans hb
theorem But.keeps0 {W W':J} (h:But [] W W') (T:TypeId→Prop):Ff T W W':=h.keepsT NC
theorem EF {T:TypeId→Prop} {a b:J} {base:Nat} {e:TypeId} {sz:Nat} {v:Yu} {n:Nat} {xs:List Yu} (h:a.ownsRow base e sz v n xs) (hk:Ff T a b) (he:T e):b.ownsRow base e sz v n xs:=by obtain⟨h1,h2⟩:=h;refine⟨h1,?_⟩;rcases h2 with h2|⟨g,cap,cur,hv,hg,hh,r⟩;(exact Or.inl h2);exact Or.inr ⟨g,cap,cur,hv,hg,hk g cur e he hh,r⟩
def Tq (tx t:TypeId):Prop:=t=9∨(tx=27∧(t=22∨t=70))
theorem Ii (tx:TypeId):¬Tq tx 274:=by rintro (h|⟨_,h|h⟩);(exact absurd h ND);(exact absurd h ND);exact absurd h ND
theorem GH {tx:TypeId} (h:tx≠9):¬Tq tx tx:=by rintro (h1|⟨rfl,h1|h1⟩);(exact h h1);(exact absurd h1 ND);exact absurd h1 ND
namespace Full
inductive CW where
 |num (n:Nat)
 |flag (n:Nat)
 |txt (l:List UInt8)
 |digs (l:List (List UInt8))
 |nums (l:List Nat)
 |sub (any:Bool) (rs:List (Nat×CW))
 |revs (l:List (List (Nat×CW)))
def CW.nothing:CW→Bool
 |.num n=>n==0
 |.flag n=> !(n==1)
 |.txt _=>Yz
 |.digs l=>l.length==0
 |.nums l=>l.length==0
 |.sub any _=> !any
 |.revs l=>l.length==0
def Eu (F:List FD) (get:Nat→List UInt8→Option (CW×List UInt8)):Nat→Nat→List (List UInt8)→List (Nat×CW)→List UInt8→Option (List (Nat×CW)×List UInt8)
 |0,_,ks,rs,l=>if Ky F ks then Z (rs,l) else Y
 |n+1,fr,ks,rs,l=>
  match GY MB 10240 l with
  |none=>Y
  |some (k,l1)=>
   if G6 F fr k<0 then Y else
   match get (fr+(G6 F fr k).toNat) l1 with
   |none=>Y
   |some (x,l2)=>if x.nothing then Y else Eu F get n (fr+(G6 F fr k).toNat+1) (k::ks) ((fr+(G6 F fr k).toNat,x)::rs) l2
def EJ (F:List FD) (get:Nat→List UInt8→Option (CW×List UInt8)) (l:List UInt8):Option (List (Nat×CW)×List UInt8):=
 match FO Ih 10240 l with
 |none=>Y
 |some (n,l1)=>Eu F get n 0 [] [] l1
structure Lvl (B gR g gx:Nat) (S:List UInt8) (W:J) (tx:TypeId) (F:List FD) (get:Nat→List UInt8→Option (CW×List UInt8)) (Ok:Nat→List (Nat×CW)→J→Array Yu→Prop) where
 txs:tx≠9
 stay:∀fr rs w w' cs,Ff (Tq tx) w w'→Ok fr rs w cs→Ok fr rs w' cs
 gfn:Nat→FuncId
 gcaps:Nat→Array Yu
 efn:Nat→FuncId
 ecaps:Nat→Array Yu
 gval:∀i,i<F.length→(F.getD i fd0).get=G (M (gfn i)) #[] (gcaps i)
 eval_:∀i,i<F.length→(F.getD i fd0).emp=G (M (efn i)) #[] (ecaps i)
 mval:∀i,i<F.length→∃fn caps,(F.getD i fd0).may=G (M fn) #[] caps
 pval:∀i,i<F.length→∃fn caps,(F.getD i fd0).put=G (M fn) #[] caps
 gcall:∀i,i<F.length→∀args W',(callFunc (gfn i) args).run Yw W'=.ok (.enter (gfn i) args) W'
 ecall:∀i,i<F.length→∀args W',(callFunc (efn i) args).run Yw W'=.ok (.enter (efn i) args) W'
 hget:∀fr i rs cs l W',fr≤i→i<F.length→Ok fr rs W' cs→RS B gR g S W' l→AJ W' gx cs tx→But (g::[gx]) W W'→
  Yv Yw (gfn i) (#[U gR]++gcaps i) W' fun e w'=>DS B gR g S [gx] W' (get i l) (fun x w'=>∃cs',AJ w' gx cs' tx∧Ok (i+1) ((i,x)::rs) w' cs') e w'
 hemp:∀i x rs cs W',i<F.length→Ok (i+1) ((i,x)::rs) W' cs→AJ W' gx cs tx→But (g::[gx]) W W'→
  Yv Yw (efn i) (ecaps i) W' fun e w'=>e=Yi (Yl x.nothing)∧But [] W' w'
theorem Ma {B gR g gx:Nat} {S rest:List UInt8} {W:J} {tx:TypeId} {F:List FD} {get:Nat→List UInt8→Option (CW×List UInt8)} {Ok:Nat→List (Nat×CW)→J→Array Yu→Prop} (L:Lvl B gR g gx S W tx F get Ok)
  (gl cs0:Nat) (cs:Array Yu) (h:RS B gR g S W rest) (hF:Em W gl F) (hx:AJ W gx cs tx) (hok:Ok 0 [] W cs) (hd:gl≠g∧gl≠gx∧gx≠g∧gx≠gR∧B≤gx) (hn:F.length<100) (hkl:∀i,(F.getD i fd0).key.length≤1000000) (hc:F.length≤cs0):
  Yv Yw 154 #[U gR,Yh gl F.length cs0] W fun e w'=>DS B gR g S [gx] W (EJ F get rest) (fun rs w'=>∃fr cs',AJ w' gx cs' tx∧Ok fr rs w' cs') e w':=by
 have H:=sq h;have HF:=sq hF;have D:=sq hd;have HX:=sq hx;have HO:=sq hok;have KG:Shut (∀w w' at_,Rd w g (AB S) at_ 10240→But [g] w w'→Ff (Tq tx) w w'):=⟨fun w w' at_ hr hb=>hb.keepsT fun k hk cs t hB=>by obtain rfl:=AMh.1 hk;unfold Rd AJ at hr;unfold AJ at hB;rw[hr] at hB;cases hB;exact Ii tx⟩;have HN:=sq (AMc hn (AMc hkl hc));have HMK:∀w,(Instr.makeMap 275 Y).run Yw w=.ok (.map (Z w.heap.size)) (w.alloc (.map #[] 0)):=fun _=>rfl;have HSF:∀(a:Addr) (fn:Fn) (x y:Array Yu) (md:Mode) (w:J),(store a (.func fn x y) md).run Yw w=stored Yw w a (.func fn x y) md:=fun a fn x y md w=>APr Yw w a _ md rfl;have hmf:=AIW;have B0:=sq (((APu [] W).alloc (.map #[] 0)).alloc (Yk #[.map (Z W.heap.size)] 275));have M0:Shut (Seen ((W.alloc (.map #[] 0)).alloc (Yk #[.map (Z W.heap.size)] 275)) W.heap.size 0 []):=⟨(Seen.new W).but ((APu [] _).alloc _) NC⟩;have V0':=APw (W.alloc (.map #[] 0)) #[.map (Z W.heap.size)] 275;rw[AMk] at V0';have V0:=sq V0';have r0:(((W.alloc (.map #[] 0)).alloc (Yk #[.map (Z W.heap.size)] 275))).cell? gR=Z (U g):=(h.rR.but B0.out NC).cell 0 rfl;clear h hF hd hx hok hn hkl hc V0';go_in;go_wp2_with fail;generalize (W.alloc (.map #[] 0)).alloc (Yk #[.map (Z W.heap.size)] 275)=W0 at*;obtain⟨SZ,hSZ⟩:∃z,z=W.heap.size:=⟨_,rfl⟩;have HSZ:=sq hSZ;have hm0:Shut (SZ≤W.heap.size):=⟨KA⟩;have hv0:Shut (SZ≤W.heap.size+1):=⟨KA⟩;have hvm:Shut (W.heap.size+1≠W.heap.size):=⟨KA⟩;clear hSZ;generalize W.heap.size+1=vb at V0 hv0 hvm⊢;generalize W.heap.size=m at M0 V0 hm0 hvm⊢;have hdd:Shut (g<SZ∧gR<SZ∧gx<SZ∧gl<SZ):=⟨by have h1:=H.out.rd.lt;have h2:=H.out.rR.lt;have h3:=HX.out.lt;have h4:=HF.out.1;have h5:=HSZ.out;omega⟩;have H0:=sq (H.out.zero B0.out);have HX0:=sq (HX.out.but B0.out NC);have OK0:=sq (L.stay _ _ _ _ _ (B0.out.keeps0 _) HO.out);refine (zj H0.out).mono ?_;rcases ho:FO Ih 10240 rest with _|⟨n,l1⟩;(·rintro e w1 ⟨⟨_,⟨p,rfl⟩,rfl⟩,hb⟩;go_wp2_with fail;refine (L9 (Yg Yj 0) p _).mono ?_;rintro e w2 ⟨rfl,rfl⟩;go_wp2_with fail;refine⟨rfl,(B0.out.trans hb).nil,?_⟩;simp only[EJ,ho];exact⟨p,rfl⟩);rintro e w1 ⟨rfl,hr,hb⟩;have hnm:n≤10240:=(Hd ho).2;have R1:=sq (H0.out.step hb hr (WD ho));have B1:Shut (But (g::[gx]) W w1):=⟨(B0.out.nil.trans (Cv hb))⟩;have X1:=sq (HX0.out.but hb (by simpa using D.out.2.2.1));have OK1:=sq (L.stay _ _ _ _ _ (KG.out _ _ _ H0.out.rd hb) OK0.out);have M1:=sq (M0.out.but hb ACk);have V1:=sq (V0.out.but hb ACl);have HC:=sq ho;clear hr hb ho r0;go_wp2_with fail;refine (M7 (OQ n) w1).mono ?_;rintro e w2 ⟨rfl,hw⟩;subst hw;simp only[OQ];go_wp2_with fail
 go_loopw [4,18] (fun a b wr=>∃(j fr nn:Nat) (ks:List (List UInt8)) (rs:List (Nat×CW)) (cs':Array Yu) (l:List UInt8),a=Yg Yj fr∧b=Yg Yj j∧j≤n∧fr≤F.length∧RS B gR g S wr l∧
  Eu F get n 0 [] [] l1=Eu F get (n-j) fr ks rs l∧AJ wr gx cs' tx∧Ok fr rs wr cs'∧But (g::[gx]) W wr∧Seen wr m nn ks∧nn≤j∧AJ wr vb #[.map (Z m)] 275) (fun _ b _=>n-(intOf b).toNat)
 (case atStart=>exact⟨0,0,0,[],[],cs,l1,rfl,rfl,KA,KA,R1.out,rfl,X1.out,OK1.out,B1.out,M1.out,KA,V1.out⟩)
 case round=>
  obtain⟨j,fr,nn,ks,rs,cs',l,rfl,rfl,hj,hfr,hrs,hob,hbx,hok,hbb,hse,hnj,hvb⟩:=hrel;have RSj:=sq hrs;have OB:=sq hob;have BX:=sq hbx;have OK:=sq hok;have BB:=sq hbb;have SE:=sq hse;have VB:=sq hvb;have NJ:=sq (AMc hnj hfr);clear R1 B1 X1 M1 V1 hrs hob hbx hok hbb hse hvb hnj;by_cases hjn:j<n
  ·have hjn':=AGN;have r0:wr.cell? gR=Z (U g):=RSj.out.rR.cell 0 rfl;have OBJ:=OB.out;rw[show n-j=(n-(j+1))+1 by omega,Eu] at OBJ;have OB1:=sq OBJ;have OBR:Shut (∀v,Eu F get (n-j) fr ks rs l=v→Eu F get n 0 [] [] l1=v):=⟨fun v hv=>OB.out.trans hv⟩;clear OBJ;go_wp2_with fail;refine (yu RSj.out).mono ?_;rcases hk:GY MB 10240 l with _|⟨k,l2⟩;(·rintro e w3 ⟨⟨_,⟨p,rfl⟩,rfl⟩,hb⟩;go_wp2_with fail;refine (I4 (O ⟨#[]⟩) p _).mono ?_;rintro e w4 ⟨rfl,rfl⟩;go_wp2_with fail;refine⟨rfl,BB.out.trans hb.nil,?_⟩;simp only[EJ,HC.out,OB1.out,hk];exact⟨p,rfl⟩);rintro e w3 ⟨rfl,hr,hb⟩;have R3:=sq (RSj.out.step hb hr (iD hk));have B3:Shut (But (g::[gx]) W w3):=⟨BB.out.trans (Cv hb)⟩;have X3:=sq (BX.out.but hb (by simpa using D.out.2.2.1));have OK3:=sq (L.stay _ _ _ _ _ (KG.out _ _ _ RSj.out.rd hb) OK.out);have M3:=sq (SE.out.but hb ACk);have V3:=sq (VB.out.but hb ACl);have OB2:=OB1.out;rw[hk] at OB2;simp only[] at OB2;have OB3:=sq OB2;clear OB2 hr hb r0 RSj BX SE VB BB;go_wp2_with fail;refine (J8 (I6 k) w3).mono ?_;rintro e w4 ⟨rfl,hw⟩;subst hw;simp only[I6];have K4:=sq (APw w4 #[O (AB k)] 9);have BA:=sq ((APu [] w4).alloc (Yk #[O (AB k)] 9));have hkz:Shut (SZ≤w4.heap.size∧m<w4.heap.size∧vb<w4.heap.size):=⟨by have h1:=B3.out.size;have h2:=HSZ.out;have h3:=M3.out.lt;have h4:=V3.out.lt;omega⟩;go_upto_region 5 with fail;generalize w4.alloc (Yk #[O (AB k)] 9)=w5 at*;generalize w4.heap.size=kb at*;have R5:=sq (R3.out.zero BA.out);have B5:Shut (But (g::[gx]) W w5):=⟨B3.out.trans BA.out.nil⟩;have X5:=sq (X3.out.but BA.out NC);have OK5:=sq (L.stay _ _ _ _ _ (BA.out.keeps0 _) OK3.out);have M5:=sq (M3.out.but BA.out NC);have V5:=sq (V3.out.but BA.out NC);have F5:=sq (HF.out.but B5.out PU);clear R3 B3 X3 M3 V3 BA;have hF100:=HN.out.1;have hfl:=NJ.out.2;have hcl:=HN.out.2.2;rcases AM7 fr cs0 with hfc|hfc
   ·have I5:=sq (fM F gl fr (F.length-fr) (cs0-fr) (fr*6) (fun i=>(F.getD (fr+i) fd0).key==k) 209 (U kb) w5 F5.out KA (fun _=>rfl) KA KA (fun _ _=>PE) (fun i W' hi hb=>by have hk':=K4.out.but hb NC;exact qU _ k kb W' (hk'.cell 0 rfl) hk'.lt));have hlt:=mG (F:=F) (k:=k) hfl;rw[show firstIdx (fun i=>(F.getD (fr+i) fd0).key==k) (F.length-fr) 0=G6 F fr k from rfl] at I5;obtain⟨q,hq⟩:∃q,q=G6 F fr k:=⟨_,rfl⟩;rw[←hq] at I5 hlt;have HQ:=sq hq;clear hq;rcases Int.lt_or_le q 0 with hq0|hq0;(·have hq1:¬((0:Int)≤q):=KA;have hq2:decide ((0:Int)≤q)=false:=ANT hq1;go_wp2_with fail;refine I5.out.mono ?_;rintro e w6 ⟨rfl,hb6⟩;go_wp2_with fail;refine (Lb 5 w6).mono ?_;rintro e w7 ⟨⟨p,rfl⟩,hb7⟩;go_wp2_with fail;refine⟨rfl,B5.out.trans (hb6.trans hb7).nil,?_⟩;simp only[EJ,HC.out,OB3.out,←HQ.out];rw[AMx hq0];exact⟨p,rfl⟩);obtain⟨a,rfl⟩:∃a:Nat,q=(a:Int):=⟨q.toNat,KA⟩;have hal:fr+a<F.length:=KA;have OB4:=OB3.out;rw[←HQ.out,AMu KA] at OB4;simp only[Int.toNat_natCast] at OB4;have OB5:=sq OB4;have HAL:=sq hal;clear OB4 OB3 hlt hal hq0;go_wp2_with fail;refine I5.out.mono ?_;rintro e w6 ⟨rfl,hb6⟩;have R6:=sq (R5.out.zero hb6);have B6:Shut (But (g::[gx]) W w6):=⟨B5.out.trans hb6.nil⟩;have X6:=sq (X5.out.but hb6 NC);have OK6:=sq (L.stay _ _ _ _ _ (hb6.keeps0 _) OK5.out);have M6:=sq (M5.out.but hb6 NC);have V6:=sq (V5.out.but hb6 NC);have K6:=sq (K4.out.but hb6 NC);have hcell:=(F5.out.but hb6 NC).2 (fr+a) HAL.out;obtain⟨f,hf⟩:∃f,f=F.getD (fr+a) fd0:=⟨_,rfl⟩;rw[←hf] at hcell;obtain⟨c0,c1,c2,c3,c4,c5⟩:=hcell;obtain⟨mf,mc,hmv⟩:=L.mval (fr+a) HAL.out;obtain⟨pf,pc,hpv⟩:=L.pval (fr+a) HAL.out;rw[hf,L.eval_ (fr+a) HAL.out] at c2;rw[hf,hmv] at c3;rw[hf,hpv] at c4;rw[hf,L.gval (fr+a) HAL.out] at c5;have GC:=sq (L.gcall (fr+a) HAL.out);have EC:=sq (L.ecall (fr+a) HAL.out);have GT:=sq (L.hget fr (fr+a) rs cs' l2);have ET:=sq (L.hemp (fr+a));have hgc:=GC.out;have hec:=EC.out;generalize L.gfn (fr+a)=gf at c5 GC GT hgc;generalize L.gcaps (fr+a)=gc at c5 GC GT hgc;generalize L.efn (fr+a)=ef at c2 EC ET hec;generalize L.ecaps (fr+a)=ec at c2 EC ET hec;obtain⟨fk,hfk⟩:∃fk,fk=f.key:=⟨_,rfl⟩;rw[←hfk] at c0;generalize f.must=fm at c1;have HFD:=sq hf;clear hmv hpv hfk GC EC;have hal':((fr:Int)+(a:Int)<(F.length:Int)):=ADh;have hq0:(0:Int)≤(a:Int):=KA;clear hf hb6 R5 B5 X5 M5 V5 K4 F5 I5;go_wp2_with fail;refine (Kg 5 w6).mono ?_;rintro e w7 ⟨rfl,hw⟩;subst hw;go_upto_region 8 with fail;have FB8:=sq (APw w7 #[O (AB fk),Yl fm,G (M ef) #[] ec,G (M mf) #[] mc,G (M pf) #[] pc,G (M gf) #[] gc] 220);have BA8:=sq ((APu [] w7).alloc (Yk #[O (AB fk),Yl fm,G (M ef) #[] ec,G (M mf) #[] mc,G (M pf) #[] pc,G (M gf) #[] gc] 220));have hfz:Shut (SZ≤w7.heap.size):=⟨by have h1:=B6.out.size;have h2:=HSZ.out;omega⟩;generalize w7.alloc (Yk #[O (AB fk),Yl fm,G (M ef) #[] ec,G (M mf) #[] mc,G (M pf) #[] pc,G (M gf) #[] gc] 220)=w8 at*;generalize w7.heap.size=fb at*;have R8:=sq (R6.out.zero BA8.out);have B8:Shut (But (g::[gx]) W w8):=⟨B6.out.trans BA8.out.nil⟩;have X8:=sq (X6.out.but BA8.out NC);have OK8:=sq (L.stay _ _ _ _ _ (BA8.out.keeps0 _) OK6.out);have M8:=sq (M6.out.but BA8.out NC);have V8:=sq (V6.out.but BA8.out NC);have K8:=sq (K6.out.but BA8.out NC);have c5':=FB8.out.cell 5 rfl;have GT8:=sq (GT.out w8 KA HAL.out OK8.out R8.out X8.out B8.out);clear c0 c1 c2 c3 c4 c5 R6 B6 X6 M6 V6 K6 BA8 GT;go_wp2_with fail;refine GT8.out.mono ?_;rintro e w9 ⟨hb9,hE9⟩;have B9:Shut (But (g::[gx]) W w9):=⟨B8.out.trans hb9⟩;rcases hgt:get (fr+a) l2 with _|⟨x,l3⟩;(·rw[hgt] at hE9;obtain⟨p,rfl⟩:=hE9;go_wp2_with fail;refine⟨rfl,B9.out,?_⟩;simp only[EJ,HC.out,OB5.out,hgt];exact⟨p,rfl⟩);rw[hgt] at hE9;obtain⟨rfl,hr9,og,hx9,hok9⟩:=hE9;(have hng:∀b:Nat,SZ≤b→b∉(g::[gx]):=fun b hb=>by have:=hdd.out;simp;omega);have R9:=sq hr9;have X9:=sq hx9;have OK9:=sq hok9;have M9:=sq (M8.out.but hb9 (hng m hm0.out));have V9:=sq (V8.out.but hb9 (hng vb hv0.out));have K9:=sq (K8.out.but hb9 (hng kb hkz.out.1));have FB9:=sq (FB8.out.but hb9 (hng fb hfz.out));have c2':=FB9.out.cell 2 rfl;have ET9:=sq (ET.out x rs og w9 HAL.out hok9 hx9 B9.out);have OB6:=OB5.out;rw[hgt] at OB6;simp only[] at OB6;have OB7:=sq OB6;clear hb9 hr9 hx9 hok9 hng c5' R8 B8 X8 M8 V8 K8 FB8 GT8 ET OB6 OB5 OK;go_wp2_with fail;refine ET9.out.mono ?_;rintro e w10 ⟨rfl,hb10⟩;have B10:Shut (But (g::[gx]) W w10):=⟨B9.out.trans hb10.nil⟩;rcases hno:x.nothing with _|_
    ·have OB8:=OB7.out;rw[hno,AMu ND] at OB8;have OB9:=sq OB8;have R10:=sq (R9.out.zero hb10);have X10:=sq (X9.out.but hb10 NC);have OK10:=sq (L.stay _ _ _ _ _ (hb10.keeps0 _) OK9.out);have M10:=sq (M9.out.but hb10 NC);have V10:=sq (V9.out.but hb10 NC);have K10:=sq (K9.out.but hb10 NC);clear OB8 OB7 R9 X9 M9 V9 K9 FB9 ET9 hb10 c2' hno;go_wp2_with fail;refine (Kg 5 w10).mono ?_;rintro e w11 ⟨rfl,hw⟩;subst hw;obtain⟨w12,hput,hs12,hb12⟩:=M10.out.put k (by have:=vH hk;omega) (by have:=NJ.out.1;omega);have hv11:=V10.out.cell 0 rfl;have hk11:=K10.out.cell 0 rfl;have HS12:=sq hs12;have HB12:=sq hb12
     have OK12:=sq (L.stay _ _ _ _ _ (hb12.keepsT fun b hbm cs t hB=>by
      obtain rfl:=AMh.1 hbm;exact absurd hB (M10.out.noBlk _ _)) OK10.out)
     have hal':((fr:Int)+(a:Int)<(F.length:Int)):=ADh;clear hs12 hb12;go_wp2_with fail;(have hne:m≠g∧m≠gR∧m≠gx∧B≤m∧W.heap.size≤m:=by have h1:=hdd.out;have h2:=hm0.out;have h3:=H.out.hB;have h4:=HSZ.out;omega);exact⟨⟨j+1,fr+a+1,nn+1,k::ks,(fr+a,x)::rs,og,l3,by (congr 1<;>try omega),NC,KA,ADh,R10.out.but HB12.out NG NG NG,OB9.out,X10.out.but HB12.out NG,OK12.out,B10.out.trans2 HB12.out NG,HS12.out,by have:=NJ.out.1;omega,V10.out.but HB12.out (by have:=hvm.out;simp;omega)⟩,NF⟩
    have HNO:=sq hno;clear hno;go_wp2_with fail;refine (Lb 5 w10).mono ?_;rintro e w11 ⟨⟨p,rfl⟩,hb11⟩;go_wp2_with fail;refine⟨rfl,B10.out.trans hb11.nil,?_⟩;simp only[EJ,HC.out,OB7.out];rw[AMx HNO.out];exact⟨p,rfl⟩
   have hz:F.length-fr=0:=KA;have hce:cs0=fr:=KA;(have hki:G6 F fr k= -1:=by rw[G6,hz];rfl)
   have I5:Shut (Yv Yw 208 #[Yh gl 0 0,G (M 209) #[] #[U kb]] w5 fun e w'=>e=Yi (Yg Yj (-1))∧But [] w5 w'):=
    ⟨fM F gl fr 0 0 0 (fun _=>Yz) 209 (U kb) w5 F5.out KA KA KA KA (fun _ _=>PE) (fun i W' hi hb=>KA)⟩
   have HK:=sq hki;subst hce;clear hz hki;go_wp2_with fail;refine I5.out.mono ?_;rintro e w6 ⟨rfl,hb6⟩;go_wp2_with fail;refine (Lb 5 w6).mono ?_;rintro e w7 ⟨⟨p,rfl⟩,hb7⟩;go_wp2_with fail;refine⟨rfl,B5.out.trans (hb6.trans hb7).nil,?_⟩;simp only[EJ,HC.out,OB3.out,HK.out];rw[AMx ND];exact⟨p,rfl⟩
  have hjn':=AFG;have hje:j=n:=KA;subst hje;have OBJ:=OB.out;rw[AN6,Eu] at OBJ;have OB1:=sq OBJ;have hcl:=HN.out.2.2;have HCN:=sq (nM F gl cs0 (fun i=>(F.getD i fd0).must&& !(decide ((F.getD i fd0).key∈ks))) 212 (U vb) wr (HF.out.but BB.out PU) hcl ACA (fun _ _=>PE) (fun i W' hi hb=>by have hv':=VB.out.but hb NC;exact lK _ ks vb m nn W' (hv'.cell 0 rfl) hv'.lt (SE.out.but hb NC) (HN.out.2.1 i)));rw[WO] at HCN;clear OBJ hcl;go_wp2_with fail;refine HCN.out.mono ?_;rintro e w2 ⟨rfl,hb2⟩;rcases hat:Ky F ks with _|_;(·have HAT:=sq hat;clear hat;go_wp2_with fail;refine (Lb 5 w2).mono ?_;rintro e w3 ⟨⟨p,rfl⟩,hb3⟩;go_wp2_with fail;refine⟨rfl,BB.out.trans (hb2.trans hb3).nil,?_⟩;simp only[EJ,HC.out,OB1.out];rw[AMu (by rw[HAT.out];decide)];exact⟨p,rfl⟩);have HAT:=sq hat;clear hat;go_wp2_with fail;refine (Kg 5 w2).mono ?_;rintro e w3 ⟨rfl,hw⟩;subst hw;go_wp2_with fail;go_end0;refine⟨BB.out.trans hb2.nil,?_⟩;simp only[EJ,HC.out,OB1.out];rw[AMx HAT.out];exact⟨trivial,RSj.out.zero hb2,fr,cs',BX.out.but hb2 NC,L.stay _ _ _ _ _ (hb2.keeps0 _) OK.out⟩
def em (fe:Bool):Option CW→Bool
 |none=>fe
 |some x=>x.nothing
structure bR (B gR g gx:Nat) (S:List UInt8) (W:J) (tx:TypeId) (f:FD) (get:List UInt8→Option (CW×List UInt8)) (lo hi:Nat) (St:Option CW→J→Array Yu→Prop) (fe:Bool) where
 gfn:FuncId
 gcaps:Array Yu
 efn:FuncId
 ecaps:Array Yu
 gval:f.get=G (M gfn) #[] gcaps
 eval_:f.emp=G (M efn) #[] ecaps
 mval:∃fn caps,f.may=G (M fn) #[] caps
 pval:∃fn caps,f.put=G (M fn) #[] caps
 gcall:∀args W',(callFunc gfn args).run Yw W'=.ok (.enter gfn args) W'
 ecall:∀args W',(callFunc efn args).run Yw W'=.ok (.enter efn args) W'
 txs:tx≠9
 loc:∀o w w' cs cs',Ff (Tq tx) w w'→(∀k,lo≤k→k<hi→cs'[k]?=cs[k]?)→St o w cs→St o w' cs'
 hget:∀cs l W',St Y W' cs→RS B gR g S W' l→AJ W' gx cs tx→But (g::[gx]) W W'→
  Yv Yw gfn (#[U gR]++gcaps) W' fun e w'=>DS B gR g S [gx] W' (get l) (fun x w'=>∃cs',AJ w' gx cs' tx∧Same lo hi cs cs'∧St (Z x) w' cs') e w'
 hemp:∀o cs W',St o W' cs→AJ W' gx cs tx→But (g::[gx]) W W'→
  Yv Yw efn ecaps W' fun e w'=>e=Yi (Yl (em fe o))∧But [] W' w'
def look (rs:List (Nat×CW)) (i:Nat):Option CW:=(rs.find? (·.1==i)).map (·.2)
theorem lX {rs:List (Nat×CW)} {fr i:Nat} (h:∀p∈rs,p.1<fr) (hi:fr≤i):look rs i=none:=by unfold look;rw[APK.2];(rfl);intro p hp;have:=h p hp;simp;omega
theorem Tv (rs:List (Nat×CW)) (i:Nat) (x:CW):look ((i,x)::rs) i=Z x:=by simp[look]
theorem fF (rs:List (Nat×CW)) {i j:Nat} (x:CW) (h:i≠j):look ((i,x)::rs) j=look rs j:=by simp[look,List.find?_cons,h]
def oL (n:Nat) (St:Nat→Option CW→J→Array Yu→Prop) (l0 h0:Nat) (cs0:Array Yu) (fr:Nat) (rs:List (Nat×CW)) (w:J) (cs:Array Yu):Prop:=
 (∀p∈rs,p.1<fr)∧(∀i,i<n→St i (look rs i) w cs)∧Same l0 h0 cs0 cs
section
variable {B gR g gx:Nat} {S:List UInt8} {W:J} {tx:TypeId}
def sU {F:List FD} {get:Nat→List UInt8→Option (CW×List UInt8)} {lo hi:Nat→Nat} {St:Nat→Option CW→J→Array Yu→Prop} {fe:Nat→Bool}
  (K:∀i,i<F.length→bR B gR g gx S W tx (F.getD i fd0) (get i) (lo i) (hi i) (St i) (fe i))
  (hdis:∀i j,i<F.length→j<F.length→i≠j→hi i≤lo j∨hi j≤lo i) (cs0:Array Yu) (l0 h0:Nat) (hin:∀i,i<F.length→l0≤lo i∧hi i≤h0) (txs:tx≠9):
  Lvl B gR g gx S W tx F get (oL F.length St l0 h0 cs0) where
 txs:=txs
 stay:=fun fr rs w w' cs hk h=>⟨h.1,fun i hi=>(K i hi).loc _ _ _ _ _ hk (fun _ _ _=>rfl) (h.2.1 i hi),h.2.2⟩
 gfn:=fun i=>if h:i<F.length then (K i h).gfn else 0
 gcaps:=fun i=>if h:i<F.length then (K i h).gcaps else #[]
 efn:=fun i=>if h:i<F.length then (K i h).efn else 0
 ecaps:=fun i=>if h:i<F.length then (K i h).ecaps else #[]
 gval:=fun i h=>by rw[dif_pos h,dif_pos h];exact (K i h).gval
 eval_:=fun i h=>by rw[dif_pos h,dif_pos h];exact (K i h).eval_
 mval:=fun i h=>(K i h).mval
 pval:=fun i h=>(K i h).pval
 gcall:=fun i h=>by rw[dif_pos h];exact (K i h).gcall
 ecall:=fun i h=>by rw[dif_pos h];exact (K i h).ecall
 hget:=fun fr i rs cs l W' hfr h hok hrs hx hb=>by
  obtain⟨h1,h2,h3⟩:=hok;rw[dif_pos h,dif_pos h];have hs:=h2 i h;rw[lX h1 hfr] at hs;refine ((K i h).hget cs l W' hs hrs hx hb).mono fun e w' hh=>?_;obtain⟨e1,e2⟩:=hh;have hkp:Ff (Tq tx) W' w':=e1.keepsT fun k hk cs1 t1 hB=>by
   rcases AM1.1 hk with rfl|hk
   ·have hr:=hrs.rd;unfold Rd AJ at hr;unfold AJ at hB;rw[hr] at hB;cases hB;exact Ii tx
   ·obtain rfl:=AMh.1 hk;have hr:=hx;unfold AJ at hr hB;rw[hr] at hB;cases hB;exact GH txs
  refine⟨e1,?_⟩;cases ho:get i l with
  |none=>rw[ho] at e2;exact e2
  |some p=>
   rw[ho] at e2;obtain⟨e3,e4,cs',e5,e6,e7⟩:=e2;refine⟨e3,e4,cs',e5,fun q hq=>?_,fun j hj=>?_,h3.trans (e6.mono (hin i h).1 (hin i h).2)⟩
   ·rcases AM1.1 hq with rfl|hq
    ·exact AOJ _
    ·have:=h1 q hq;omega
   ·by_cases e:i=j
    ·subst e;rw[Tv];exact e7
    ·rw[fF _ _ e];refine (K j hj).loc _ _ _ _ _ hkp (fun k hk1 hk2=>e6 k ?_) (h2 j hj)
     rcases hdis i j h hj e with hd|hd<;>omega
 hemp:=fun i x rs cs W' h hok hx hb=>by
  obtain⟨h1,h2,h3⟩:=hok;rw[dif_pos h,dif_pos h];have hs:=h2 i h;rw[Tv] at hs;exact (K i h).hemp _ cs W' hs hx hb
structure At (B gR g gx:Nat) (tx:TypeId) (W:J) (b k:Nat) (tp:TypeId):Prop where
 blk:AJ W b #[.pointer (Z ⟨gx,k,Y⟩)] tp
 b1:b≠g
 b2:b≠gx
 x1:gx≠g
 x2:gx≠gR
 x3:B≤gx
 xt:tx≠9
theorem At.step {W':J} {b k:Nat} {tp:TypeId} (h:At B gR g gx tx W b k tp) (hb:But (g::[gx]) W W'):AJ W' b #[.pointer (Z ⟨gx,k,Y⟩)] tp:=
 h.blk.but hb (by simp[h.b1,h.b2])
def Cj (k:Nat):Option CW→J→Array Yu→Prop
 |none,_,cs=>cs[k]?=Z (Yg V 0)
 |some (.num n),_,cs=>cs[k]?=Z (Yg V n)
 |_,_,_=>False
def JY (k:Nat):Option CW→J→Array Yu→Prop
 |none,_,cs=>cs[k]?=Z (Yl Yz)
 |some (.flag n),_,cs=>cs[k]?=Z (Yl (n==1))
 |_,_,_=>False
def JB (k:Nat):Option CW→J→Array Yu→Prop
 |none,_,cs=>cs[k]?=Z (O ⟨#[]⟩)
 |some (.txt l),_,cs=>cs[k]?=Z (O (AB l))
 |_,_,_=>False
def DK (k:Nat):Option CW→J→Array Yu→Prop
 |none,_,cs=>cs[k]?=Z (.slice Y 0 0)
 |some (.digs l),w,cs=>∃A c,cs[k]?=Z (.slice A l.length c)∧w.ownsRow 0 9 1 (.slice A l.length c) l.length (Dg l)
 |_,_,_=>False
def JX (k:Nat):Option CW→J→Array Yu→Prop
 |none,_,cs=>cs[k]?=Z (.slice Y 0 0)
 |some (.nums l),w,cs=>∃A c,cs[k]?=Z (.slice A l.length c)∧w.ownsRow 0 22 1 (.slice A l.length c) l.length (DV l)
 |_,_,_=>False
def rdNum (l:List UInt8):Option (CW×List UInt8):=(Cb numsL l).map fun p=>(.num p.1,p.2)
def Pn (l:List UInt8):Option (CW×List UInt8):=(IR l).map fun p=>(.txt p.1,p.2)
def Qx (l:List UInt8):Option (CW×List UInt8):=(Cb numsL l).map fun p=>(.flag p.1,p.2)
def FY (m:Nat) (l:List UInt8):Option (CW×List UInt8):=(Mc IR m l).map fun p=>(.digs p.1,p.2)
def Qw (m:Nat) (l:List UInt8):Option (CW×List UInt8):=(Mc (Cb numsL) m l).map fun p=>(.nums p.1,p.2)
def xV (key:List UInt8) {b k:Nat} (h:At B gR g gx tx W b k 227):bR B gR g gx S W tx (Bc key b) rdNum k (k+1) (Cj k) Yy where
 gfn:=253
 gcaps:=#[U b]
 efn:=250
 ecaps:=#[U b]
 gval:=rfl
 eval_:=rfl
 mval:=⟨_,_,rfl⟩
 pval:=⟨_,_,rfl⟩
 gcall:=fun _ _=>rfl
 ecall:=fun _ _=>rfl
 txs:=h.xt
 loc:=fun o w w' cs cs' hkp hc hs=>by
  have hk:=hc k (AMi _) (AOJ _)
  match o,hs with
  |none,hs=>exact hk.trans hs
  |some (.num n),hs=>exact hk.trans hs
 hget:=fun cs l W' hs hrs hx hb=>by
  refine (xR hrs b gx k cs tx _ (h.step hb) hx hs h.b1 h.x1 h.x2 h.x3).mono fun e w' hh=>hh.map CW.num fun x hp=>⟨_,hp,AQB _ _ _,OW hs _⟩
 hemp:=fun o cs W' hs hx hb=>by
  match o,hs with
  |none,hs=>exact Tk b gx k W' 0 ((h.step hb).cell 0 rfl) (hx.cell k hs)
  |some (.num n),hs=>exact Tk b gx k W' n ((h.step hb).cell 0 rfl) (hx.cell k hs)
def uD (key:List UInt8) {b k:Nat} (h:At B gR g gx tx W b k 268):bR B gR g gx S W tx (FC key b) Qx k (k+1) (JY k) Yy where
 gfn:=288
 gcaps:=#[U b]
 efn:=286
 ecaps:=#[U b]
 gval:=rfl
 eval_:=rfl
 mval:=⟨_,_,rfl⟩
 pval:=⟨_,_,rfl⟩
 gcall:=fun _ _=>rfl
 ecall:=fun _ _=>rfl
 txs:=h.xt
 loc:=fun o w w' cs cs' hkp hc hs=>by
  have hk:=hc k (AMi _) (AOJ _)
  match o,hs with
  |none,hs=>exact hk.trans hs
  |some (.flag n),hs=>exact hk.trans hs
 hget:=fun cs l W' hs hrs hx hb=>by
  refine (tq hrs b gx k cs tx _ (h.step hb) hx hs h.b1 h.x1 h.x2 h.x3).mono fun e w' hh=>hh.map CW.flag fun x hp=>⟨_,hp,AQB _ _ _,?_⟩;show (cs.setIfInBounds k (Yl ((x:Int)==1)))[k]?=Z (Yl (x==1))
  rw[←rz];exact OW hs _
 hemp:=fun o cs W' hs hx hb=>by
  match o,hs with
  |none,hs=>exact Mi b gx k W' Yz ((h.step hb).cell 0 rfl) (hx.cell k hs)
  |some (.flag n),hs=>exact Mi b gx k W' (n==1) ((h.step hb).cell 0 rfl) (hx.cell k hs)
def fw (key:List UInt8) {b k:Nat} (h:At B gR g gx tx W b k 224):bR B gR g gx S W tx (DP key b) Pn k (k+1) (JB k) Yz where
 gfn:=225
 gcaps:=#[U b]
 efn:=222
 ecaps:=#[]
 gval:=rfl
 eval_:=rfl
 mval:=⟨_,_,rfl⟩
 pval:=⟨_,_,rfl⟩
 gcall:=fun _ _=>rfl
 ecall:=fun _ _=>rfl
 txs:=h.xt
 loc:=fun o w w' cs cs' hkp hc hs=>by
  have hk:=hc k (AMi _) (AOJ _)
  match o,hs with
  |none,hs=>exact hk.trans hs
  |some (.txt n),hs=>exact hk.trans hs
 hget:=fun cs l W' hs hrs hx hb=>by
  refine (fc hrs b gx k cs tx _ (h.step hb) hx hs h.b1 h.x1 h.x2 h.x3).mono fun e w' hh=>hh.map CW.txt fun x hp=>⟨_,hp,AQB _ _ _,OW hs _⟩
 hemp:=fun o cs W' hs hx hb=>by
  match o,hs with
  |none,hs=>exact Nx W'
  |some (.txt n),hs=>exact Nx W'
def uF (key:List UInt8) {b1 b2 b3 b4 b5 k m:Nat} (h:At B gR g gx tx W b1 k 222) (hc:Bnd g gx W b2 b5 m 220 294):bR B gR g gx S W tx (CK key b1 b2 b3 b4 b5) (FY m) k (k+1) (DK k) Yy where
 gfn:=303
 gcaps:=#[U b2,U b5,U b1]
 efn:=299
 ecaps:=#[U b1]
 gval:=rfl
 eval_:=rfl
 mval:=⟨_,_,rfl⟩
 pval:=⟨_,_,rfl⟩
 gcall:=fun _ _=>rfl
 ecall:=fun _ _=>rfl
 txs:=h.xt
 loc:=fun o w w' cs cs' hkp hc hs=>by
  have hk:=hc k (AMi _) (AOJ _)
  match o,hs with
  |none,hs=>exact hk.trans hs
  |some (.digs l),⟨A,c,hs,ho⟩=>exact⟨A,c,hk.trans hs,EF ho hkp (Or.inl rfl)⟩
 hget:=fun cs l W' hs hrs hx hb=>by
  have hc':=hc.step hb;refine (Vv hrs b2 b5 b1 gx k m cs tx hc'.1 hc'.2 (h.step hb) hx hs ⟨hc.n1,hc.n3,h.b1,h.x1,h.x2,hc.n2,hc.n4,h.b2,h.x3⟩ hc.hm).mono fun e w' hh=>hh.map CW.digs fun x hp=>?_;obtain⟨A,c,hp,ho⟩:=hp;exact⟨_,hp,AQB _ _ _,A,c,OW hs _,Ad ho (AM4 _)⟩
 hemp:=fun o cs W' hs hx hb=>by
  match o,hs with
  |none,hs=>exact Il b1 gx k W' Y 0 0 ((h.step hb).cell 0 rfl) (hx.cell k hs)
  |some (.digs l),⟨A,c,hs,ho⟩=>exact Il b1 gx k W' A l.length c ((h.step hb).cell 0 rfl) (hx.cell k hs)
def uC (key:List UInt8) {b1 b2 b3 b4 b5 k m:Nat} (h:At B gR g gx tx W b1 k 226) (hcert:tx=27) (hc:Bnd g gx W b2 b5 m 162 235):bR B gR g gx S W tx (Vf key b1 b2 b3 b4 b5) (Qw m) k (k+1) (JX k) Yy where
 gfn:=232
 gcaps:=#[U b2,U b5,U b1]
 efn:=226
 ecaps:=#[U b1]
 gval:=rfl
 eval_:=rfl
 mval:=⟨_,_,rfl⟩
 pval:=⟨_,_,rfl⟩
 gcall:=fun _ _=>rfl
 ecall:=fun _ _=>rfl
 txs:=h.xt
 loc:=fun o w w' cs cs' hkp hc hs=>by
  have hk:=hc k (AMi _) (AOJ _)
  match o,hs with
  |none,hs=>exact hk.trans hs
  |some (.nums l),⟨A,c,hs,ho⟩=>exact⟨A,c,hk.trans hs,EF ho hkp (Or.inr ⟨hcert,Or.inl rfl⟩)⟩
 hget:=fun cs l W' hs hrs hx hb=>by
  have hc':=hc.step hb;refine (mg hrs b2 b5 b1 gx k m cs tx hc'.1 hc'.2 (h.step hb) hx hs ⟨hc.n1,hc.n3,h.b1,h.x1,h.x2,hc.n2,hc.n4,h.b2,h.x3⟩ hc.hm).mono fun e w' hh=>hh.map CW.nums fun x hp=>?_;obtain⟨A,c,hp,ho⟩:=hp;exact⟨_,hp,AQB _ _ _,A,c,OW hs _,Ad ho (AM4 _)⟩
 hemp:=fun o cs W' hs hx hb=>by
  match o,hs with
  |none,hs=>exact RN b1 gx k W' Y 0 0 ((h.step hb).cell 0 rfl) (hx.cell k hs)
  |some (.nums l),⟨A,c,hs,ho⟩=>exact RN b1 gx k W' A l.length c ((h.step hb).cell 0 rfl) (hx.cell k hs)
end
def He (n:Nat) (fe:Nat→Bool) (rs:List (Nat×CW)):Bool:=(List.range n).all fun i=>em (fe i) (look rs i)
def IA (F:List FD) (get:Nat→List UInt8→Option (CW×List UInt8)) (fe:Nat→Bool) (l:List UInt8):Option (CW×List UInt8):=
 (EJ F get l).map fun p=>(.sub (!(He F.length fe p.1)) p.1,p.2)
def FV (n:Nat) (St:Nat→Option CW→J→Array Yu→Prop) (fe:Nat→Bool):Option CW→J→Array Yu→Prop
 |none,w,cs=>∀i,i<n→St i Y w cs
 |some (.sub any rs),w,cs=>any= !(He n fe rs)∧∀i,i<n→St i (look rs i) w cs
 |_,_,_=>False
def bR.later {B gR g gx:Nat} {S:List UInt8} {W W':J} {tx:TypeId} {f:FD} {get:List UInt8→Option (CW×List UInt8)} {lo hi:Nat} {St:Option CW→J→Array Yu→Prop} {fe:Bool}
  (K:bR B gR g gx S W tx f get lo hi St fe) (hb:But (g::[gx]) W W'):bR B gR g gx S W' tx f get lo hi St fe:=
 {K with
  hget:=fun cs l W'' hs hrs hx hb'=>K.hget cs l W'' hs hrs hx (hb.trans hb')
  hemp:=fun o cs W'' hs hx hb'=>K.hemp o cs W'' hs hx (hb.trans hb')}
section
variable {B gR g gx:Nat} {S:List UInt8} {W:J} {tx:TypeId}
theorem Nj {F:List FD} {get:Nat→List UInt8→Option (CW×List UInt8)} {lo hi:Nat→Nat} {St:Nat→Option CW→J→Array Yu→Prop} {fe:Nat→Bool}
  (K:∀i,i<F.length→bR B gR g gx S W tx (F.getD i fd0) (get i) (lo i) (hi i) (St i) (fe i)) {lb gl:Nat} (hF:Em W gl F) (hlb:AJ W lb #[Yh gl F.length F.length] 191) (hn:F.length<100)
  (rs:List (Nat×CW)) (cs:Array Yu) (hs:∀i,i<F.length→St i (look rs i) W cs) (hx:AJ W gx cs tx):
  Yv Yw 281 #[U lb] W fun e w'=>e=Yi (Yl (He F.length fe rs))∧But [] W w':=by have c0:=hlb.cell 0 rfl;have HC:=sq (Li F gl F.length (fun i=> !(em (fe i) (look rs i))) 282 W hF (AMi _) KA (fun _ _=>rfl) (fun i W' hi hb=>by obtain⟨mf,mc,hm⟩:=(K i hi).mval;obtain⟨pf,pc,hp⟩:=(K i hi).pval;exact SA (F.getD i fd0) _ _ _ mf pf _ mc pc _ W' (K i hi).eval_ hm hp (K i hi).gval (K i hi).ecall fun W'' hb'=>(K i hi).hemp _ cs W'' ((K i hi).loc _ _ _ _ _ ((hb.trans hb').keeps0 _) (fun _ _ _=>rfl) (hs i hi)) (hx.but (hb.trans hb') NC) (hb.trans hb').nil));rw[show firstIdx (fun i=> !(em (fe i) (look rs i))) F.length 0=firstIdx (fun i=> !((fun i=>em (fe i) (look rs i)) i)) F.length 0 from rfl] at HC;have HA:=sq (oI F.length (fun i=>em (fe i) (look rs i)));have HL:=sq hn;clear hF hlb hs hx hn;generalize hq:decide (0≤firstIdx (fun i=> !((fun i=>em (fe i) (look rs i)) i)) F.length 0)=q at HC HA;clear hq;generalize F.length=n at*;go_in;go_wp2_with fail;refine HC.out.mono ?_;rintro e w1 ⟨rfl,hb⟩;have B1:=sq hb;clear hb;go_wp2_with fail;go_ret;refine⟨?_,B1.out⟩;rw[HA.out];rfl
def fu {F:List FD} {get:Nat→List UInt8→Option (CW×List UInt8)} {lo hi:Nat→Nat} {St:Nat→Option CW→J→Array Yu→Prop} {fe:Nat→Bool} (key:List UInt8) (must:Bool)
  (K:∀i,i<F.length→bR B gR g gx S W tx (F.getD i fd0) (get i) (lo i) (hi i) (St i) (fe i))
  (hdis:∀i j,i<F.length→j<F.length→i≠j→hi i≤lo j∨hi j≤lo i) (l0 h0:Nat) (hin:∀i,i<F.length→l0≤lo i∧hi i≤h0)
  {lb gl:Nat} (hF:Em W gl F) (hlb:AJ W lb #[Yh gl F.length F.length] 191) (hd:lb≠g∧lb≠gx∧gl≠g∧gl≠gx∧gx≠g∧gx≠gR∧B≤gx) (hn:F.length<100) (hkl:∀i,(F.getD i fd0).key.length≤1000000) (txs:tx≠9):
  bR B gR g gx S W tx (JI key must lb) (IA F get fe) l0 h0 (FV F.length St fe) (He F.length fe []) where
 gfn:=285
 gcaps:=#[U lb]
 efn:=281
 ecaps:=#[U lb]
 gval:=rfl
 eval_:=rfl
 mval:=⟨_,_,rfl⟩
 pval:=⟨_,_,rfl⟩
 gcall:=fun _ _=>rfl
 ecall:=fun _ _=>rfl
 txs:=txs
 loc:=fun o w w' cs cs' hkp hc hs=>by
  have hk:∀i,i<F.length→∀k,lo i≤k→k<hi i→cs'[k]?=cs[k]?:=fun i hi' k h1 h2=>hc k (by have:=(hin i hi').1;omega) (by have:=(hin i hi').2;omega)
  match o,hs with
  |none,hs=>exact fun i hi'=>(K i hi').loc _ _ _ _ _ hkp (hk i hi') (hs i hi')
  |some (.sub any rs),⟨h1,h2⟩=>exact⟨h1,fun i hi'=>(K i hi').loc _ _ _ _ _ hkp (hk i hi') (h2 i hi')⟩
 hget:=fun cs l W' hs hrs hx hb=>by
  have hF':=hF.but hb (by simp[hd.2.2.1,hd.2.2.2.1]);have hlb':=hlb.but hb (by simp[hd.1,hd.2.1]);have h1:=Ma (sU (fun i hi'=>(K i hi').later hb) hdis cs l0 h0 hin txs) gl F.length cs hrs hF' hx ⟨fun p hp=>(by cases hp),fun i hi'=>hs i hi',Same.refl _ _ _⟩ ⟨hd.2.2.1,hd.2.2.2.1,hd.2.2.2.2⟩ hn hkl (AMi _);refine eY gl lb F.length F.length hlb' _ (h1.mono fun e w' hh=>?_);have hcase:e=Yi (Ym #[])∨∃p,e=stopped p:=by
   obtain⟨_,e2⟩:=hh;cases ho:EJ F get l with
   |none=>rw[ho] at e2;exact .inr e2
   |some p=>rw[ho] at e2;exact .inl e2.1
  refine⟨hcase,?_⟩;have:=hh.map (fun rs=>CW.sub (!(He F.length fe rs)) rs) (P':=fun x w'=>∃cs',AJ w' gx cs' tx∧Same l0 h0 cs cs'∧FV F.length St fe (Z x) w' cs') fun rs hp=>by
   obtain⟨fr,cs',h1,h2,h3,h4⟩:=hp;exact⟨cs',h1,h4,rfl,h3⟩
  exact this
 hemp:=fun o cs W' hs hx hb=>by
  have hF':=hF.but hb (by simp[hd.2.2.1,hd.2.2.2.1]);have hlb':=hlb.but hb (by simp[hd.1,hd.2.1])
  match o,hs with
  |none,hs=>exact Nj (fun i hi'=>(K i hi').later hb) hF' hlb' hn [] cs hs hx
  |some (.sub any rs),⟨h1,h2⟩=>
   have:=Nj (fun i hi'=>(K i hi').later hb) hF' hlb' hn rs cs h2 hx;subst h1
   simpa [em,CW.nothing] using this
end
structure Env (B gR g gx:Nat) (tx:TypeId) (SZ:Nat):Prop where
 g1:g<SZ
 g2:gR<SZ
 g3:gx<SZ
 x1:gx≠g
 x2:gx≠gR
 x3:B≤gx
 xt:tx≠9
def AZ (B gR g gx:Nat) (S:List UInt8) (tx:TypeId) (get:List UInt8→Option (CW×List UInt8)) (lo hi:Nat) (St:Option CW→J→Array Yu→Prop) (fe:Bool) (key:List UInt8) (must:Bool) (v:Yu) (w:J):Prop:=
 ∃f:FD,v=f.agg∧f.key=key∧f.must=must∧Nonempty (bR B gR g gx S w tx f get lo hi St fe)
def Ao (B gR g gx:Nat) (S:List UInt8) (tx:TypeId) (SZ:Nat) (F0:List FD) (get:Nat→List UInt8→Option (CW×List UInt8)) (lo hi:Nat→Nat) (St:Nat→Option CW→J→Array Yu→Prop) (fe:Nat→Bool) (v:Yu) (w:J):Prop:=
 ∃gl F,v=Yh (gl:Nat) F0.length F0.length∧F.length=F0.length∧Em w gl F∧SZ≤gl∧(∀i,(F.getD i fd0).key=(F0.getD i fd0).key)∧(∀i,(F.getD i fd0).must=(F0.getD i fd0).must)∧
  Nonempty (∀i,i<F.length→bR B gR g gx S w tx (F.getD i fd0) (get i) (lo i) (hi i) (St i) (fe i))
section
variable {B gR g gx:Nat} {S:List UInt8} {W:J} {tx:TypeId}
theorem AZ.later {get:List UInt8→Option (CW×List UInt8)} {lo hi:Nat} {St:Option CW→J→Array Yu→Prop} {fe:Bool} {key:List UInt8} {must:Bool} {v:Yu} {w w':J} (h:AZ B gR g gx S tx get lo hi St fe key must v w) (hl:Later w w'):AZ B gR g gx S tx get lo hi St fe key must v w':=by obtain⟨f,h1,h2,h3,⟨K⟩⟩:=h;exact⟨f,h1,h2,h3,⟨K.later (APv hl).nil⟩⟩
theorem Ao.later {SZ:Nat} {F0:List FD} {get:Nat→List UInt8→Option (CW×List UInt8)} {lo hi:Nat→Nat} {St:Nat→Option CW→J→Array Yu→Prop} {fe:Nat→Bool} {v:Yu} {w w':J} (h:Ao B gR g gx S tx SZ F0 get lo hi St fe v w) (hl:Later w w'):Ao B gR g gx S tx SZ F0 get lo hi St fe v w':=by obtain⟨gl,F,h1,h2,h3,h4,h5,h6,⟨K⟩⟩:=h;exact⟨gl,F,h1,h2,h3.later hl,h4,h5,h6,⟨fun i hi=>(K i hi).later (APv hl).nil⟩⟩
theorem Ao.lower {SZ SZ':Nat} {F0:List FD} {get:Nat→List UInt8→Option (CW×List UInt8)} {lo hi:Nat→Nat} {St:Nat→Option CW→J→Array Yu→Prop} {fe:Nat→Bool} {v:Yu} {w:J} (h:Ao B gR g gx S tx SZ F0 get lo hi St fe v w) (hl:SZ'≤SZ):Ao B gR g gx S tx SZ' F0 get lo hi St fe v w:=by obtain⟨gl,F,h1,h2,h3,h4,h5⟩:=h;exact⟨gl,F,h1,h2,h3,AMj hl h4,h5⟩
theorem Env.mono {SZ SZ':Nat} (E:Env B gR g gx tx SZ) (h:SZ≤SZ'):Env B gR g gx tx SZ':=⟨AMn E.g1 h,AMn E.g2 h,AMn E.g3 h,E.x1,E.x2,E.x3,E.xt⟩
theorem Env.at {SZ:Nat} (E:Env B gR g gx tx SZ) {w:J} {b k:Nat} {tp:TypeId} (h:AJ w b #[.pointer (Z ⟨gx,k,Y⟩)] tp) (hz:SZ≤b):At B gR g gx tx w b k tp:=
 ⟨h,AC4,AC5,E.x1,E.x2,E.x3,E.xt⟩
theorem Env.bnd {SZ:Nat} (E:Env B gR g gx tx SZ) {w:J} {b2 b5 m:Nat} {fn:FuncId} {tf:TypeId} (h:AJ w b2 #[Yg Yj m] 3) (h':AJ w b5 #[G (M fn) #[] #[]] tf) (hz:SZ≤b2) (hz':SZ≤b5) (hm:m<100000):Bnd g gx w b2 b5 m fn tf:=
 ⟨h,h',AC4,AC5,AC4,AC5,hm⟩
theorem IE (E:Env B gR g gx tx W.heap.size) (key:List UInt8) (k:Nat):Yv Yw 172 #[O (AB key),.pointer (Z ⟨gx,k,Y⟩)] W fun e w'=>∃v,e=Yi v∧AZ B gR g gx S tx rdNum k (k+1) (Cj k) Yy key Yz v w'∧Later W w':=
 (Jk key ⟨gx,k,Y⟩ W).mono fun e w' h=>by
  obtain⟨v,h1,⟨b,h2,h3,h4⟩,hl⟩:=h;exact⟨v,h1,⟨_,h2,rfl,rfl,⟨xV key (E.at h3 h4)⟩⟩,hl⟩
theorem uH (E:Env B gR g gx tx W.heap.size) (key:List UInt8) (k:Nat):Yv Yw 200 #[O (AB key),.pointer (Z ⟨gx,k,Y⟩)] W fun e w'=>∃v,e=Yi v∧AZ B gR g gx S tx Qx k (k+1) (JY k) Yy key Yz v w'∧Later W w':=
 (aY key ⟨gx,k,Y⟩ W).mono fun e w' h=>by
  obtain⟨v,h1,⟨b,h2,h3,h4⟩,hl⟩:=h;exact⟨v,h1,⟨_,h2,rfl,rfl,⟨uD key (E.at h3 h4)⟩⟩,hl⟩
theorem Rk (E:Env B gR g gx tx W.heap.size) (key:List UInt8) (k:Nat):Yv Yw 157 #[O (AB key),.pointer (Z ⟨gx,k,Y⟩)] W fun e w'=>∃v,e=Yi v∧AZ B gR g gx S tx Pn k (k+1) (JB k) Yz key Yy v w'∧Later W w':=
 (Rj key ⟨gx,k,Y⟩ W).mono fun e w' h=>by
  obtain⟨v,h1,⟨b,h2,h3,h4⟩,hl⟩:=h;exact⟨v,h1,⟨_,h2,rfl,rfl,⟨fw key (E.at h3 h4)⟩⟩,hl⟩
theorem IP (E:Env B gR g gx tx W.heap.size) (key:List UInt8) (k m:Nat) (hm:m<100000):Yv Yw 156 #[O (AB key),.pointer (Z ⟨gx,k,Y⟩),Yg Yj m] W fun e w'=>∃v,e=Yi v∧AZ B gR g gx S tx (FY m) k (k+1) (DK k) Yy key Yz v w'∧Later W w':=
 (aq key ⟨gx,k,Y⟩ m W).mono fun e w' h=>by
  obtain⟨v,h1,⟨b1,b2,b3,b4,b5,h2,h3,h4,h5,z1,z2,z5⟩,hl⟩:=h;exact⟨v,h1,⟨_,h2,rfl,rfl,⟨uF key (E.at h3 z1) (E.bnd h4 h5 z2 z5 hm)⟩⟩,hl⟩
theorem sB (E:Env B gR g gx tx W.heap.size) (key:List UInt8) (k m:Nat) (f1 f2:FuncId) (hm:m<100000) (hcert:tx=27):Yv Yw 158 #[O (AB key),.pointer (Z ⟨gx,k,Y⟩),Yg Yj m,G (M f1) #[] #[],G (M f2) #[] #[],G (M 162) #[] #[]] W fun e w'=>∃v,e=Yi v∧AZ B gR g gx S tx (Qw m) k (k+1) (JX k) Yy key Yz v w'∧Later W w':=
 (lV key ⟨gx,k,Y⟩ m f1 f2 162 W).mono fun e w' h=>by
  obtain⟨v,h1,⟨b1,b2,b3,b4,b5,h2,h3,h4,h5,z1,z2,z5⟩,hl⟩:=h;exact⟨v,h1,⟨_,h2,rfl,rfl,⟨uC key (E.at h3 z1) hcert (E.bnd h4 h5 z2 z5 hm)⟩⟩,hl⟩
end
theorem MJ {F F':List FD} {get:Nat→List UInt8→Option (CW×List UInt8)} (hl:F.length=F'.length) (hk:∀i,(F.getD i fd0).key=(F'.getD i fd0).key) (hm:∀i,(F.getD i fd0).must=(F'.getD i fd0).must):∀(n fr:Nat) (ks:List (List UInt8)) (rs:List (Nat×CW)) (l:List UInt8),Eu F get n fr ks rs l=Eu F' get n fr ks rs l
 |0,fr,ks,rs,l=>by
  simp only[Eu,Ky,hl,hk,hm];rfl
 |n+1,fr,ks,rs,l=>by
  simp only[Eu,G6,hl,hk];simp only[MJ hl hk hm n];rfl
theorem Kc {F F':List FD} {get:Nat→List UInt8→Option (CW×List UInt8)} (hl:F.length=F'.length) (hk:∀i,(F.getD i fd0).key=(F'.getD i fd0).key) (hm:∀i,(F.getD i fd0).must=(F'.getD i fd0).must) (l:List UInt8):EJ F get l=EJ F' get l:=by simp only[EJ,MJ hl hk hm]
theorem Xq {F F':List FD} {get:Nat→List UInt8→Option (CW×List UInt8)} {fe:Nat→Bool} (hl:F.length=F'.length) (hk:∀i,(F.getD i fd0).key=(F'.getD i fd0).key) (hm:∀i,(F.getD i fd0).must=(F'.getD i fd0).must):IA F get fe=IA F' get fe:=by funext l;simp only[IA,Kc hl hk hm,hl]
section
variable {B gR g gx:Nat} {S:List UInt8} {W:J} {tx:TypeId}
theorem MZ (E:Env B gR g gx tx W.heap.size) {SZ:Nat} (hsz:g<SZ∧gx<SZ) (key:List UInt8) {F0:List FD} {get:Nat→List UInt8→Option (CW×List UInt8)} {lo hi:Nat→Nat} {St:Nat→Option CW→J→Array Yu→Prop} {fe:Nat→Bool} {v:Yu}
  (hv:Ao B gR g gx S tx SZ F0 get lo hi St fe v W) (hn:F0.length<100) (hkl:∀i,(F0.getD i fd0).key.length≤1000000)
  (hdis:∀i j,i<F0.length→j<F0.length→i≠j→hi i≤lo j∨hi j≤lo i) (l0 h0:Nat) (hin:∀i,i<F0.length→l0≤lo i∧hi i≤h0):
  Yv Yw 198 #[O (AB key),v] W fun e w'=>∃u,e=Yi u∧AZ B gR g gx S tx (IA F0 get fe) l0 h0 (FV F0.length St fe) (He F0.length fe []) key (Bo F0) u w'∧Later W w':=by obtain⟨gl,F,rfl,hl,hF,hz,hk,hm,⟨K⟩⟩:=hv;have hN:=RM key F gl W hF KA (fun i hi=>⟨⟨_,_,(K i hi).eval_⟩,(K i hi).mval,(K i hi).pval,⟨_,_,(K i hi).gval⟩⟩);rw[hl] at hN;refine hN.mono fun e w' h=>?_;obtain⟨u,h1,⟨lb,h2,h3,h4⟩,hlt⟩:=h;refine⟨u,h1,⟨_,h2,rfl,TN hl hm,?_⟩,hlt⟩;have K':∀i,i<F.length→bR B gR g gx S w' tx (F.getD i fd0) (get i) (lo i) (hi i) (St i) (fe i):=fun i hi=>(K i hi).later (APv hlt).nil;have:=fu key (Bo F) K' (fun i j h h'=>hdis i j KA KA) l0 h0 (fun i h=>hin i KA) (hF.later hlt) (lb:=lb) (by rw[hl];exact h3) ⟨AC4,AC5,KA,KA,E.x1,E.x2,E.x3⟩ KA (fun i=>by rw[hk];exact hkl i) E.xt;rw[Xq hl hk hm,hl] at this;exact⟨this⟩
end
end Full
end Go.Proofs.YtiapejgiinidhaaGreatDoor
