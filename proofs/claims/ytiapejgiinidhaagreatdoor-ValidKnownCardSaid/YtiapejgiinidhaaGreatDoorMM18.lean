import Derived.Test.YtiapejgiinidhaaGreatDoorMM17
set_option linter.all false
set_option maxRecDepth 100000
set_option maxHeartbeats 40000000
namespace Go.Proofs.YtiapejgiinidhaaGreatDoor
open Value renaming int→Yg,pointer→U,string→O,func→G,slice→Yh,bool→Yl,tuple→Ym,agg→Yr
open IntKind renaming u64→V,i64→Yj,u8→Yq
open Obj renaming cells→Yk
open Ending renaming returned→Yi
open Fn renaming func→M
open Go renaming World→J,Value→Yu,Calls→Yv,undef→Yx
open Go.Proofs.Tryz renaming prog→Yw
open Option renaming some→Z,none→Y
open Bool renaming true→Yy,false→Yz
open Go Go.RowKit Go.Shelf
theorem FW {W:J} {base size n:Nat} {e:TypeId} {v:Yu} {xs:List Yu} (h:W.ownsRow base e size v n xs) (hn:0<n):∃g cap cur,v=Yh (g:Nat) n cap∧n≤cap∧base≤g∧AJ W g cur e∧∀k,k<n*size→W.cell? ⟨g,k,Y⟩=xs[k]?:=by rcases h.2 with⟨_,h0⟩|⟨g,cap,cur,rfl,hb,hh,hc,_,hs,ht⟩;(omega);refine⟨g,cap,cur,rfl,hc,hb,hh,fun k hk=>?_⟩;have e1:(cur.toList.take (n*size))[k]?=xs[k]?:=AEF;rw[ANL hk] at e1;rw[←e1];have hb2:AJ W g cur e:=hh;unfold AJ at hb2;simp[World.cell?,hb2]
theorem zY (l:List Pt) (j k:Nat) (hj:j<l.length) (hk:k<5):(iQ l)[j*5+k]?=(IB (l.getD j oK))[k]?:=by induction l generalizing j with|nil=>(cases hj)|cons x l ih=>cases j with|zero=>show (IB x++iQ l)[0*5+k]?=_;rw[AOo,ANC,ANB (by simpa [IB] using hk)];rfl|succ j=>show (IB x++iQ l)[(j+1)*5+k]?=_;have hl:(IB x).length=5:=rfl;rw[AM9 (by rw[hl];omega),hl,show (j+1)*5+k-5=j*5+k by omega,ih j TC];rfl
theorem iP {W:J} {base n:Nat} {v:Yu} {l:List Pt} (h:W.ownsRow base 64 5 v n (iQ l)) (hn:n=l.length) (h0:0<n):∃g cap,v=Yh (g:Nat) n cap∧n≤cap∧om W (Z ⟨g,0,Y⟩) l:=by obtain⟨g,cap,cur,hv,hc,_,_,hcell⟩:=FW h h0;refine⟨g,cap,hv,hc,fun j hj=>⟨g,0,rfl,fun k hk=>?_⟩⟩;rw[ANC,hcell (j*5+k) (by rw[hn];omega),zY l j k hj hk]
theorem Sw:¬Root 4:=by decide
theorem mP:∃i,Tryz.prog.info? 4=Z i∧i.zero=Z (Yl Yz)∧i.size=1∧i.bytes=1:=by have h:(Tryz.prog.info? 4).map (fun i=>(i.zero,i.size,i.bytes))=Z (Z (Yl Yz),1,1):=NA;exact AEm
theorem Sr:¬Root 68:=by decide
theorem mJ:∃i,Tryz.prog.info? 68=Z i∧i.zero=Z (Yr #[Yg V 0,Yl Yz,Yg V 0,.slice Y 0 0,.slice Y 0 0])∧i.size=5∧i.bytes=72:=by have h:(Tryz.prog.info? 68).map (fun i=>(i.zero,i.size,i.bytes))=Z (Z (Yr #[Yg V 0,Yl Yz,Yg V 0,.slice Y 0 0,.slice Y 0 0]),5,72):=NA;exact AEm
structure Sl where
 L:Nat
 i:Nat
 lw:List (List UInt8)
 lp:List (List UInt8)
def Sl0:Sl:=⟨0,0,[],[]⟩
def Sl.bytes (x:Sl):List UInt8:=Ab (Cf x.L Yy x.i x.lw x.lp)
def Gc (x:Sl) (c:Yu×Yu):List Yu:=[Yg V x.L,Yl Yy,Yg V x.i,c.1,c.2]
def jt:List Sl→List (Yu×Yu)→List Yu
 |x::l,c::cs=>Gc x c++jt l cs
 |_,_=>[]
def J5 (W:J) (base:Nat):List Sl→List (Yu×Yu)→Prop
 |[],[]=>True
 |x::l,c::cs=>(W.ownsRow base 9 1 c.1 x.lw.length (Full.Dg x.lw)∧W.ownsRow base 9 1 c.2 x.lp.length (Full.Dg x.lp))∧J5 W base l cs
 |_,_=>False
theorem XE (x:Sl) (c:Yu×Yu):∀(l:List Sl) (cs:List (Yu×Yu)),l.length=cs.length→jt (l++[x]) (cs++[c])=jt l cs++Gc x c
 |[],[],_=>by simp[jt]
 |y::l,d::cs,h=>by simp only[List.cons_append,jt,XE x c l cs (by simpa using h),ANA]
theorem J5.len {W:J} {base:Nat}:∀{l:List Sl} {cs:List (Yu×Yu)},J5 W base l cs→l.length=cs.length
 |[],[],_=>rfl
 |x::l,c::cs,h=>by simp[J5.len h.2]
theorem J5.snoc {W:J} {base:Nat} {x:Sl} {c:Yu×Yu} (hx:W.ownsRow base 9 1 c.1 x.lw.length (Full.Dg x.lw)∧W.ownsRow base 9 1 c.2 x.lp.length (Full.Dg x.lp)):∀{l:List Sl} {cs:List (Yu×Yu)},J5 W base l cs→J5 W base (l++[x]) (cs++[c])
 |[],[],_=>⟨hx,trivial⟩
 |y::l,d::cs,h=>⟨h.1,J5.snoc hx h.2⟩
theorem J5.but {W W':J} {base:Nat} {L:List Nat} (hb:But L W W'):∀{l:List Sl} {cs:List (Yu×Yu)},J5 W base l cs→(∀c∈cs,∀k∈L,c.1.ownBlock≠Z k∧c.2.ownBlock≠Z k)→J5 W' base l cs
 |[],[],_,_=>trivial
 |y::l,d::cs,h,hd=>⟨⟨AA h.1.1 hb (fun k hk=>(hd d (by simp) k hk).1),AA h.1.2 hb (fun k hk=>(hd d (by simp) k hk).2)⟩,J5.but hb h.2 (fun c hc=>hd c (by simp[hc]))⟩
theorem J5.kind {W:J} {base:Nat} {k:Nat} {cs0:Array Yu} {t:TypeId} (hB:AJ W k cs0 t) (ht:t≠9):∀{l:List Sl} {cs:List (Yu×Yu)},J5 W base l cs→∀c∈cs,c.1.ownBlock≠Z k∧c.2.ownBlock≠Z k
 |[],[],_,c,hc=>by cases hc
 |y::l,d::cs,h,c,hc=>by
  rcases AM1.1 hc with rfl|hc
  ·exact⟨fun e=>ht ((AL h.1.1 k (by rw[e];simp)).2 _ _ hB),fun e=>ht ((AL h.1.2 k (by rw[e];simp)).2 _ _ hB)⟩
  ·exact J5.kind hB ht h.2 c hc
theorem J5.lt {W:J} {base:Nat}:∀{l:List Sl} {cs:List (Yu×Yu)},J5 W base l cs→∀c∈cs,∀k,(c.1.ownBlock=Z k∨c.2.ownBlock=Z k)→k<W.heap.size
 |[],[],_,c,hc,k,hk=>by cases hc
 |y::l,d::cs,h,c,hc,k,hk=>by
  rcases AM1.1 hc with rfl|hc
  ·rcases hk with hk|hk
   ·exact (AOX h.1.1 k hk).2
   ·exact (AOX h.1.2 k hk).2
  ·exact J5.lt h.2 c hc k hk
theorem J5.base {W:J} {base base':Nat} (hb:base'≤base):∀{l:List Sl} {cs:List (Yu×Yu)},J5 W base l cs→J5 W base' l cs
 |[],[],_=>trivial
 |y::l,d::cs,h=>⟨⟨Ad h.1.1 hb,Ad h.1.2 hb⟩,J5.base hb h.2⟩
def ABq (W:J) (base:Nat) (v:Yu) (l:List Sl):Prop:=∃cs,W.ownsRow base 68 5 v l.length (jt l cs)∧J5 W base l cs
theorem Ul {ops:Array Oper} {rest:List Oper} {o:Oper} {a:Act} {Q:Exit→Act→J→Prop} (T e:TypeId) (z:Yu) (size bytes:Nat) (hT:Tryz.prog.underlying T=Z (.slice e))
  (hI:∃i,Tryz.prog.info? e=Z i∧i.zero=Z z∧i.size=size∧i.bytes=bytes) (hz1:z.cells.size=size) (hs0:0<size) (hby:bytes≤1000) (he:¬Root e)
  (hgd:o.guard=Y) (s x:Operand) (ho:o.op=.call {callee:=.builtin .append,args:=#[s,x],argTypes:=#[T,T]})
  (w:J) (base:Nat) (v:Yu) (xs:List Yu) (n m:Nat) (hs:a.eval s=v) (hr:w.ownsRow base e size v n xs) (hbase:base≤w.heap.size) (b:Nat) (us:List Yu) (hx:a.eval x=Yh b m m) (hb:AJ w b us.toArray e) (hu:∀u∈us,u.oneCell'=Yy) (hl:us.length=m*size) (hm:0<m) (hn:n+m<100000)
  (h:∀g cap w',w'.ownsRow base e size (Yh (g:Nat) (n+m) cap) (n+m) (xs++us)→But v.ownBlock.toList w w'→(v.ownBlock=Z g∨g=w.heap.size)→wpList Yw ops Q rest (a.put o.dst (Yh (g:Nat) (n+m) cap)) w'):wpList Yw ops Q (o::rest) a w:=by obtain⟨i,hi,hz,hsz,hbb⟩:=hI;obtain⟨hby2,hml⟩:=AGP;refine APN w hgd s x T ho base e i z size bytes hT hi hz hsz hbb hz1 hs0 v n xs hs hr ⟨b,0,Y⟩ m m us hx hl ?_ hu hm KA hby2 hbase _ rfl ?_;(exact AKC);intro g cap w' h1 h2 h3 _;exact h g cap w' h1 (AP1 h2 (Cw hr he)) h3
theorem ul (ws:List Nat) (bs:List Bool) (hw:∀x∈ws,x≤256):∀k,Pre ws bs k≤256*k
 |0=>AMi _
 |k+1=>by
  have:=ul ws bs hw k;have h2:ws.getD k 0≤256:=by
   rw[AMd];cases e:ws[k]? with
   |none=>decide
   |some x=>exact hw x (AMt e)
  unfold Pre
  split<;>omega
def Lt (tn i r:Nat):List (List UInt8):=D9 (Bb tn i) ((r-1)/5) (Bn tn)
def Dq (tn r:Nat) (wts:List Nat) (i:Nat):Sl:=⟨Pre (wts.map (·+1)) (wts.map fun _=>Yy) i,(r-1)/5,Lt tn i r,Am (Bj tn i) [(r-1)/5]⟩
def En (tn:Nat) (wts:List Nat) (k:Nat):List Sl:=(List.range k).map (Dq tn 1 wts)
def ED (tn:Nat) (wts:List Nat) (k:Nat):List (List UInt8):=(List.range k).map fun i=>(Dq tn 1 wts i).bytes
theorem Qo (tn:Nat) (wts:List Nat) (k:Nat):En tn wts (k+1)=En tn wts k++[Dq tn 1 wts k]:=by simp[En,ANt]
theorem fC (tn:Nat) (wts:List Nat) (k:Nat):ED tn wts (k+1)=ED tn wts k++[(Dq tn 1 wts k).bytes]:=by simp[ED,ANt]
def DC (wts:List Nat) (k:Nat):List Nat:=(wts.take k).map (·+1)
def Ee (wts:List Nat) (k:Nat):List Bool:=(wts.take k).map fun _=>Yy
def bvL (l:List Bool):List Yu:=l.map Value.bool
def yh (W:J) (n tn:Nat) (wts:List Nat) (e:Ending) (w':J):Prop:=∃(v3 v4:Yu) (g:Nat),e=Yi (Ym #[v3,v4,U (g:Nat)])∧But [] W w'∧
 QL w' g (DC wts n) (Ee wts n)∧ABq w' W.heap.size v3 (En tn wts n)∧w'.ownsRow W.heap.size 9 1 v4 n (Full.Dg (ED tn wts n))
theorem Xw (tn:Nat) (wts:List Nat) (n j:Nat) (h:j<n):(CG tn wts n).getD j oK=G5 tn j (wts.getD j 0):=by rw[AMd];simp[CG,h]
theorem Wd {P:Program} {ops:Array Oper} {Q:Exit→Act→J→Prop} {md:Region.Mode} {B:List Nat} {i k:Nat} {oi ok:Oper} {v:Yu} {fuel:Nat} {listed:Array Bool} {a:Act} {w:J} {f:J→J} (hi:ops[i]?=Z oi) (hk:ops[k]?=Z ok)
  (hr:Region.ready md ops listed=[i,k]) (hr1:Region.ready md ops (listed.setIfInBounds i Yy)=[k]) (hr2:Region.ready md ops (listed.setIfInBounds k Yy)=[i])
  (hr3:Region.ready md ops ((listed.setIfInBounds i Yy).setIfInBounds k Yy)=[]) (hr4:Region.ready md ops ((listed.setIfInBounds k Yy).setIfInBounds i Yy)=[]) (hB:B.contains k=Yy)
  (hwi:Region.wanted oi (yielded ops a.tmps)=Yy) (hwk:Region.wanted ok (yielded ops a.tmps)=Yy) (hwi2:Region.wanted oi (yielded ops (a.put ok.dst Yx).tmps)=Yy) (hwk2:Region.wanted ok (yielded ops (a.put oi.dst v).tmps)=Yy)
  (hv:∀w1,(execOp a.eval oi).run P w1=.ok (.value v) w1) (hv2:∀w1,(execOp (a.put ok.dst Yx).eval oi).run P w1=.ok (.value v) w1)
  (hs:∀w1,Later w w1→(execOp a.eval ok).run P w1=.ok .skip (f w1)) (hs2:∀w1,Later w w1→(execOp (a.put oi.dst v).eval ok).run P w1=.ok .skip (f w1))
  (he:(a.put oi.dst v).put ok.dst Yx=(a.put ok.dst Yx).put oi.dst v) (hq:∀w1 w2,Later w w1→Later (f w1) w2→Q .normal ((a.put oi.dst v).put ok.dst Yx) w2):Bf P md ops Q B (fuel+2) listed a w:=by refine⟨fun e=>Zv,fun j hj w1 hl=>?_⟩;rw[hr] at hj;rcases AM1.1 hj with rfl|hj;(unfold Go.wpOp;simp only[hi,hwi,if_true,Oper.wp,hv w1,Oper.upon];refine .inl ⟨fun _=>AP0 _,?_⟩;exact DJ hk hr1 hr3 hB hwk2 (fun w2 h2=>hs2 w2 (hl.trans h2)) (fun w2 w3 h2 h3=>hq w2 w3 (hl.trans h2) h3));obtain rfl:j=k:=TC;unfold Go.wpOp;simp only[hk,hwk,if_true,Oper.wp,hs w1 hl,Oper.upon];refine .inl ⟨fun hn=>absurd Zk hn,fun e=>(by rw[hr2] at e;cases e),fun j' hj' w2 h2=>?_⟩;rw[hr2] at hj';(obtain rfl:j'=i:=by simpa using hj');unfold Go.wpOp;simp only[hi,hwi2,if_true,Oper.wp,hv2 w2,Oper.upon];exact .inl ⟨fun _=>AP0 _,Bl hr4 (fun w3 h3=>by rw[←he];exact hq w1 w3 hl (h2.trans h3)) _⟩
theorem vI (l:List (List UInt8)) (n:Nat) (h:l.length=n):NP (fun i=>l.getD i []) n=Full.Dg l:=by subst h;refine List.ext_getElem? fun k=>?_;rcases AM7 k l.length with hk|hk;(simp[NP,Full.Dg,hk]);simp[NP,Full.Dg,hk]
theorem FK (l:List (List UInt8)) (hl:l.length=2):Am l [(1-1)/5]=[Bt l 1 0 1]:=by unfold Am;rw[hl];rfl
theorem U4 (tn i r:Nat):∀x∈Lt tn i r,x.length=32:=fun x hx=>by
 obtain⟨k,_,rfl⟩:=ANU.1 hx;exact IZ _ _ _ (BS _ _) _
theorem H6 (tn i r:Nat):(Lt tn i r).length=67:=by simp[Lt,D9]
theorem aJ (wts:List Nat) (A:Option Addr) (n c m p s f tn:Nat) (v1 v2:Yu) (bs:List Nat) (W:J) (hnn:n=wts.length) (hn0:0<n) (hn:n≤3) (hm:m=7∨(m=1∧n=1)) (hw:∀x∈wts,x<256) (ht:tn<256) (hf:f<256) (hf10:f%10=0)
  (hL:W.ownsRow 0 92 1 v1 n (Q7 bs)) (hbs:bs.length=n) (hLa:∀k,k<n→Iu W (bs.getD k 0) (Bb tn k) 1 5 (Bj tn k)) (hP:W.ownsRow 0 64 5 v2 n (iQ (CG tn wts n))):
  Yv Yw 9 #[Yr #[.slice A n c,Yg Yq m,Yg Yq p,Yg Yq s,Yg Yq f,Yg Yq tn],v1,v2] W fun e w'=>yh W n tn wts e w':=by
 obtain⟨ga,ca,_,rfl,hca,_,_,hlc⟩:=FW hL hn0;obtain⟨gp,cp,rfl,hcp,hpc⟩:=iP hP (by simp[CG]) hn0;obtain⟨g0,hg0⟩:∃g,g=W.heap.size:=⟨_,rfl⟩;have HG0:=sq hg0;have X0:=sq (APw W #[.slice A n c,Yg Yq m,Yg Yq p,Yg Yq s,Yg Yq f,Yg Yq tn] 34);have B0:=sq ((APu [] W).alloc (Yk #[.slice A n c,Yg Yq m,Yg Yq p,Yg Yq s,Yg Yq f,Yg Yq tn] 34));rw[←hg0] at X0;have HN:=sq (AMc hnn (AMc hw (AMc hm (AMc ht (AMc hf (AMc hf10 hbs))))));have HLC:=sq hlc;have HPC:=sq hpc;have HLA:=sq hLa;clear hnn hw hm ht hf hf10 hbs hlc hpc hLa hL hP;go_in;go_wp2_with fail;rw[←hg0];clear hg0;generalize W.alloc (Yk #[.slice A n c,Yg Yq m,Yg Yq p,Yg Yq s,Yg Yq f,Yg Yq tn] 34)=w0 at*
 go_loopw [9,10,11] (fun wv sv z wr=>∃(j:Nat) (ww sw:Yu),ww=wv∧sw=sv∧z=Yg Yj j∧j≤n∧But [] W wr∧AJ wr g0 #[.slice A n c,Yg Yq m,Yg Yq p,Yg Yq s,Yg Yq f,Yg Yq tn] 34∧
  wr.ownsRow (g0+1) 22 1 wv j (Full.DV (DC wts j))∧wr.ownsRow (g0+1) 4 1 sv j (bvL (Ee wts j))) (fun _ _ z _=>n-(intOf z).toNat)
 (case atStart=>exact⟨0,_,_,rfl,rfl,rfl,KA,B0.out,X0.out,AMy _ _ _ _,AMy _ _ _ _⟩)
 case round=>
  clear B0 X0;obtain⟨j,ww,sw,rfl,rfl,rfl,hj,hb,hx,how,hos⟩:=hrel;have HB:=sq hb;have HX:=sq hx;have HOW:=sq how;have HOS:=sq hos;have HGS:Shut (g0+1≤wr.heap.size):=⟨hx.lt⟩;clear hb hx how hos
  by_cases hjn:j<n
  ·have hjn':(j:Int)<(n:Int):=KA
   obtain⟨x,hx⟩:∃x,x=wts.getD j 0:=⟨_,rfl⟩;have hxe:wts[j]?=Z x:=by rw[hx,AMd,AMe Zp];rfl
   have hx256:=HN.out.2.1 x (AMt hxe);obtain⟨_,c1,_,_,_⟩:=(HPC.out.but HB.out).cells (j:=j) (by simp[CG];exact hjn);have hpt:((CG tn wts n).getD j oK).w=x+1:=by
    rw[Xw tn wts n j hjn,←hx];rfl
   rw[hpt,ANC] at c1;have l1:=Ae c1;have HWE:Shut (Full.DV (DC wts (j+1))=Full.DV (DC wts j)++[Yg V (x+1:Nat)]):=⟨by unfold DC;rw[AMs,hxe];simp[Full.DV]⟩;have HSE:Shut (bvL (Ee wts (j+1))=bvL (Ee wts j)++[Yl Yy]):=⟨by unfold Ee;rw[AMs,hxe];simp[bvL]⟩;generalize x+1=x1 at*;clear hx hxe hx256 hpt;have XN:=sq (APw wr #[Yg V x1] 22);have BN:=sq ((APu [] wr).alloc (Yk #[Yg V x1] 22));have HOW2:=sq (AA HOW.out BN.out NC);have HOS2:=sq (AA HOS.out BN.out NC);have HX2:=sq (HX.out.but BN.out NC);go_wp2_with (refine Aj 24 22 (Yg V 0) 1 8 Tryz.underlying24 DN rfl ND ND Br rfl (.tmp 26) (.tmp 32) rfl _ (g0+1) _ _ j 1 rfl HOW2.out (by have:=HGS.out;simp;omega) wr.heap.size [Yg V x1] rfl XN.out PI rfl ND KA ?_);intro g4 cap4 w4 ho4 hb4;have HB4:Shut (But [] W w4):=⟨(HB.out.trans BN.out).transN hb4 (fun k hk=>by have:=(AL HOW2.out k hk).1;have:=HG0.out;omega)⟩;have HX4:=sq (HX2.out.but hb4 (Al HOW2.out HX2.out ND));have HOS4:=sq (AA HOS2.out hb4 (FL HOW2.out HOS2.out ND));rw[←HWE.out] at ho4;have HOW4:=sq ho4;have HGS4:Shut (g0+1≤w4.heap.size):=⟨HX4.out.lt⟩;clear ho4 hb4 HOW2 HOS2 HX2 XN BN HB HGS HOW HOS HX c1 l1;have c1:=HX4.out.cell 1 rfl;have lg:=HX4.out.lt;have BN:=sq ((APu [] w4).alloc (Yk #[Yl Yy] 4));have XN:=sq (APw w4 #[Yl Yy] 4);have HOW5:=sq (AA HOW4.out BN.out NC);have HOS5:=sq (AA HOS4.out BN.out NC);have HX5:=sq (HX4.out.but BN.out NC);have hbit:(bits BinOp.and IntKind.u8 ((m:Int)/2^j) 1==1)=true:=by
    rcases HN.out.2.2.1 with h|⟨h,h1⟩
    ·subst h;have:j=0∨j=1∨j=2:=KA
     rcases this with rfl|rfl|rfl<;>rfl
    ·subst h;have:j=0:=KA
     subst this;rfl
   go_wp2_with (refine Aj 96 4 (Yl Yz) 1 1 Tryz.underlying96 mP rfl ND ND Sw rfl (.tmp 34) (.tmp 41) rfl _ (g0+1) _ _ j 1 rfl HOS5.out (by have:=HGS4.out;simp;omega) w4.heap.size [Yl Yy] rfl XN.out PI rfl ND KA ?_);intro g6 cap6 w6 ho6 hb6;have HB6:Shut (But [] W w6):=⟨(HB4.out.trans BN.out).transN hb6 (fun k hk=>by have:=(AL HOS5.out k hk).1;have:=HG0.out;omega)⟩;have HX6:=sq (HX5.out.but hb6 (Al HOS5.out HX5.out ND));have HOW6:=sq (AA HOW5.out hb6 (FL HOS5.out HOW5.out ND));rw[←HSE.out] at ho6;have HOS6:=sq ho6;clear ho6 hb6 HOW5 HOS5 HX5 XN BN HB4 HGS4 HOW4 HOS4 HX4 c1 lg hbit;go_wp2_with fail;exact⟨⟨j+1,_,_,rfl,rfl,NC,KA,HB6.out,HX6.out,HOW6.out,HOS6.out⟩,NF⟩
  ·have hjn':¬(j:Int)<(n:Int):=KA
   obtain rfl:j=n:=KA
   have HNR:=sq (qm ww sw (DC wts j) (Ee wts j) wr (by
    have:=Ad HOW.out (AM4 _);unfold Row;rw[show (Yb (DC wts j)).length=j by simp[DC,HN.out.1]];exact this) (by
    have:=Ad HOS.out (AM4 _);unfold Row;rw[show ((Ee wts j).map Value.bool).length=j by simp[Ee,HN.out.1]];exact this) (by simp[DC,←HN.out.1];omega) (fun x hx=>by
    obtain⟨y,hy,rfl⟩:=ANU.1 hx;have:=HN.out.2.1 y (AOQ hy);omega))
   go_wp2_with fail;refine HNR.out.mono ?_;rintro e w1 ⟨hr,hb⟩;have hwk:DC wts j=wts.map (·+1):=by unfold DC;rw[AMp Zn]
   have hsk:Ee wts j=wts.map fun _=>true:=by unfold Ee;rw[AMp Zn]
   have hpl:∀k,Pre (DC wts j) (Ee wts j) k≤256*k:=ul _ _ (fun x hx=>by
    obtain⟨y,hy,rfl⟩:=ANU.1 hx;have:=HN.out.2.1 y (AOQ hy);omega)
   have hE:LB (DC wts j) (Ee wts j)=0:=by
    have hl:=hpl (DC wts j).length;have hlw:(DC wts j).length=j:=ADR
    rw[hlw] at hl;unfold LB;rw[AMu (by rw[hlw];simp[Ee,←HN.out.1]),AMu (by rw[hlw];omega),AMu (by
     intro h0;obtain⟨y,hy,e⟩:=ANU.1 h0;omega),AMu (by rw[hlw];omega)]
   rcases hr with⟨h,_⟩|⟨_,g,rfl,hlay⟩
   ·exact absurd hE h
   have hbb:=But.of_below hb;have HB1:=sq (HB.out.trans hbb);have HX1:=sq (HX.out.but hbb NC);have HOS1:=sq (AA HOS.out hbb NC);have HRL:Shut (QL w1 g (DC wts j) (Ee wts j)):=⟨ww,sw,hlay,by
    have:=Ad (AA HOW.out hbb NC) (AM4 _);unfold Row;rw[show (Yb (DC wts j)).length=j by simp[DC,←HN.out.1]];exact this,by
    have:=Ad HOS1.out (AM4 _);unfold Row;rw[show ((Ee wts j).map Value.bool).length=j by simp[Ee,←HN.out.1]];exact this⟩
   have HLEN:Shut ((DC wts j).length=j∧(Ee wts j).length=j∧Ef (DC wts j) (Ee wts j) (DC wts j).length):=⟨ADR,by simp[Ee,←HN.out.1],by
    have:=hpl (DC wts j).length;have hlw:(DC wts j).length=j:=ADR
    rw[hlw] at this;unfold Ef;rw[hlw];omega⟩
   have HWK:=sq (AMc hwk hsk);clear hwk hsk hpl hE hlay hbb hb HOW HOS HX HNR HB HGS;obtain⟨gs,cs,_,hsw,_,_,hBs,hbc⟩:=FW HOS1.out hn0;subst hsw;go_wp2_with fail;obtain⟨b1,hb1⟩:∃b,b=w1.heap.size:=⟨_,rfl⟩;have HB1S:=sq hb1;clear hb1
   go_loopw [14,15,16] (fun sv tv z wr=>∃(i:Nat) (sw2 tw2:Yu) (cs:List (Yu×Yu)),sw2=sv∧tw2=tv∧z=Yg Yj i∧i≤j∧But [] w1 wr∧wr.ownsRow b1 68 5 sv i (jt (En tn wts i) cs)∧J5 wr b1 (En tn wts i) cs∧
    wr.ownsRow b1 9 1 tv i (Full.Dg (ED tn wts i))∧(∀c∈cs,∀k∈tv.ownBlock.toList,c.1.ownBlock≠Z k∧c.2.ownBlock≠Z k)) (fun _ _ z _=>j-(intOf z).toNat)
   case atStart=>exact⟨0,_,_,[],rfl,rfl,rfl,KA,APu _ _,AMy _ _ _ _,trivial,AMy _ _ _ _,fun c hc=>by cases hc⟩
   case round=>
    obtain⟨i,sv2,tv2,cs2,rfl,rfl,rfl,hi,hb,hos,hsr,hot,hdj⟩:=hrel;have HBR:=sq hb;have HRS:=sq hos;have HSR:=sq hsr;have HRT:=sq hot;have HDJ:=sq hdj;clear hb hos hsr hot hdj
    by_cases hij:i<j
    ·have hij':(i:Int)<(j:Int):=KA
     have hwi:IntKind.u64.wrap (i:Int)=(i:Int):=ACR
     have cbs:wr.cell? ⟨gs,i,Y⟩=Z (Yl Yy):=by
      have hBl:=hbc i KA;have hlt:=hBs.lt;rw[AMg (HBR.out.block gs hlt NC),hBl];simp[bvL,Ee,ANI,AQE,hij,←HN.out.1]
     have lbs:=Ae cbs;go_upto_region 17 with fail;have X2:=sq (APw wr #[Yg V 0,Yl Yy,Yg V 0,.slice Y 0 0,.slice Y 0 0] 68);have B2:=sq ((APu [] wr).alloc (Yk #[Yg V 0,Yl Yy,Yg V 0,.slice Y 0 0,.slice Y 0 0] 68));generalize wr.alloc (Yk #[Yg V 0,Yl Yy,Yg V 0,.slice Y 0 0,.slice Y 0 0] 68)=w2 at*;obtain⟨q,hq⟩:∃q,q=wr.heap.size:=⟨_,rfl⟩;have HQ:=sq hq;rw[←hq] at X2⊢;clear hq cbs lbs;have HSU:=sq (kF g (DC wts j) (Ee wts j) i w2 (HRL.out.but (HBR.out.trans B2.out)) (by rw[HLEN.out.1,HLEN.out.2.1]) (by rw[HLEN.out.1];omega) HLEN.out.2.2 KA);have HSV:Shut (WQ (DC wts j) (Ee wts j) i=Ym #[Yg V (Pre (DC wts j) (Ee wts j) i:Nat),Yl Yy]):=⟨by
      unfold WQ;rw[HLEN.out.1,AMx hij,ANV hij]⟩
     rw[HSV.out] at HSU;have HLV:Shut (Pre (DC wts j) (Ee wts j) i=(Dq tn 1 wts i).L):=⟨by rw[HWK.out.1,HWK.out.2];rfl⟩;rw[HLV.out] at HSU;have HSB:Shut ((Dq tn 1 wts i).L<18446744073709551616):=⟨by
      rw[←HLV.out];exact ANg (FP _ _ i _ (by rw[HLEN.out.1];omega)) HLEN.out.2.2⟩
     obtain⟨sL,hsL⟩:∃x,x=(Dq tn 1 wts i).L:=⟨_,rfl⟩;rw[←hsL] at HSU HSB;have HSLE:=sq hsL;clear HSV HLV hsL;have x0:=X2.out.cell 0 rfl;have f0:=X2.out.frozen 0;have lq:=X2.out.lt;go_wp2_with fail;refine HSU.out.mono ?_;rintro e w ⟨rfl,hw⟩;rw[←hw];clear hw HSU;go_upto_region 18 with fail;have X3:=sq (X2.out.set 0 (Yg V sL));have B3:=sq (B2.out.setCell (p:=(q:Nat)) (Or.inr (by show wr.heap.size≤q;rw[HQ.out];exact AMi _)) (Yg V sL));clear x0 f0 lq X2 B2;generalize w2.setCell (q:Nat) (Yg V sL)=w3 at*;have cbs:w3.cell? ⟨gs,i,Y⟩=Z (Yl Yy):=by
      have hBl:=hbc i KA;have hlt:=hBs.lt;rw[AMg ((HBR.out.trans B3.out).block gs hlt NC),hBl];simp[bvL,Ee,ANI,AQE,hij,←HN.out.1]
     have lbs:=Ae cbs;go_upto_region 19 with fail;clear cbs lbs;have HBW3:=sq (HB1.out.trans (HBR.out.trans B3.out));have HX3:=sq (HX1.out.but (HBR.out.trans B3.out) NC);have HAF:Shut (∀W1,Later w3.drew W1→But [] W W1):=⟨fun W1 hl=>HBW3.out.trans (APv ((APy w3).trans hl))⟩;have CL:Shut (∀W1,Later w3.drew W1→W1.cell? ⟨ga,i,Y⟩=Z (U (bs.getD i 0:Nat))∧ga<W1.heap.size):=⟨fun W1 hl=>by
      have h1:=HLC.out i KA;have h2:(Q7 bs)[i]?=Z (U (bs.getD i 0:Nat)):=by
       unfold Q7;rw[ANI,AMd,AMe (by rw[HN.out.2.2.2.2.2.2];exact hij)];rfl
      rw[h2] at h1;have h3:=Ae h1;exact⟨(AMg ((HAF.out W1 hl).block ga h3 NC)).trans h1,AMn h3 (HAF.out W1 hl).size⟩⟩
     have XS:Shut (∀W1,Later w3.drew W1→AJ W1 g0 #[.slice A j c,Yg Yq m,Yg Yq p,Yg Yq s,Yg Yq f,Yg Yq tn] 34):=⟨fun W1 hl=>HX3.out.drew.later hl⟩;have XQ:Shut (∀W1,Later w3.drew W1→AJ W1 q #[Yg V sL,Yl Yy,Yg V 0,.slice Y 0 0,.slice Y 0 0] 68):=⟨fun W1 hl=>X3.out.drew.later hl⟩;have HRD:=sq (fun W1=>RY (.slice A j c) A j c m p s f tn rfl HN.out.2.2.2.2.1 W1);rw[show 1+f%10=1 by rw[HN.out.2.2.2.2.2.1]] at HRD;have HTX:=sq (fun W1=>Oe tn HN.out.2.2.2.1 W1);have HSG:=sq (fun W1 (hl:Later w3.drew W1)=>VR (bs.getD i 0) (Bb tn i) 1 5 (Bj tn i) 1 (Bn tn) W1 ((HLA.out i hij).lad.but (HAF.out W1 hl)) AD8 (fun x hx=>by
      obtain⟨k,_,rfl⟩:=ANU.1 hx;rw[AMf,Ah,show (DI (Bb tn i) k).length=32 from BS _ _];decide) (by rw[MF];decide) ND ND ND AD8 (Cc tn))
     generalize bs.getD i 0=bi at*;refine AX NA [14] ?_;refine AY 0 ?_;refine AY 1 ?_;refine AY 2 (h:=YW) ?_;refine AY 3 (h:=YW) ?_;refine AY 4 (h:=by intro W1 hl;have xx:=XS.out W1 hl;have c0:=xx.cell 0 rfl;have c1:=xx.cell 1 rfl;have c2:=xx.cell 2 rfl;have c3:=xx.cell 3 rfl;have c4:=xx.cell 4 rfl;have c5:=xx.cell 5 rfl;have lg:=xx.lt;go_simp<;>with_reducible rfl) ?_;refine Eb 5 (fun W1 hl=>(HRD.out W1).mono fun e w' h=>⟨h.1,h.2.later⟩) ?_;refine AY 6 (h:=by intro W1 hl;have lg:=(XS.out W1 hl).lt;go_simp<;>with_reducible rfl) ?_;refine AY 7 (h:=by intro W1 hl;have xx:=XS.out W1 hl;have c5:=xx.cell 5 rfl;have lg:=xx.lt;go_simp<;>with_reducible rfl) ?_;refine Eb 8 (fun W1 hl=>(HTX.out W1).mono fun e w' h=>⟨h.1,h.2.later⟩) ?_;refine KQ (i:=9) (R:=fun W1 v W2=>∃wA wn wc pA pn pc n,v=Ym #[Yr #[Yg V (((1-1)/5:Nat):Int),.slice wA wn wc,.slice pA pn pc],Yg Yj 0]∧But [] W1 W2∧W2.ownsRow W1.heap.size 9 1 (.slice wA wn wc) 67 (Full.Dg (Lt tn i 1))∧W2.ownsRow W1.heap.size 9 1 (.slice pA pn pc) n (Full.Dg (Am (Bj tn i) [(1-1)/5]))) rfl NA PE (fun W1 hl=>(HSG.out W1 hl).mono ?_) ?_ ?_
     ·rintro e w' ⟨wv,pv,n,rfl,hb,h1,h2⟩;obtain⟨wA,wn,wc,rfl⟩:=BH h1;obtain⟨pA,pn,pc,rfl⟩:=BH h2;rw[show (fun i_1=>(D9 (Bb tn i) ((1-1)/5) (Bn tn)).getD i_1 [])=(fun i_1=>(Lt tn i 1).getD i_1 []) from rfl,vI _ 67 (H6 tn i 1)] at h1;exact⟨_,rfl,hb.later,wA,wn,wc,pA,pn,pc,n,rfl,hb,h1,h2⟩
     ·intro W1 hl
      go_simp<;>with_reducible rfl
     intro W4 v W5 h4 h45 hv
     refine tz ?_
     obtain⟨wA,wn,wc,pA,pn,pc,n,rfl,hb45,hw5,hp5⟩:=hv;have L5:=sq (h4.trans h45);have HB5:=sq ((APv ((APy w3).trans h4)).trans hb45);have HW5:=sq (AMc hw5 hp5);have HS5:=sq (show w3.heap.size≤W4.heap.size from (APv ((APy w3).trans h4)).size);clear h4 h45 hb45 hw5 hp5;refine AY 10 ?_;refine AY 11 ?_;refine AY 13 (h:=by intro W1 hl;have lq:=(XQ.out W1 (L5.out.trans hl)).lt;go_simp<;>with_reducible rfl) ?_;refine Wd (i:=12) (k:=14) (v:=?_) (f:=fun w=>((w.setCell ⟨q,2,Y⟩ (Yg V 0)).setCell ⟨q,3,Y⟩ (.slice wA wn wc)).setCell ⟨q,4,Y⟩ (.slice pA pn pc)) rfl rfl NA NA NA NA NA NA PE PE PE PE ?_ ?_ ?_ ?_ rfl ?_;rotate_left
     ·(intro W1;go_simp<;>with_reducible rfl)
     ·(intro W1;go_simp<;>with_reducible rfl)
     ·(intro W1 hl;have xx:=XQ.out W1 (L5.out.trans hl);have x2:=xx.cell 2 rfl;have x3:=xx.cell 3 rfl;have x4:=xx.cell 4 rfl;have f2:=xx.frozen 2;have f3:=xx.frozen 3;have f4:=xx.frozen 4;have lq:=xx.lt;go_simp<;>with_reducible rfl)
     ·(intro W1 hl;have xx:=XQ.out W1 (L5.out.trans hl);have x2:=xx.cell 2 rfl;have x3:=xx.cell 3 rfl;have x4:=xx.cell 4 rfl;have f2:=xx.frozen 2;have f3:=xx.frozen 3;have f4:=xx.frozen 4;have lq:=xx.lt;go_simp<;>with_reducible rfl)
     intro w6 w7 h6 h7
     refine tz ?_
     have hxq:=XQ.out w6 (L5.out.trans h6);have X7:Shut (AJ w7 q #[Yg V sL,Yl Yy,Yg V 0,.slice wA wn wc,.slice pA pn pc] 68):=⟨(((hxq.set 2 (Yg V 0)).set 3 (.slice wA wn wc)).set 4 (.slice pA pn pc)).later h7⟩;have hqz:∀k,wr.heap.size≤(⟨q,k,Y⟩:Addr).block:=fun k=>by have:=HQ.out;simp;omega
     have BQ:But [q] w6 w7:=((((APu [q] w6).setCell (p:=⟨q,2,Y⟩) (Or.inl NC) _).setCell (p:=⟨q,3,Y⟩) (Or.inl NC) _).setCell (p:=⟨q,4,Y⟩) (Or.inl NC) _).trans (APv h7).nil;have HB7:Shut (But [] wr w7):=⟨(((((B3.out.trans HB5.out).trans (APv h6)).setCell (Or.inr (hqz 2)) _).setCell (Or.inr (hqz 3)) _).setCell (Or.inr (hqz 4)) _).trans (APv h7)⟩;have ho6:=AMc (AA HW5.out.1 (APv h6) NC) (AA HW5.out.2 (APv h6) NC);have HW7:Shut (w7.ownsRow W4.heap.size 9 1 (.slice wA wn wc) 67 (Full.Dg (Lt tn i 1))∧w7.ownsRow W4.heap.size 9 1 (.slice pA pn pc) n (Full.Dg (Am (Bj tn i) [(1-1)/5]))):=⟨AA ho6.1 BQ (fun k hk e=>by
      obtain rfl:=AMh.1 hk;exact absurd ((AL ho6.1 _ UH).2 _ _ hxq) ND),AA ho6.2 BQ (fun k hk e=>by
      obtain rfl:=AMh.1 hk;exact absurd ((AL ho6.2 _ UH).2 _ _ hxq) ND)⟩
     have HWS:Shut (wr.heap.size≤W4.heap.size∧b1≤wr.heap.size):=⟨AMj B3.out.size HS5.out,by rw[HB1S.out];exact HBR.out.size⟩;clear h6 h7 hxq hqz BQ ho6 L5 HB5 HW5 HS5 XQ XS CL HAF HRD HTX HSG B3 X3 HBW3 HX3;have HSO7:=sq (AA HRS.out HB7.out NC);have HTO7:=sq (AA HRT.out HB7.out NC);have HSR7:=sq (HSR.out.but HB7.out (fun c _ k hk=>AEJ));have HNW:Shut (∀k∈tv2.ownBlock.toList,k<wr.heap.size):=⟨fun k hk=>(AOX HRT.out k (AMw.1 hk)).2⟩;have HNV:Shut (∀k∈tv2.ownBlock.toList,(Value.slice wA wn wc).ownBlock≠Z k∧(Value.slice pA pn pc).ownBlock≠Z k):=⟨fun k hk=>by
      have h1:=HNW.out k hk;have h2:=HWS.out.1;exact⟨fun e=>by have:=(AL HW7.out.1 k UH).1;omega,fun e=>by have:=(AL HW7.out.2 k UH).1;omega⟩⟩
     clear HRS HRT HSR HNW;obtain⟨A1,c1,hv1,hc1,ht1,hn1⟩:=DT HW7.out.1;obtain⟨A2,c2,hv2,hc2,ht2,hn2⟩:=DT HW7.out.2;obtain⟨rfl,rfl,rfl⟩:A1=wA∧(Lt tn i 1).length=wn∧c1=wc:=by
      injection hv1 with e1 e2 e3;exact⟨e1.symm,e2.symm,e3.symm⟩
     obtain⟨rfl,rfl,rfl⟩:A2=pA∧(Am (Bj tn i) [(1-1)/5]).length=pn∧c2=pc:=by
      injection hv2 with e1 e2 e3;exact⟨e1.symm,e2.symm,e3.symm⟩
     have HRSL:=sq (dH Yy sL ((1-1)/5) (Lt tn i 1) (Am (Bj tn i) [(1-1)/5]) A1 A2 c1 c2 w7 HSB.out ND ht1 ht2 hc1 hc2 (by rw[H6];exact AMi _) (by rw[FK _ ACF];exact ANK rfl) (U4 tn i 1) (by
      rw[FK _ ACF];intro x hx;rw[AMh.1 hx];exact Ci _ _ _ _))
     have HBY:Shut (Ab (Cf sL Yy ((1-1)/5) (Lt tn i 1) (Am (Bj tn i) [(1-1)/5]))=(Dq tn 1 wts i).bytes):=⟨by rw[HSLE.out];rfl⟩;rw[HBY.out] at HRSL;have HLX:Shut ((Lt tn i 1).length=(Dq tn 1 wts i).lw.length∧(Am (Bj tn i) [(1-1)/5]).length=(Dq tn 1 wts i).lp.length∧n=(Dq tn 1 wts i).lp.length∧67=(Dq tn 1 wts i).lw.length):=⟨rfl,rfl,hn2,hn1⟩;have HW8:Shut (w7.ownsRow b1 9 1 (.slice A1 (Lt tn i 1).length c1) (Dq tn 1 wts i).lw.length (Full.Dg (Dq tn 1 wts i).lw)∧w7.ownsRow b1 9 1 (.slice A2 (Am (Bj tn i) [(1-1)/5]).length c2) (Dq tn 1 wts i).lp.length (Full.Dg (Dq tn 1 wts i).lp)):=⟨by
      have hbb:b1≤W4.heap.size:=by have:=HWS.out;omega
      have h1:=Ad HW7.out.1 hbb;have h2:=Ad HW7.out.2 hbb;rw[hn1] at h1;rw[hn2] at h2;exact⟨h1,h2⟩⟩
     clear hv1 hc1 ht1 hn1 hv2 hc2 ht2 hn2 HBY HW7;have HTE:Shut (Full.Dg (ED tn wts (i+1))=Full.Dg (ED tn wts i)++[O (AB (Dq tn 1 wts i).bytes)]):=⟨by rw[fC];simp[Full.Dg]⟩;have HSE:Shut (jt (En tn wts (i+1)) (cs2++[(.slice A1 (Lt tn i 1).length c1,.slice A2 (Am (Bj tn i) [(1-1)/5]).length c2)])=jt (En tn wts i) cs2++[Yg V sL,Yl Yy,Yg V 0,.slice A1 (Lt tn i 1).length c1,.slice A2 (Am (Bj tn i) [(1-1)/5]).length c2]):=⟨by
      rw[Qo,XE _ _ _ _ HSR7.out.len,HSLE.out];rfl⟩
     have HRE:Shut (∀(w':J) (n1 n2:Yu),J5 w' b1 (En tn wts i) cs2→(w'.ownsRow b1 9 1 n1 (Dq tn 1 wts i).lw.length (Full.Dg (Dq tn 1 wts i).lw)∧w'.ownsRow b1 9 1 n2 (Dq tn 1 wts i).lp.length (Full.Dg (Dq tn 1 wts i).lp))→J5 w' b1 (En tn wts (i+1)) (cs2++[(n1,n2)])):=⟨fun w' n1 n2 h1 h2=>by
      rw[Qo];exact J5.snoc h2 h1⟩
     generalize (Lt tn i 1).length=wn at*;generalize (Am (Bj tn i) [(1-1)/5]).length=pn at*;generalize AB (Dq tn 1 wts i).bytes=sb at*;have x0:=X7.out.cell 0 rfl;have x1:=X7.out.cell 1 rfl;have x2:=X7.out.cell 2 rfl;have x3:=X7.out.cell 3 rfl;have x4:=X7.out.cell 4 rfl;have lq:=X7.out.lt;go_wp2_with fail;refine HRSL.out.mono ?_;rintro e w8 ⟨rfl,hb8⟩;have HB8:=sq (HB7.out.trans hb8);have X8:=sq (X7.out.but hb8 NC);have BN:=sq (hb8.alloc (Yk #[Yg V sL,Yl Yy,Yg V 0,.slice A1 wn c1,.slice A2 pn c2] 68));have XN:=sq (APw w8 #[Yg V sL,Yl Yy,Yg V 0,.slice A1 wn c1,.slice A2 pn c2] 68);have HSO8:=sq (AA HSO7.out BN.out NC);have HTO8:=sq (AA HTO7.out BN.out NC);have HSR8:=sq (HSR7.out.but BN.out (fun c _ k hk=>AEJ));have HW9:=sq (AMc (AA HW8.out.1 BN.out NC) (AA HW8.out.2 BN.out NC));have HB9:=sq (HB7.out.trans BN.out);have HS9:Shut (b1≤w8.heap.size):=⟨by have:=HWS.out;have:=HB8.out.size;omega⟩;clear hb8 x0 x1 x2 x3 x4 lq X7 HB7 HSO7 HTO7 HSR7 HW8 HRSL BN;have x0:=X8.out.cell 0 rfl;have x1:=X8.out.cell 1 rfl;have x2:=X8.out.cell 2 rfl;have x3:=X8.out.cell 3 rfl;have x4:=X8.out.cell 4 rfl;have lq:=X8.out.lt;go_wp2_with (refine Aj 45 68 (Yr #[Yg V 0,Yl Yz,Yg V 0,.slice Y 0 0,.slice Y 0 0]) 5 72 Tryz.underlying45 mJ rfl ND ND Sr rfl (.tmp 97) (.tmp 99) rfl _ b1 _ _ i 1 rfl HSO8.out (by have:=HS9.out;simp;omega) w8.heap.size [Yg V sL,Yl Yy,Yg V 0,.slice A1 wn c1,.slice A2 pn c2] rfl XN.out PI rfl ND KA ?_);intro g10 cap10 w10 ho10 hb10;have HB10:Shut (But [] w1 w10):=⟨(HBR.out.trans HB9.out).transN hb10 (fun k hk=>by have:=(AL HSO8.out k hk).1;have:=HB1S.out;omega)⟩;have hkd:∀k∈sv2.ownBlock.toList,∃cs0,AJ (w8.alloc (Yk #[Yg V sL,Yl Yy,Yg V 0,.slice A1 wn c1,.slice A2 pn c2] 68)) k cs0 68:=fun k hk=>by
      rcases HSO8.out.2 with⟨e,_⟩|⟨g',cap',cur,e,_,hh,_⟩
      ·rw[e] at hk;cases hk
      ·rw[e] at hk;have:k=g':=AAa
       subst this;exact⟨cur,hh⟩
     have HTO10:=sq (AA HTO8.out hb10 (FL HSO8.out HTO8.out ND));have HSR10:=sq (HSR8.out.but hb10 (fun c hc k hk=>by
      obtain⟨cs0,hB⟩:=hkd k hk;exact J5.kind hB ND HSR8.out c hc))
     have HW10:=sq (AMc (AA HW9.out.1 hb10 (FL HSO8.out HW9.out.1 ND)) (AA HW9.out.2 hb10 (FL HSO8.out HW9.out.2 ND)));have hso11:w10.ownsRow b1 68 5 (Yh g10 (i+1) cap10) (i+1) (jt (En tn wts (i+1)) (cs2++[(.slice A1 wn c1,.slice A2 pn c2)])):=by rw[HSE.out];exact ho10
     have HSO10:=sq hso11;have HS10:Shut (b1≤w10.heap.size):=⟨by rw[HB1S.out];exact HB10.out.size⟩;clear ho10 hb10 hkd hso11 HSO8 HTO8 HSR8 HW9 HB9 XN x0 x1 x2 x3 x4 lq X8 HB8 HS9;have BN:=sq ((APu [] w10).alloc (Yk #[.string sb] 9));have XN:=sq (APw w10 #[.string sb] 9);have HTO11:=sq (AA HTO10.out BN.out NC);have HSO11:=sq (AA HSO10.out BN.out NC);have HSR11:=sq (HSR10.out.but BN.out (fun c _ k hk=>AEJ));have HW11:=sq (AMc (AA HW10.out.1 BN.out NC) (AA HW10.out.2 BN.out NC));have HLT:Shut (∀c∈cs2++[(Value.slice A1 wn c1,Value.slice A2 pn c2)],∀k,(c.1.ownBlock=Z k∨c.2.ownBlock=Z k)→k<w10.heap.size):=⟨fun c hc k hk=>by
      rcases AM3.1 hc with h|h
      ·exact J5.lt HSR10.out c h k hk
      ·have:=AMh.1 h;subst this
       rcases hk with hk|hk
       ·exact (AOX HW10.out.1 k hk).2
       ·exact (AOX HW10.out.2 k hk).2⟩
     have HDA:Shut (∀c∈cs2++[(Value.slice A1 wn c1,Value.slice A2 pn c2)],∀k∈tv2.ownBlock.toList,c.1.ownBlock≠Z k∧c.2.ownBlock≠Z k):=⟨fun c hc k hk=>by
      rcases AM3.1 hc with h|h
      ·exact HDJ.out c h k hk
      ·have:=AMh.1 h;subst this;exact HNV.out k hk⟩
     clear HSO10 HTO10 HSR10 HW10;go_wp2_with (refine Ul 25 9 (O ⟨#[]⟩) 1 16 Tryz.underlying25 Ce rfl ND ND Bd rfl (.tmp 101) (.tmp 103) rfl _ b1 _ _ i 1 rfl HTO11.out (by have:=HS10.out;simp;omega) w10.heap.size [.string sb] rfl XN.out PI rfl ND KA ?_);intro g12 cap12 w12 ho12 hb12 hg12;have HB12:Shut (But [] w1 w12):=⟨(HB10.out.trans BN.out).transN hb12 (fun k hk=>by have:=(AL HTO11.out k hk).1;have:=HB1S.out;omega)⟩;have HSO12:=sq (AA HSO11.out hb12 (FL HTO11.out HSO11.out ND));have HSR12:=sq (HRE.out _ _ _ (HSR11.out.but hb12 HDJ.out) (AMc (AA HW11.out.1 hb12 (fun k hk=>(HNV.out k hk).1)) (AA HW11.out.2 hb12 (fun k hk=>(HNV.out k hk).2))));have HDJ12:Shut (∀c∈cs2++[(Value.slice A1 wn c1,Value.slice A2 pn c2)],∀k∈(Value.slice (Z ⟨g12,0,Y⟩) (i+1) cap12).ownBlock.toList,c.1.ownBlock≠Z k∧c.2.ownBlock≠Z k):=⟨fun c hc k hk=>by
      have hk2:k=g12:=AAa
      subst hk2
      rcases hg12 with h|h
      ·exact HDA.out c hc _ (AMw.2 h)
      ·have hlt:=HLT.out c hc k;have hsz:k=w10.heap.size+1:=h;exact⟨fun e=>by have:=hlt (Or.inl e);omega,fun e=>by have:=hlt (Or.inr e);omega⟩⟩
     rw[←HTE.out] at ho12;have HTO12:=sq ho12;clear ho12 hb12 hg12 HSO11 HTO11 HSR11 HW11 BN XN HB10 HRE HSE HTE HLT HDA;go_wp2_with fail;exact⟨⟨i+1,_,_,_,rfl,rfl,NC,KA,HB12.out,HSO12.out,HSR12.out,HTO12.out,HDJ12.out⟩,NF⟩
    ·have hij':¬(i:Int)<(j:Int):=KA
     obtain rfl:i=j:=KA
     have HF1:Shut (ABq wr W.heap.size sv2 (En tn wts i)):=⟨cs2,by
      rw[show (En tn wts i).length=i by simp[En]];exact Ad HRS.out ADS,HSR.out.base ADS⟩
     have HF2:=sq (Ad HRT.out (show W.heap.size≤b1 by rw[HB1S.out];exact HB1.out.size));have HF3:=sq (HRL.out.but HBR.out);have HF4:=sq (HB1.out.trans HBR.out);clear HRS HRT HSR HDJ HBR;go_wp2_with fail;refine AMo (results_tmp3 rfl _ _ _) rfl ?_;exact⟨_,_,g,rfl,HF4.out,HF3.out,HF1.out,HF2.out⟩
end Go.Proofs.YtiapejgiinidhaaGreatDoor
namespace Go.Proofs.YtiapejgiinidhaaGreatDoor.L2
def step (up:Bool) (y:Nat):Nat×Nat:=
 if up then
  (if (y*y+9223372036854775807)/9223372036854775808<18446744073709551616 then (0,(y*y+9223372036854775807)/9223372036854775808)
   else (1,(y*y+18446744073709551615)/18446744073709551616))
 else
  (if y*y<170141183460469231731687303715884105728 then (0,y*y/9223372036854775808) else (1,y*y/18446744073709551616))
def KF (y:Nat):Prop:=9223372036854775808≤y∧y<18446744073709551616
theorem Fm (y:Nat) (h:KF y):85070591730234615865843651857942052864≤y*y∧y*y≤340282366920938463426481119284349108225:=by obtain⟨h1,h2⟩:=h;exact⟨by have:=AOA h1 h1;omega,by have:=AOA (AO0 h2) (AO0 h2);omega⟩
theorem OU (up:Bool) (y:Nat) (h:KF y):KF (step up y).2∧(step up y).1≤1:=by have:=Fm y h;generalize hz:y*y=z at*;unfold step KF;rw[hz];cases up;(simp only[ANh,if_false];split<;>exact⟨SQ,SQ⟩);simp only[if_true];split<;>exact⟨SQ,SQ⟩
def E8 (up:Bool) (y:Nat):Nat→Nat
 |0=>y
 |k+1=>(step up (E8 up y k)).2
def out (up:Bool) (y o:Nat):Nat→Nat
 |0=>o
 |k+1=>2*out up y o k+(step up (E8 up y k)).1
theorem Tt (up:Bool) (y k:Nat):E8 up y (k+1)=(step up (E8 up y k)).2:=rfl
theorem aC (up:Bool) (y o k:Nat):out up y o (k+1)=2*out up y o k+(step up (E8 up y k)).1:=rfl
theorem QQ (up:Bool) (y:Nat) (h:KF y) (k:Nat):KF (E8 up y k):=by induction k with|zero=>exact h|succ k ih=>exact (OU up _ ih).1
theorem uT (up:Bool) (y:Nat) (h:KF y) (k:Nat):(step up (E8 up y k)).1≤1:=(OU up _ (QQ up y h k)).2
theorem zf (up:Bool) (y o:Nat) (h:KF y) (ho:o<64) (k:Nat):out up y o k<64*2^k:=by induction k with|zero=>simpa [out] using ho|succ k ih=>have:=uT up y h k;simp only[out,Nat.pow_succ];omega
theorem Fq (up:Bool) (y o:Nat) (h:KF y) (ho:o<64) (k:Nat) (hk:k≤24):out up y o k<1073741824:=by have h1:=zf up y o h ho k;have h2:2^k≤2^24:=AM5 KA hk;omega
end Go.Proofs.YtiapejgiinidhaaGreatDoor.L2
namespace Go.Proofs.YtiapejgiinidhaaGreatDoor
open Value renaming int→Yg,pointer→U,string→O,func→G,slice→Yh,bool→Yl,tuple→Ym,agg→Yr
open IntKind renaming u64→V,i64→Yj,u8→Yq
open Obj renaming cells→Yk
open Ending renaming returned→Yi
open Fn renaming func→M
open Go renaming World→J,Value→Yu,Calls→Yv,undef→Yx
open Go.Proofs.Tryz renaming prog→Yw
open Option renaming some→Z,none→Y
open Bool renaming true→Yy,false→Yz
open Go.RowKit
theorem zg (h l:Nat) (hl:l<18446744073709551616):
  bits BinOp.or IntKind.u64 (IntKind.u64.wrap ((h:Int)*2)) ((l:Int)/9223372036854775808)=((h*2%18446744073709551616+l/9223372036854775808:Nat):Int):=by
 rw[show IntKind.u64.wrap ((h:Int)*2)=((h*2%18446744073709551616:Nat):Int) from PQ,
  show ((l:Int)/9223372036854775808)=((l/9223372036854775808:Nat):Int) from KA,
  AO9 _ _ KA KA]
 (have e:h*2%18446744073709551616 ||| l/9223372036854775808=h*2%18446744073709551616+l/9223372036854775808:=by rw[show h*2%18446744073709551616=2^1*(h%9223372036854775808) from KA];exact AHz);rw[e]
theorem V7 (h l:Nat) (w:J) (hh:h<18446744073709551616) (hl:l<18446744073709551616):
  Yv Yw 256 #[Yg V h,Yg V l,Yg V 63] w fun e w'=>
   e=Yi (Ym #[Yg V ((h*2%18446744073709551616+l/9223372036854775808:Nat):Int),Yl (decide (9223372036854775808≤h))])∧w=w':=by go_in;go_wp2;rw[zg h l hl];go_ret2;refine⟨?_,rfl⟩;rw[show ((h:Int)/9223372036854775808==1)=decide (9223372036854775808≤h) from by rw[ANl];simp;omega];rfl
theorem gI (h l:Nat) (w:J):
  Yv Yw 256 #[Yg V h,Yg V l,Yg V 64] w fun e w'=>
   e=Yi (Ym #[Yg V h,Yl Yz])∧w=w':=by go_in;go_wp2;exact AIE
theorem ye (x y c:Int) (hx:0≤x) (hy:0≤y) (hc0:0≤c) (hc:c≤1) (w:J):
  (callFunc 258 #[Yg V x,Yg V y,Yg V c]).run Yw w=
   .ok (.value (Ym #[Yg V ((x+y+c)%18446744073709551616),Yg V ((x+y+c)/18446744073709551616)])) w:=by rw[ANN Tryz.func258 NA NA NA (e:=add64Entry) NA,run_add64 x y c hx hy hc0 hc];rfl
theorem AAh (h:Nat) (w:J):
  Yv Yw 255 #[Yg V h,Yg V 0,Yg V 64] w fun e w'=>
   e=Yi (Ym #[Yg V h,Yl Yz])∧w=w':=by go_in;go_wp2_with (go_at_call 256;refine (gI _ 0 _).mono ?_;rintro e w' ⟨rfl,rfl⟩);exact AIE
theorem Gz {a b:Int} {p q:Bool} (h1:a=b) (h2:p=q):Ending.returned (Ym #[Yg V a,Yl p])=Yi (Ym #[Yg V b,Yl q]):=by rw[h1,h2]
theorem AAi (h l:Nat) (w:J) (hh:h<18446744073709551615) (h0:0<l):
  Yv Yw 255 #[Yg V h,Yg V l,Yg V 64] w fun e w'=>
   e=Yi (Ym #[Yg V ((h+1:Nat):Int),Yl Yz])∧w=w':=by have ha:=fun w=>ye h 1 0 KA KA KA KA w;have e0:((l:Int)==0)=false:=NG;go_in;go_wp2_with (go_at_call 256;refine (gI _ l _).mono ?_;rintro e w' ⟨rfl,rfl⟩);go_ret2;exact⟨Gz KA NG,rfl⟩
theorem yK (h l:Nat) (w:J) (hh:h<18446744073709551616) (hl:l<18446744073709551616) (h0:l%9223372036854775808=0):
  Yv Yw 255 #[Yg V h,Yg V l,Yg V 63] w fun e w'=>
   e=Yi (Ym #[Yg V ((h*2%18446744073709551616+l/9223372036854775808:Nat):Int),Yl (decide (9223372036854775808≤h))])∧w=w':=by have e0:(IntKind.u64.wrap ((l:Int)*2)==0)=true:=ADT;obtain⟨m,hm⟩:∃m,m=h*2%18446744073709551616+l/9223372036854775808:=⟨_,rfl⟩;obtain⟨b,hb⟩:∃b,b=decide (9223372036854775808≤h):=⟨_,rfl⟩;have c:=V7 h l w hh hl;rw[←hm,←hb] at c⊢;clear hm hb hh hl h0;have C:=Lib.hid c;clear c;go_in;go_wp2_with (go_at_call 256;refine C.out.mono ?_;rintro e w' ⟨rfl,rfl⟩);exact AIE
theorem yL (h l:Nat) (w:J) (hh:h<18446744073709551616) (hl:l<18446744073709551616) (h0:0<l%9223372036854775808):
  Yv Yw 255 #[Yg V h,Yg V l,Yg V 63] w fun e w'=>
   e=Yi (Ym #[Yg V (((h*2%18446744073709551616+l/9223372036854775808+1)%18446744073709551616:Nat):Int),
    Yl (decide (9223372036854775808≤h)||decide (18446744073709551615≤h*2%18446744073709551616+l/9223372036854775808))])∧w=w':=by have e0:(IntKind.u64.wrap ((l:Int)*2)==0)=false:=ADT;obtain⟨m,hm⟩:∃m,m=h*2%18446744073709551616+l/9223372036854775808:=⟨_,rfl⟩;obtain⟨b,hb⟩:∃b,b=decide (9223372036854775808≤h):=⟨_,rfl⟩;have c:=V7 h l w hh hl;rw[←hm,←hb] at c⊢;have hm':m<18446744073709551616:=KA;clear hm hb hh hl h0;have C:=Lib.hid c;clear c;have ha:=fun w=>ye m 1 0 KA KA KA KA w;cases b;(·go_in;go_wp2_with (go_at_call 256;refine C.out.mono ?_;rintro e w' ⟨rfl,rfl⟩);go_ret2;refine⟨Gz KA ?_,rfl⟩;rw[ANl];simp;omega);go_in;go_wp2_with (go_at_call 256;refine C.out.mono ?_;rintro e w' ⟨rfl,rfl⟩);go_ret2;exact⟨Gz KA rfl,rfl⟩
def IY (up:Bool):Nat:=if up then 255 else 256
theorem AAG (up:Bool) (y:Nat) (w:J) (hy:L2.KF y) (h0:(L2.step up y).1=0):
  Yv Yw (IY up) #[Yg V (y*y/18446744073709551616:Nat),Yg V (y*y%18446744073709551616:Nat),Yg V 63] w fun e w'=>
   e=Yi (Ym #[Yg V (L2.step up y).2,Yl Yz])∧w=w':=by have hb:=L2.Fm y hy;revert h0;unfold L2.step IY;generalize y*y=z at*;cases up;(simp only[ANh,if_false];split;(intro _;refine (V7 _ _ w KA KA).mono fun e w' ⟨he,hw⟩=>⟨he.trans (Gz KA NG),hw⟩);exact ALJ);simp only[if_true];split;(intro _;by_cases hl:z%18446744073709551616%9223372036854775808=0;(refine (yK _ _ w KA KA hl).mono fun e w' ⟨he,hw⟩=>⟨he.trans (Gz KA NG),hw⟩);refine (yL _ _ w KA KA KA).mono fun e w' ⟨he,hw⟩=>⟨he.trans (Gz KA NG),hw⟩);exact ALJ
theorem AAF (up:Bool) (y:Nat) (w:J) (hy:L2.KF y) (h0:(L2.step up y).1=1):
  Yv Yw (IY up) #[Yg V (y*y/18446744073709551616:Nat),Yg V (y*y%18446744073709551616:Nat),Yg V 63] w fun e w'=>
   (∃m:Int,e=Yi (Ym #[Yg V m,Yl Yy]))∧w=w':=by have hb:=L2.Fm y hy;revert h0;unfold L2.step IY;generalize y*y=z at*;cases up;(simp only[ANh,if_false];split;(exact ALJ);intro _;refine (V7 _ _ w KA KA).mono fun e w' ⟨he,hw⟩=>⟨⟨_,he.trans (Gz rfl NG)⟩,hw⟩);simp only[if_true];split;(exact ALJ);intro _;by_cases hl:z%18446744073709551616%9223372036854775808=0;(refine (yK _ _ w KA KA hl).mono fun e w' ⟨he,hw⟩=>⟨⟨_,he.trans (Gz rfl NG)⟩,hw⟩);refine (yL _ _ w KA KA KA).mono fun e w' ⟨he,hw⟩=>⟨⟨_,he.trans (Gz rfl NG)⟩,hw⟩
theorem AAE (up:Bool) (y:Nat) (w:J) (hy:L2.KF y) (h0:(L2.step up y).1=1):
  Yv Yw (IY up) #[Yg V (y*y/18446744073709551616:Nat),Yg V (y*y%18446744073709551616:Nat),Yg V 64] w fun e w'=>
   e=Yi (Ym #[Yg V (L2.step up y).2,Yl Yz])∧w=w':=by have hb:=L2.Fm y hy;revert h0;unfold L2.step IY;generalize y*y=z at*;cases up;(simp only[ANh,if_false];split;(exact ALJ);intro _;refine (gI _ _ w).mono fun e w' ⟨he,hw⟩=>⟨he,hw⟩);simp only[if_true];split;(exact ALJ);intro _;by_cases hl:z%18446744073709551616=0;(rw[hl];refine (AAh _ w).mono fun e w' ⟨he,hw⟩=>⟨he.trans (Gz KA rfl),hw⟩);refine (AAi _ _ w KA KA).mono fun e w' ⟨he,hw⟩=>⟨he.trans (Gz KA rfl),hw⟩
theorem nL (up:Bool) (y:Nat) (b:Nat) (w:J) (hy:L2.KF y) (hc:w.cell? b=Z (G (M (IY up)) #[] #[])):
  Yv Yw 330 #[Yg V y,U b] w fun e w'=>
   e=Yi (Ym #[Yg V (L2.step up y).1,Yg V (L2.step up y).2])∧w=w':=by
 have hlt:y<18446744073709551616:=hy.2;have hs:=(L2.OU up y hy).2;have Yf:=Tryz.bits_Mul64 y y hlt hlt;have H0:=Lib.hid (fun w=>AAG up y w hy);have H1:=Lib.hid (fun w=>AAF up y w hy);have H2:=Lib.hid (fun w=>AAE up y w hy);clear hy;generalize y*y/18446744073709551616=zh at*;generalize y*y%18446744073709551616=zl at*;generalize L2.step up y=st at*;obtain⟨s1,s2⟩:=st;dsimp only at*;have MM:=Lib.hid Yf;clear Yf;have hs':s1=0∨s1=1:=KA;clear hs;rcases hs' with rfl|rfl
 ·cases up
  all_goals
   go_in;go_wp2_with fail;refine (MM.out _).mono ?_;rintro e w' ⟨rfl,rfl⟩;go_wp2_with fail;refine (H0.out _ VJ).mono ?_;rintro e w' ⟨rfl,rfl⟩
   go_wp2
   go_ret2
   exact⟨rfl,rfl⟩
 cases up
 all_goals
  go_in;go_wp2_with fail;refine (MM.out _).mono ?_;rintro e w' ⟨rfl,rfl⟩;go_wp2_with fail;refine (H1.out _ VJ).mono ?_;rintro e w' ⟨⟨m,rfl⟩,rfl⟩;go_wp2_with fail;refine (H2.out _ VJ).mono ?_;rintro e w' ⟨rfl,rfl⟩
  go_wp2
  go_ret2
  exact⟨rfl,rfl⟩
theorem Vq (y:Nat) (h:Nat) (w:J):
  Yv Yw 312 #[Yg V y,G (M h) #[] #[]] w fun e w'=>
   e=Yi (G (M 331) #[] #[U (w.heap.size+1+1:Nat),U w.heap.size])∧
   ((w.alloc (Yk #[Yg V y] 22)).alloc (Yk #[G (M h) #[] #[]] 375)).alloc (Yk #[G (M 330) #[] #[U (w.heap.size+1:Nat)]] 344)=w':=ALv
end Go.Proofs.YtiapejgiinidhaaGreatDoor
