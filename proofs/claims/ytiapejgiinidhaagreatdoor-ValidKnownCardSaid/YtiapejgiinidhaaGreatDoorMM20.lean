import Derived.Test.YtiapejgiinidhaaGreatDoorMM19
set_option linter.all false
set_option maxRecDepth 100000
set_option maxHeartbeats 40000000
namespace Go.Proofs.YtiapejgiinidhaaGreatDoor
open Value renaming int→Yg,pointer→U,string→O,slice→Yh,bool→Yl,tuple→Ym,agg→Yr
open IntKind renaming u64→V,i64→Yj,u8→Yq
open Obj renaming cells→Yk
open Ending renaming returned→Yi
open Go renaming World→J,Value→Yu,Calls→Yv,undef→Yx
open Go.Proofs.Tryz renaming prog→Yw
open Option renaming some→Z,none→Y
open Bool renaming true→Yy,false→Yz
open Go.RowKit Go.Shelf
def Ct.first (p:Nat→Bool):Nat→Nat→Nat
 |0,i=>i
 |f+1,i=>if p i then i else Ct.first p f (i+1)
theorem Ct.first_le (p:Nat→Bool):∀f i,i≤Ct.first p f i∧Ct.first p f i≤i+f:=by intro f;induction f with|zero=>(intro i;exact⟨AMi _,AMi _⟩)|succ f ih=>intro i;unfold Ct.first;split;(omega);have:=ih (i+1);omega
theorem Ct.first_no (p:Nat→Bool):∀f i j,i≤j→j<Ct.first p f i→p j=false:=by intro f;induction f with|zero=>(intro i j h1 h2;simp[Ct.first] at h2;omega)|succ f ih=>intro i j h1 h2;unfold Ct.first at h2;split at h2;(omega);rename_i hp;rcases AOs h1 with rfl|h;(simpa using hp);exact ih (i+1) j h h2
theorem Ct.first_yes (p:Nat→Bool):∀f i,Ct.first p f i<i+f→p (Ct.first p f i)=true:=by intro f;induction f with|zero=>(intro i h;simp[Ct.first] at h)|succ f ih=>intro i h;unfold Ct.first at h⊢;split;(assumption);rename_i hp;rw[AMu hp] at h;exact ih (i+1) KA
def Ct.k (a b s:Nat):Nat:=Ct.first (Ct.passes a b s) 641 0
theorem Ct.k_le (a b s:Nat):Ct.k a b s≤641:=by have:=(Ct.first_le (Ct.passes a b s) 641 0).2;unfold Ct.k;omega
theorem Ct.k_no (a b s j:Nat) (h:j<Ct.k a b s):Ct.passes a b s j=false:=Ct.first_no _ 641 0 j (AM4 _) h
theorem Ct.k_yes (a b s:Nat) (h:Ct.k a b s<641):Ct.passes a b s (Ct.k a b s)=true:=Ct.first_yes _ 641 0 (by unfold Ct.k at h;omega)
theorem Ct.passes_more (a b s m n:Nat) (h:m≤n) (hp:Ct.passes a b s m=Yy):Ct.passes a b s n=true:=by unfold Ct.passes at*;rw[AOB] at*;exact⟨hp.1,hp.2.1,AMj hp.2.2 (ANf _ h)⟩
theorem Ct.passes_k (a b s n:Nat) (hn:n<641):Ct.passes a b s n=decide (Ct.k a b s≤n):=by rcases AM7 n (Ct.k a b s) with h|h;(rw[Ct.k_no a b s n h,eq_comm,AOu];omega);rw[Ct.passes_more a b s _ n h (Ct.k_yes a b s KA),eq_comm,AOB];exact h
def Ct.leastN (a b s:Nat):Nat:=if b=0∨a≤b then 0 else if 640<Ct.k a b s then 0 else Ct.k a b s
def Ct.leastE (a b s:Nat):Nat:=if b=0 then 2 else if a≤b then 6 else if 640<Ct.k a b s then 13 else 0
theorem qz {a b c d:Int} (h1:a=b) (h2:c=d):Ending.returned (Ym #[Yg Yj a,Yg Yj c])=Yi (Ym #[Yg Yj b,Yg Yj d]):=by rw[h1,h2]
theorem Xi (a b s:Nat) (w:J) (ha:a<18446744073709551616) (hb:b<18446744073709551616) (hs:s<18446744073709551616):
  Yv Yw 15 #[Yg V a,Yg V b,Yg V s] w fun e w'=>
   e=Yi (Ym #[Yg Yj (Ct.leastN a b s),Yg Yj (Ct.leastE a b s)])∧w=w':=by unfold Ct.leastN Ct.leastE;by_cases h0:b=0;(·rw[AMx (.inl h0),AMx h0];subst h0;go_in;go_wp2;exact AIE);have e0:=AJo;by_cases h1:a≤b;(·rw[AMx (.inr h1),AMu h0,AMx h1];have H1:=AKw;clear h0 ha hb hs;go_in;go_wp2;exact AIE);rw[AMu KA,AMu h0,AMu h1];have H1:=AKU;have C:=sq (fun n (hn:n<641) w=>Ct.passes_k a b s n hn▸Xe a b s n w ha hb hs KA);have hk:=Ct.k_le a b s;clear h0 ha hb hs h1;generalize Ct.k a b s=k at*;go_in;go_wp2_with fail;go_loop [8] (fun n=>∃m:Nat,m≤k∧n=Yg Yj m) (fun n=>641-(intOf n).toNat);(case atStart=>exact⟨0,KA,rfl⟩);case round=>obtain⟨m,hm,rfl⟩:=hrel;by_cases hm2:m<641;(·rcases AM7 m k with h|h;(·have C':=sq (C.o m hm2);rw[ANT KA] at C';go_wp2_with fail;refine (C'.o _).mono ?_;rintro e w1 ⟨rfl,rfl⟩;go_wp2_with fail;go_round;(case rel=>exact⟨m+1,KA,UY⟩);case measure=>simp[intOf];omega);have C':=sq (C.o m hm2);rw[ANV h] at C';go_wp2_with fail;refine (C'.o _).mono ?_;rintro e w1 ⟨rfl,rfl⟩;go_wp2_with fail;go_ret2;exact⟨qz KA rfl,rfl⟩);go_wp2_with fail;go_ret2;exact⟨qz rfl rfl,rfl⟩
open Go Go.RowKit Go.Shelf
def Ca (wts:List Nat):Nat:=Pre (DC wts wts.length) (Ee wts wts.length) wts.length
def KD (tn:Nat) (wts:List Nat):List UInt8:=rootOf (ED tn wts wts.length)
def GR (tn:Nat) (wts:List Nat):List UInt8:=rootOf ((CG tn wts wts.length).map Hm)
def ax (tn s:Nat) (wts:List Nat):List Nat:=Ew (DQ (KD tn wts) (GR tn wts) (Bn tn) (Ca wts) 1 (1+s%6)) (Ca wts) (Ct.leastN (Ca wts) 1 (1+s%6))
def Ka (tn:Nat) (wts:List Nat) (i:Nat):Rv:=⟨i,(Dq tn 1 wts i).L,(Dq tn 1 wts i).i,(Dq tn 1 wts i).lw,(Dq tn 1 wts i).lp,(G5 tn i (wts.getD i 0)).r,(G5 tn i (wts.getD i 0)).w,(G5 tn i (wts.getD i 0)).f,(G5 tn i (wts.getD i 0)).l,(G5 tn i (wts.getD i 0)).k⟩
structure uk (tn s m n:Nat) (wts ps:List Nat):Prop where
 hn:n=wts.length
 h0:0<n
 h3:n≤3
 hm:m=7∨(m=1∧n=1)
 hw:∀x∈wts,x<256
 ht:tn<256
 hs:s<256
 tot:2≤Ca wts
 totl:Ca wts<18446744073709551616
 le:Ct.leastE (Ca wts) 1 (1+s%6)=0
 k0:0<(Ct.leastN (Ca wts) 1 (1+s%6))
 k1:(Ct.leastN (Ca wts) 1 (1+s%6))≤640
 tk:∀i,i<(Ct.leastN (Ca wts) 1 (1+s%6))→J9 (Ca wts) (EM (DQ (KD tn wts) (GR tn wts) (Bn tn) (Ca wts) 1 (1+s%6)) (8*i))
 pl:ps.length=(Ct.leastN (Ca wts) 1 (1+s%6))
 fl:∀j,j<ps.length→OI (DC wts n) (Ee wts n) ((ax tn s wts).getD j 0) (ps.getD j 0) Yy
 ch:0<(AU n ps).length
def gZ (W:J) (tn s n:Nat) (wts ps:List Nat) (e:Ending) (w':J):Prop:=∃(Ar Ac As Ap:Option Addr) (cr cc cs cp:Nat),
 e=Yi (Ym #[Yr #[O (AB (KD tn wts)),Yg V (Ca wts:Nat),.slice Ar (AU n ps).length cr,.slice Ac ps.length cc,.slice As (Am (ED tn wts n) (AU n ps)).length cs,.slice Ap (Am ((CG tn wts n).map Hm) (AU n ps)).length cp],
  Yr #[O (AB (GR tn wts)),Yg V n,O (AB (Bn tn)),Yg V 1,Yg V 1,Yg V (1+s%6:Nat),Yg Yj 640],Yl Yy])∧But [] W w'∧
 oJ w' (.slice Ar (AU n ps).length cr) ((AU n ps).map (Ka tn wts))∧Cy w' (.slice Ac ps.length cc) ps∧Dy w' As (Am (ED tn wts n) (AU n ps))∧Dy w' Ap (Am ((CG tn wts n).map Hm) (AU n ps))∧
 (Am (ED tn wts n) (AU n ps)).length≤cs∧(Am ((CG tn wts n).map Hm) (AU n ps)).length≤cp
theorem Ri (l:List (List UInt8)) (h:∀x∈l,x.length=32) (hl:l.length<65536):(Cz l).length≤3+l.length*1003:=by unfold Cz;split;(simp);have h1:=G8 l.length hl;have h2:=Jv l (fun x hx=>by rw[h x hx];decide) l.length;rw[AMf];omega
theorem Wz (L i:Nat) (lw lp:List (List UInt8)) (hL:L<18446744073709551616) (hi:i<18446744073709551616) (hw:∀x∈lw,x.length=32) (hp:∀x∈lp,x.length=32) (hlw:lw.length≤67) (hlp:lp.length≤16):(Ab (Cf L Yy i lw lp)).length≤100000:=by have h1:=Ri lw hw KA;have h2:=Ri lp hp KA;have h3:=Cr i hi;have h4:=Cr L hL;have h5:=Cr 1 ND;have k1:=Rc ([105],JJ i) ([112],Cz lp) ([118],Cz lw) NC NC NC;have hs:=Gt (Ab (D4 i lw lp));have k2:=Rc ([103],Ex (Ab (D4 i lw lp))) ([108],JJ L) ([115],JJ 1) NC NC NC;have hk1:=Mf (D4 i lw lp);have hk2:=Mf (Cf L Yy i lw lp);(have w1:(Ab (D4 i lw lp)).length≤1+(Mu (D4 i lw lp)).length:=by unfold Ab;rw[Fs _ ACp,AMf];simp);(have w2:(Ab (Cf L Yy i lw lp)).length≤1+(Mu (Cf L Yy i lw lp)).length:=by unfold Ab;rw[Fs _ (by have:(Cf L Yy i lw lp).length=3:=rfl;omega),AMf];simp);have e1:Mu (D4 i lw lp)=Mu [([105],JJ i),([112],Cz lp),([118],Cz lw)]:=rfl;have e2:Mu (Cf L Yy i lw lp)=Mu [([103],Ex (Ab (D4 i lw lp))),([108],JJ L),([115],JJ 1)]:=rfl;rw[e1] at w1;rw[e2] at w2;simp only at k1 k2;omega
theorem y8 {tn s m n:Nat} {wts ps:List Nat} (h:uk tn s m n wts ps) (i:Nat) (hi:i<n):(Dq tn 1 wts i).L<18446744073709551616:=by have h1:=h.totl;have h2:=FP (wts.map (·+1)) (wts.map fun _=>Yy) i wts.length (by have:=h.hn;omega);unfold Ca at h1;rw[show DC wts wts.length=wts.map (·+1) by unfold DC;rw[AOb],show Ee wts wts.length=wts.map (fun _=>Yy) by unfold Ee;rw[AOb]] at h1;exact ANg h2 h1
theorem rQ (tn i:Nat):∀x∈Am (Bj tn i) [(1-1)/5],x.length=32:=fun x hx=>by
 rw[FK _ ACF] at hx;rw[AMh.1 hx];exact Ci _ _ _ _
theorem kW (tn i:Nat):(Am (Bj tn i) [(1-1)/5]).length=1:=by rw[FK _ ACF];rfl
theorem Tu {tn s m n:Nat} {wts ps:List Nat} (h:uk tn s m n wts ps):∀x∈ED tn wts n,x.length≤100000:=fun x hx=>by
 obtain⟨i,hi,rfl⟩:=ANU.1 hx;have hi2:i<n:=ANa.1 hi;exact Wz _ _ _ _ (y8 h i hi2) (by show (1-1)/5<_;decide) (U4 tn i 1) (rQ tn i) (by show (Lt tn i 1).length≤67;rw[H6];exact AMi _) (by show (Am (Bj tn i) [(1-1)/5]).length≤16;rw[kW];decide)
theorem Jn (tn n:Nat) (wts:List Nat):(ED tn wts n).length=n:=by simp[ED]
theorem df {tn:Nat} {wts:List Nat} (h:∀x∈wts,x<256) (n:Nat):∀x∈CG tn wts n,x.ok:=fun x hx=>by
 obtain⟨i,_,rfl⟩:=ANU.1 hx;have hw:wts.getD i 0<256:=by
  rw[AMd];cases e:wts[i]? with
  |none=>decide
  |some y=>exact h y (AMt e)
 refine⟨Ci _ _ _ _,?_,?_,?_,?_,?_⟩
 ·show 1≤wts.getD i 0+1
  omega
 ·show wts.getD i 0+1<_
  omega
 ·show 1<18446744073709551616
  decide
 ·show 5<18446744073709551616
  decide
 ·show 2<18446744073709551616
  decide
theorem iO {tn:Nat} {wts:List Nat} (h:∀x∈wts,x<256) (n:Nat):∀k,Ls (CG tn wts n) k≤256*k
 |0=>by simp[Ls]
 |k+1=>by
  have ih:=iO (tn:=tn) h n k;cases e:(CG tn wts n)[k]? with
  |none=>
   unfold Ls at ih⊢;rw[AMs,e];simp only[Option.toList_none,AM2];omega
  |some x=>
   rw[OT _ _ _ e];obtain⟨i,_,rfl⟩:=ANU.1 (AMt e);have hw:wts.getD i 0<256:=by
    rw[AMd];cases e:wts[i]? with
    |none=>decide
    |some y=>exact h y (AMt e)
   have:(G5 tn i (wts.getD i 0)).w=wts.getD i 0+1:=rfl;omega
theorem DM (tn n:Nat) (wts:List Nat):(CG tn wts n).length=n:=by simp[CG]
theorem qE:∀(l:List Sl) (cs:List (Yu×Yu)) (j k:Nat),l.length=cs.length→j<l.length→k<5→(jt l cs)[j*5+k]?=(Gc (l.getD j Sl0) (cs.getD j (Yx,Yx)))[k]?
 |[],_,j,k,_,hj,_=>by cases hj
 |x::l,[],j,k,h,_,_=>by cases h
 |x::l,c::cs,0,k,h,_,hk=>by
  show (Gc x c++jt l cs)[0*5+k]?=_
  rw[AOo,ANC,ANB (by simpa [Gc] using hk)];rfl
 |x::l,c::cs,j+1,k,h,hj,hk=>by
  show (Gc x c++jt l cs)[(j+1)*5+k]?=_
  have hl:(Gc x c).length=5:=rfl;rw[AM9 (by rw[hl];omega),hl,show (j+1)*5+k-5=j*5+k by omega,qE l cs j k ADx TC hk];rfl
theorem Vg:¬Root 70:=by decide
theorem tN:∃i,Tryz.prog.info? 70=Z i∧i.zero=Z (Yr #[Yg V 0,Yg V 0,Yl Yz,Yg V 0,.slice Y 0 0,.slice Y 0 0,O ⟨#[]⟩,Yg V 0,Yg V 0,Yg V 0,Yg V 0])∧i.size=11∧i.bytes=128:=by have h:=AG1;exact AEm
def zN (tn:Nat) (wts:List Nat) (cs:List (Yu×Yu)) (i:Nat):List Yu:=Yg V i::(Gc (Dq tn 1 wts i) (cs.getD i (Yx,Yx))++IB (G5 tn i (wts.getD i 0)))
def KY (tn:Nat) (wts:List Nat) (cs:List (Yu×Yu)) (l:List Nat):List Yu:=l.flatMap (zN tn wts cs)
theorem O7 (n:Nat) (ps:List Nat):∀x∈AU n ps,x<n:=fun x hx=>by
 have:=(APd.1 hx).1;exact ANa.1 this
theorem pg (tn n:Nat) (wts:List Nat) (i:Nat) (h:i<n):(En tn wts n).getD i Sl0=Dq tn 1 wts i:=by rw[AMd];simp[En,h]
theorem fG (wts:List Nat) (A:Option Addr) (c m s tn n:Nat) (W:J) (hnn:n=wts.length) (hW:uo W A wts) (hc:n≤c) (hn0:0<n) (hn:n≤6) (hw:∀x∈wts,x<256) (ht:tn<256):
  Yv Yw 8 #[Yr #[.slice A n c,Yg Yq m,Yg Yq 0,Yg Yq s,Yg Yq 0,Yg Yq tn]] W fun e w'=>∃(v1 v2:Yu) (bs:List Nat),e=Yi (Ym #[v1,v2])∧bs.length=n∧
   w'.ownsRow W.heap.size 92 1 v1 n (Q7 bs)∧(∀k,k<n→Iu w' (bs.getD k 0) (Bb tn k) 1 5 (Bj tn k))∧w'.ownsRow W.heap.size 64 5 v2 n (iQ (CG tn wts n))∧But [] W w':=by subst hnn;exact Vk wts A c m 0 s 0 tn W hW hc hn0 hn hw ht
theorem lY (wts:List Nat) (A:Option Addr) (n c m s tn:Nat) (v1 v2:Yu) (bs:List Nat) (W:J) (hnn:n=wts.length) (hn0:0<n) (hn:n≤3) (hm:m=7∨(m=1∧n=1)) (hw:∀x∈wts,x<256) (ht:tn<256)
  (hL:W.ownsRow 0 92 1 v1 n (Q7 bs)) (hbs:bs.length=n) (hLa:∀k,k<n→Iu W (bs.getD k 0) (Bb tn k) 1 5 (Bj tn k)) (hP:W.ownsRow 0 64 5 v2 n (iQ (CG tn wts n))):
  Yv Yw 9 #[Yr #[.slice A n c,Yg Yq m,Yg Yq 0,Yg Yq s,Yg Yq 0,Yg Yq tn],v1,v2] W fun e w'=>yh W n tn wts e w':=
 aJ wts A n c m 0 s 0 tn v1 v2 bs W hnn hn0 hn hm hw ht ND ND hL hbs hLa hP
section
variable {P:Program} {ops:Array Oper} {Q:Exit→Act→J→Prop} {md:Region.Mode} {B:List Nat}
theorem FQ.move {o:Oper} {v:Yu} {a:Act} {w0 w:J} {x:Operand} (ho:o.op=.move x) (h:FQ P ops o v a w0):FQ P ops o v a w:=by have key:∃r:Result Next→Bool,True:=⟨fun _=>Yy,trivial⟩;(have run:∀w1,(execOp a.eval o).run P w1=.ok (.value (a.eval x)) w1:=fun w1=>by unfold execOp;rw[ho];rfl);rcases h with⟨h1,h2⟩|h;(refine .inl ⟨h1,fun w1 _=>?_⟩;have h3:=h2 w0 (AP0 _);rw[run] at h3⊢;exact⟨h3.1,AP0 _⟩);exact .inr h
theorem WZ {i:Nat} {oi:Oper} {v:Yu} {x:Operand} (hi:ops[i]?=Z oi) (ho:oi.op=.move x) (hsel:Region.noSelect ops=Yy)
  (hQ:∀c a w,Q (.panic c) (a.put oi.dst v) w→Q (.panic c) a w):
  ∀(fuel:Nat) (listed:Array Bool) (a:Act) (w:J),
   (∀j oj,ops[j]?=Z oj→j≠i→listed.getD j Yy=Yz→(∀e∈oj.after,Region.binds md e=Yy→e.on≠i)→oi.apart ops oj=Yy)→
   i∈Region.ready md ops listed→FQ P ops oi v a w→
   Bf P md ops Q B fuel (listed.setIfInBounds i Yy) (a.put oi.dst v) w→Bf P md ops Q B (fuel+1) listed a w:=by have hsel:=AN8 hsel;intro fuel;induction fuel with|zero=>exact AFA|succ fuel ih=>intro listed a w hfree hr hy H;refine⟨fun h=>UF,fun j hj w1 hl=>?_⟩;by_cases hji:j=i;(exact AG0);have h1:=AHl;obtain⟨hjun,oj,hoj,hall⟩:=AOn.1 hj;obtain⟨hun,hnot⟩:=AES;have h2:=AFz;refine APH (fun a' w' h3=>?_) h2;refine⟨h3.2.1,ih (listed.setIfInBounds j Yy) a' w' (fun k ok hk hki hku hno=>?_) (AOr hr (AOP hji)) (FQ.move ho h3.1) ?_⟩;(exact AE0);exact AGR
theorem Mx {i:Nat} {oi:Oper} {v:Yu} {x:Operand} {fuel:Nat} {listed:Array Bool} {a:Act} {w:J} (hi:ops[i]?=Z oi) (ho:oi.op=.move x)
  (hs:Region.noSelect ops=Yy) (hf:Region.free md ops listed i=Yy) (hr:(Region.ready md ops listed).contains i=Yy)
  (hQ:∀c a w,Q (.panic c) (a.put oi.dst v) w→Q (.panic c) a w) (hy:FQ P ops oi v a w)
  (h:Bf P md ops Q B fuel (listed.setIfInBounds i Yy) (a.put oi.dst v) w):Bf P md ops Q B (fuel+1) listed a w:=
 WZ hi ho hs hQ fuel listed a w (AOY hi hf) AAc hy h
theorem WX {i:Nat} {o:Oper} {fuel:Nat} {listed:Array Bool} {a:Act} {w:J} {f:J→J} (hi:ops[i]?=Z o)
  (hr:Region.ready md ops listed=[i]) (hB:B.contains i=Yy) (hw:Region.wanted o (yielded ops a.tmps)=Yy)
  (h:∀w1,Later w w1→(execOp a.eval o).run P w1=.ok .skip (f w1))
  (hk:∀w1,Later w w1→Bf P md ops Q B fuel (listed.setIfInBounds i Yy) (a.put o.dst Yx) (f w1)):Bf P md ops Q B (fuel+1) listed a w:=by refine DF hr fun w1 hl=>?_;exact AGI
end
def GK (W:J) (g:Nat) (seed:List UInt8) (p:Nat):Prop:=∃bl:List UInt8,AJ W g #[O (AB seed),Yg V p,O (AB bl),Yg V 0] 256∧(bl=[]∨bl=Ed seed 0)
theorem GK.but {W W':J} {g:Nat} {seed:List UInt8} {p:Nat} (h:GK W g seed p) (hb:But [] W W'):GK W' g seed p:=by obtain⟨bl,h1,h2⟩:=h;exact⟨bl,h1.but hb NC,h2⟩
theorem GK.lt {W:J} {g:Nat} {seed:List UInt8} {p:Nat} (h:GK W g seed p):g<W.heap.size:=by obtain⟨bl,h1,h2⟩:=h;exact h1.lt
theorem kX (seed:List UInt8) (g p:Nat) (W:J) (hs:seed.length=32) (h:GK W g seed p) (hp:p<32):
  Yv Yw 317 #[U g] W fun e w'=>e=Yi (Yg Yq ((Gv seed p).toNat:Nat))∧GK w' g seed (p+1)∧But [g] W w':=by
 obtain⟨bl,hx,hbl'⟩:=h;(have q32:∀ty,binOp .quo ty (Yg V (p:Int)) (Yg V 32)=pure (Yg V 0):=fun ty=>by have:=QP ty p 32 ND KA;rw[show p/32=0 by omega] at this;exact this);(have r32:∀ty,binOp .rem ty (Yg V (p:Int)) (Yg V 32)=pure (Yg V (p:Int)):=fun ty=>by have:=Gf ty p 32 ND ND;rw[show p%32=p by omega] at this;exact this);have c0:W.cell? g=Z (O (AB seed)):=hx.cell 0 rfl;have c1:W.cell? ⟨g,1,Y⟩=Z (Yg V p):=hx.cell 1 rfl;have c2:W.cell? ⟨g,2,Y⟩=Z (O (AB bl)):=hx.cell 2 rfl;have c3:W.cell? ⟨g,3,Y⟩=Z (Yg V 0):=hx.cell 3 rfl;have lg:=hx.lt;have HX:=sq hx;have HP:=sq (AMc hs hp);obtain⟨p1,hp1⟩:∃q,q=p+1:=⟨_,rfl⟩;obtain⟨z,hz⟩:∃q,q=(Gv seed p).toNat:=⟨_,rfl⟩;rw[←hp1,←hz];(have wa:IntKind.u64.wrap ((p:Int)+1)=(p1:Int):=by rw[hp1];show ((p:Int)+1)%18446744073709551616=_;omega);have HP1:=sq (AMc hp1 hz);have hpn:=HP.o.2;clear hs hx hp1 hz hp;go_in;by_cases hb0:bl=[]
 ·subst hb0;have hem:(AB []).toList=[]:=De [];rw[show AB []=⟨#[]⟩ from rfl] at c2;go_upto_region 3 with fail;obtain⟨bl2,hbl2⟩:∃bl,bl=Ed seed 0:=⟨_,rfl⟩
  have HH:=sq (fun (h0:Nat) (W1:J) (X:AJ W1 h0 #[O (AB seed),O (AB (AV 0))] 9)=>JM [115,116,114,101,97,109] [seed,AV 0] (Z ⟨h0,0,Y⟩) 2 2 W1 rfl ND ND (fun j hj=>by
   have:j=0∨j=1:=YC
   rcases this with rfl|rfl
   ·exact⟨_,_,rfl,X.cell 0 rfl⟩
   ·exact⟨_,_,rfl,X.cell 1 rfl⟩) (by rw[Dk];simp[Ah,HP.o.1]) NC)
  rw[show Aa [115,116,114,101,97,109] [seed,AV 0]=bl2 by rw[hbl2];rfl,show AB [115,116,114,101,97,109]=⟨#[115,116,114,101,97,109]⟩ from rfl] at HH;have HNN:=sq (fun W1=>(Nw 0 KA W1));have XG:=sq (show AJ W g #[O (AB seed),Yg V p,O ⟨#[]⟩,Yg V 0] 256 from HX.o);obtain⟨sd,hsd⟩:∃sd,sd=AB seed:=⟨_,rfl⟩;rw[←hsd] at XG HH c0;have HBLS:=sq hbl2;have HSD:=sq hsd;clear hsd hbl2;generalize AB (AV 0)=bq at*;generalize hms:AB bl2=ms at*;have HMS:=sq hms;clear hms;refine AX NA [13,16] ?_;refine AY 0 ?_;refine Mx (i:=1) (v:=?_) rfl rfl NA NA NA (fun _ _ _ h=>h) (Fv PE ?_) ?_;rotate_left;(exact AEV);refine tz ?_;refine AY 2 ?_;refine AY 3 (h:=QE) ?_;refine AY 4 ?_;refine AY 5 (h:=QE) ?_;refine AY 6 ?_;refine Eb 7 (fun W1 hl=>(HNN.o W1).mono fun e w' h=>⟨h.1,h.2.later⟩) ?_;refine Mx (i:=10) (v:=?_) rfl rfl NA NA NA (fun _ _ _ h=>h) (Fv PE ?_) ?_;rotate_left;(exact AEV);refine tz ?_;refine EP (i:=8) (ob:=Yk #[.string sd,.string bq] 9) (fun n=>Yh (n:Nat) 2 2) rfl NA PE ?_ ?_;(exact AEV);intro W2 hl2;refine tz ?_;have X2:=sq (APw W2 #[.string sd,.string bq] 9);have L2:=sq (((APy W).trans hl2).trans (AP6 W2 (Yk #[.string sd,.string bq] 9)));have hb2:=hl2;clear hl2;generalize W2.heap.size=g1 at*;generalize W2.alloc (Yk #[.string sd,.string bq] 9)=W3 at*;refine Eb 9 (fun W1 hl=>(HH.o g1 W1 (X2.o.later hl)).mono fun e w' h=>⟨h.1,h.2.later⟩) ?_;refine EO (i:=11) (v:=?_) rfl NA PE ?_ ?_;rotate_left;(·(intro W1 hl;have lg:=(XG.o.later (L2.o.trans hl)).lt;go_simp<;>with_reducible rfl));refine tz ?_;refine EO (i:=12) (v:=?_) rfl NA PE ?_ ?_;rotate_left;(exact AEV);refine tz ?_;refine WX (i:=13) (f:=fun W1=>W1.setCell ⟨g,2,Y⟩ (.string ms)) rfl NA PE PE ?_ ?_;(·(intro W1 hl;have X0:=XG.o.later (L2.o.trans hl);have c2:=X0.cell 2 rfl;have f2:=X0.frozen 2;have lg:=X0.lt;clear X0;go_simp<;>with_reducible rfl));intro W4 hl4;refine tz ?_;have X4:=sq (AP3 (XG.o.later (L2.o.trans hl4)) 2 (.string ms));have B4:Shut (But [g] W W4):=⟨(APv (L2.o.trans hl4)).nil⟩;clear hl4;refine EO (i:=14) (v:=?_) rfl NA PE ?_ ?_;rotate_left;(·(intro W1 hl;have X0:=X4.o.later hl;have lg:=X0.lt;clear X0;go_simp<;>with_reducible rfl));refine tz ?_;refine EO (i:=15) (v:=?_) rfl NA PE ?_ ?_;rotate_left;(exact AEV);refine tz ?_;refine DJ (i:=16) (f:=?_) rfl NA NA NA PE ?_ ?_;rotate_left;(·(intro W1 hl;have X0:=X4.o.later hl;have c3:=X0.cell 3 rfl;have f3:=X0.frozen 3;have lg:=X0.lt;clear X0;go_simp<;>with_reducible rfl));intro W5 W6 hl5 hl6;refine tz ?_;have X6:=sq (show AJ W6 g #[.string sd,Yg V p,.string ms,Yg V 0] 256 from (AP3 (X4.o.later hl5) 3 (Yg V 0)).later hl6);have B6:Shut (But [g] W W6):=⟨((B4.o.setCell (p:=⟨g,2,Y⟩) (Or.inl NC) (.string ms)).trans (APv hl5).nil).setCell (p:=⟨g,3,Y⟩) (Or.inl NC) (Yg V 0) |>.trans (APv hl6).nil⟩;clear hl5 hl6 B4 X4 L2 X2 XG HX HH HNN c0 c1 c2 c3 lg q32 hem hbl';have hbl:=HBLS.o;have hll:bl2.length=32:=ADQ;have IX:=fun w=>Et bl2 p (by rw[hll];exact HP.o.2) w;rw[HMS.o] at IX;have HZ:Shut ((bl2.getD p 0).toNat=(Gv seed p).toNat):=⟨ZV⟩;rw[HZ.o,←HP1.o.2] at IX;have c1:W6.cell? ⟨g,1,Y⟩=Z (Yg V p):=X6.o.cell 1 rfl;have c2:W6.cell? ⟨g,2,Y⟩=Z (.string ms):=X6.o.cell 2 rfl;have f1:W6.frozen? ⟨g,1,Y⟩=false:=X6.o.frozen 1;have lg:g<W6.heap.size:=X6.o.lt;have HF:Shut (∀w',AJ w' g #[.string sd,Yg V p1,.string ms,Yg V 0] 256→GK w' g seed p1):=⟨fun w' h=>⟨bl2,by rw[←HSD.o,HMS.o];exact h,Or.inr hbl⟩⟩;clear hbl hll HZ hpn;go_upto_region 4 with fail;go_quiet (fail);go_wp2_with fail;go_ret;exact⟨rfl,HF.o _ (AP3 X6.o 1 (Yg V p1)),(B6.o.trans (APv (AO7 (ANF _ _) nq)).nil).setCell (p:=⟨g,1,Y⟩) (Or.inl NC) (Yg V p1)⟩
 have hbl:bl=Ed seed 0:=hbl'.resolve_left hb0;have hll:bl.length=32:=ADQ;have IX:=fun w=>Et bl p (by rw[hll];exact hpn) w;have HZ:Shut ((bl.getD p 0).toNat=(Gv seed p).toNat):=⟨ZV⟩;rw[HZ.o,←HP1.o.2] at IX;(have hne:AB bl≠⟨#[]⟩:=fun h=>by have h2:=AQ bl;rw[h,hll] at h2;cases h2);(have hne2:¬(AB bl).toList=[]:=by rw[De];exact hb0);(have hne3:(AB bl).toList.isEmpty=false:=by rw[APO];exact hne2);have HF:Shut (∀w',AJ w' g #[O (AB seed),Yg V p1,O (AB bl),Yg V 0] 256→GK w' g seed p1):=⟨fun w' h=>⟨bl,h,Or.inr hbl⟩⟩;generalize AB bl=ms at*;generalize AB seed=sd at*;have f1:W.frozen? ⟨g,1,Y⟩=false:=HX.o.frozen 1;have B0:=sq (APu [g] W);clear hb0 hbl hbl' hll HZ hpn;go_upto_region 4 with fail;go_quiet (fail);go_wp2_with fail;go_ret;exact⟨rfl,HF.o _ (AP3 HX.o 1 (Yg V p1)),(B0.o.trans (APv (AO7 (ANF _ _) nq)).nil).setCell (p:=⟨g,1,Y⟩) (Or.inl NC) (Yg V p1)⟩
open Go Go.RowKit
section
variable {P:Program} {ops:Array Oper} {Q:Exit→Act→J→Prop} {md:Region.Mode} {B:List Nat}
theorem FQ.extract {o:Oper} {v:Yu} {a:Act} {w0 w:J} {x:Operand} {i:Nat} (ho:o.op=.extract x i) (h:FQ P ops o v a w0):FQ P ops o v a w:=by rcases h with⟨h1,h2⟩|h;(refine .inl ⟨h1,fun w1 _=>?_⟩;have h3:=h2 w0 (AP0 _);unfold execOp at h3⊢;rw[ho] at h3⊢;dsimp only at h3⊢;generalize a.eval x=u at*;unfold Instr.extract at h3⊢;cases u with|tuple vs=>(cases hv:vs[i]? with|none=>simp only[hv] at h3;exact h3.elim|some y=>simp only[hv] at h3⊢;have h4:y=v∧Later w0 w0:=h3;exact (show y=v∧Later w1 w1 from ⟨h4.1,AP0 _⟩))|_=>exact h3.elim);exact .inr h
theorem WY {i:Nat} {oi:Oper} {v:Yu} {x:Operand} {ix:Nat} (hi:ops[i]?=Z oi) (ho:oi.op=.extract x ix) (hsel:Region.noSelect ops=Yy)
  (hQ:∀c a w,Q (.panic c) (a.put oi.dst v) w→Q (.panic c) a w):
  ∀(fuel:Nat) (listed:Array Bool) (a:Act) (w:J),
   (∀j oj,ops[j]?=Z oj→j≠i→listed.getD j Yy=Yz→(∀e∈oj.after,Region.binds md e=Yy→e.on≠i)→oi.apart ops oj=Yy)→
   i∈Region.ready md ops listed→FQ P ops oi v a w→
   Bf P md ops Q B fuel (listed.setIfInBounds i Yy) (a.put oi.dst v) w→Bf P md ops Q B (fuel+1) listed a w:=by have hsel:=AN8 hsel;intro fuel;induction fuel with|zero=>exact AFA|succ fuel ih=>intro listed a w hfree hr hy H;refine⟨fun h=>UF,fun j hj w1 hl=>?_⟩;by_cases hji:j=i;(exact AG0);have h1:=AHl;obtain⟨hjun,oj,hoj,hall⟩:=AOn.1 hj;obtain⟨hun,hnot⟩:=AES;have h2:=AFz;refine APH (fun a' w' h3=>?_) h2;refine⟨h3.2.1,ih (listed.setIfInBounds j Yy) a' w' (fun k ok hk hki hku hno=>?_) (AOr hr (AOP hji)) (FQ.extract ho h3.1) ?_⟩;(exact AE0);exact AGR
theorem Un {i:Nat} {oi:Oper} {v:Yu} {x:Operand} {ix:Nat} {fuel:Nat} {listed:Array Bool} {a:Act} {w:J} (hi:ops[i]?=Z oi) (ho:oi.op=.extract x ix)
  (hs:Region.noSelect ops=Yy) (hf:Region.free md ops listed i=Yy) (hr:(Region.ready md ops listed).contains i=Yy)
  (hQ:∀c a w,Q (.panic c) (a.put oi.dst v) w→Q (.panic c) a w) (hy:FQ P ops oi v a w)
  (h:Bf P md ops Q B fuel (listed.setIfInBounds i Yy) (a.put oi.dst v) w):Bf P md ops Q B (fuel+1) listed a w:=
 WY hi ho hs hQ fuel listed a w (AOY hi hf) AAc hy h
end
section
variable {P:Program} {ops:Array Oper} {Q:Exit→Act→J→Prop} {md:Region.Mode} {B:List Nat}
theorem Qd {i:Nat} {o:Oper} {fuel:Nat} {listed:Array Bool} {a:Act} {w:J} (hi:ops[i]?=Z o)
  (hr:Region.ready md ops listed=[i]) (hB:B.contains i=Yy) (hw:Region.wanted o (yielded ops a.tmps)=Yy)
  (ty:TypeId) (x y:Operand) (ho:o.op=.store ty x y) (g:Nat) (cells:Array Yu) (hx:a.eval x=U g) (hy:a.eval y=Yr cells)
  (t:TypeId) (old:Array Yu) (hs:(P.info? ty).map (·.size)=Z cells.size) (hold:old.size=cells.size) (h1:cells.all (·.oneCell')=Yy)
  (hg:∀w1,Later w w1→w1.heap[g]?=Z (.cells old t (0,0)))
  (hk:∀w1,Later w w1→Bf P md ops Q B fuel (listed.setIfInBounds i Yy) (a.put o.dst Yx) (w1.setRow g cells)):Bf P md ops Q B (fuel+1) listed a w:=by refine DF hr fun w1 hl=>?_;unfold Go.wpOp;simp only[hi,hw,if_true];exact .inl (APp ty x y ho g cells hx hy t old (hg w1 hl) hs hold h1 ⟨fun hn=>absurd Zk hn,hk w1 hl⟩)
end
section
variable {P:Program} {ops:Array Oper} {Q:Exit→Act→J→Prop} {md:Region.Mode} {B:List Nat}
theorem aa {o:Oper} {a:Act} {w:J} {t:TypeId} {x y z:Operand} {v0 v1 v2:Yu} {cells:Array Yu} (ho:o.op=.build t #[(0,x),(1,y),(2,z)]) (hx:a.eval x=v0) (hy:a.eval y=v1) (hz:a.eval z=v2)
  (hc:P.built t [(0,v0),(1,v1),(2,v2)]=Z cells):(execOp a.eval o).run P w=.ok (.value (Yr cells)) w:=by (have h:P.built t ((#[(0,x),(1,y),(2,z)]:Array (Nat×Operand)).map fun (i,x)=>(i,a.eval x)).toList=Z cells:=by simp[hx,hy,hz,hc]);unfold execOp;simp only[ho,APD,run_build w t _ cells h,Result.andThen_ok];rfl
theorem aZ {o:Oper} {a:Act} {w:J} {t:TypeId} {x:Operand} {v:Yu} {ob:Obj} (ho:o.op=.buildSlice t 1 #[(0,x)]) (hx:a.eval x=v) (hr:(Instr.buildSlice t 1 #[(0,v)]).run P w=.ok (Yh w.heap.size 1 1) (w.alloc ob)):
  (execOp a.eval o).run P w=.ok (.value (Yh w.heap.size 1 1)) (w.alloc ob):=by have h:(#[(0,x)]:Array (Nat×Operand)).map (fun (i,x)=>(i,a.eval x))=#[(0,v)]:=AEI;unfold execOp;simp only[ho,h,APD,hr,Result.andThen_ok];rfl
theorem jR {l i:Nat} {ol oi:Oper} {v:Yu} {fuel:Nat} {listed:Array Bool} {a a2:Act} {w:J} (hl:ops[l]?=Z ol) (hi:ops[i]?=Z oi) (ha2:a.put ol.dst v=a2)
  (r0:Region.ready md ops listed=[l,i]) (rl:Region.ready md ops (listed.setIfInBounds l Yy)=[i]) (ri:Region.ready md ops (listed.setIfInBounds i Yy)=[l]) (hc:(listed.setIfInBounds l Yy).setIfInBounds i Yy=(listed.setIfInBounds i Yy).setIfInBounds l Yy)
  (hBi:B.contains i=Yy) (hwl:Region.wanted ol (yielded ops a.tmps)=Yy) (hwi:Region.wanted oi (yielded ops a.tmps)=Yy) (hwi2:Region.wanted oi (yielded ops a2.tmps)=Yy) (hdi:oi.dst=Y)
  (ti:TypeId) (xi yi:Operand) (hoi:oi.op=.store ti xi yi) (gi:Nat) (ci:Array Yu) (hxi:a.eval xi=U gi) (hyi:a.eval yi=Yr ci) (hxi2:a2.eval xi=U gi) (hyi2:a2.eval yi=Yr ci)
  (tti:TypeId) (oldi:Array Yu) (hsi:(P.info? ti).map (·.size)=Z ci.size) (hoi2:oldi.size=ci.size) (h1i:ci.all (·.oneCell')=Yy) (hgi:AJ w gi oldi tti) (hv:∀w1,But [gi] w w1→(execOp a.eval ol).run P w1=.ok (.value v) w1)
  (hn:∀w',AJ w' gi ci tti→But [gi] w w'→Bf P md ops Q B fuel ((listed.setIfInBounds l Yy).setIfInBounds i Yy) a2 w'):Bf P md ops Q B (fuel+2) listed a w:=by have hp:∀(b:Act),b.put Y Yx=b:=fun _=>rfl;have bs:∀{w1:J},Later w w1→But [gi] w (w1.setRow gi ci):=fun hl1=>((APv hl1).nil (L:=[gi])).setRowIn ci NC (fun cs t hb=>by have:=hgi.later hl1;unfold AJ at this hb;rw[this] at hb;cases hb;exact hoi2.symm);refine⟨fun e=>(by rw[r0] at e;cases e),fun j hj w1 hl1=>?_⟩;rw[r0] at hj;rcases AM1.1 hj with rfl|hj;(unfold Go.wpOp;simp only[hl,hwl,if_true,Oper.wp,hv w1 (APv hl1).nil,Oper.upon];refine .inl ⟨fun _=>AP0 _,?_⟩;rw[ha2];refine DF rl fun w2 hl2=>?_;unfold Go.wpOp;simp only[hi,hwi2,if_true];refine .inl (APp ti xi yi hoi gi ci hxi2 hyi2 tti oldi ((hgi.later hl1).later hl2) hsi hoi2 h1i ⟨fun hn=>absurd (by simpa using hBi) hn,?_⟩);rw[hdi,hp];exact hn _ (AJ.setRow ((hgi.later hl1).later hl2) ci) (bs (Later.trans hl1 hl2)));obtain rfl:j=i:=TC;unfold Go.wpOp;simp only[hi,hwi,if_true];refine .inl (APp ti xi yi hoi gi ci hxi hyi tti oldi (hgi.later hl1) hsi hoi2 h1i ⟨fun hn=>absurd (by simpa using hBi) hn,?_⟩);rw[hdi,hp];refine DF ri fun w2 hl2=>?_;unfold Go.wpOp;simp only[hl,hwl,if_true,Oper.wp,hv w2 ((bs hl1).trans (APv hl2).nil),Oper.upon];refine .inl ⟨fun _=>AP0 _,?_⟩;rw[ha2,←hc];exact hn _ ((AJ.setRow (hgi.later hl1) ci).later hl2) ((bs hl1).trans (APv hl2).nil)
end
theorem nZ (i sL si ptw ptf ptl ptk:Int) (b:Bool) (cwv cpv:Yu) (ptr:ByteArray):Tryz.prog.built 70 [(0,Yg V i),(1,Yr #[Yg V sL,Yl b,Yg V si,cwv,cpv]),(2,Yr #[.string ptr,Yg V ptw,Yg V ptf,Yg V ptl,Yg V ptk])]=Z #[Yg V i,Yg V sL,Yl b,Yg V si,cwv,cpv,.string ptr,Yg V ptw,Yg V ptf,Yg V ptl,Yg V ptk]:=by kernel_rfl
theorem cO (i sL si ptw ptf ptl ptk:Int) (b:Bool) (cwv cpv:Yu) (ptr:ByteArray) (w:J):(Instr.buildSlice 23 1 #[(0,Yr #[Yg V i,Yg V sL,Yl b,Yg V si,cwv,cpv,.string ptr,Yg V ptw,Yg V ptf,Yg V ptl,Yg V ptk])]).run Yw w=.ok (Yh w.heap.size 1 1) (w.alloc (Yk #[Yg V i,Yg V sL,Yl b,Yg V si,cwv,cpv,.string ptr,Yg V ptw,Yg V ptf,Yg V ptl,Yg V ptk] 70)):=by kernel_rfl
theorem U8 (tn:Nat) (wts:List Nat) (cs:List (Yu×Yu)) (i:Nat):(zN tn wts cs i).length=11:=rfl
theorem XZ (tn:Nat) (wts:List Nat) (cs:List (Yu×Yu)):∀(l:List Nat) (j k:Nat),j<l.length→k<11→(KY tn wts cs l)[j*11+k]?=(zN tn wts cs (l.getD j 0))[k]?
 |[],j,k,hj,_=>by cases hj
 |x::l,0,k,_,hk=>by
  show (zN tn wts cs x++KY tn wts cs l)[0*11+k]?=_
  rw[AOo,ANC,ANB (by rw[U8];exact hk)];rfl
 |x::l,j+1,k,hj,hk=>by
  show (zN tn wts cs x++KY tn wts cs l)[(j+1)*11+k]?=_
  rw[AM9 (by rw[U8];omega),U8,show (j+1)*11+k-11=j*11+k by omega,XZ tn wts cs l j k (by simpa using hj) hk];rfl
def um (W:J) (c:Yu×Yu) (x:Sl):Prop:=∃Aw cw Ap cp,c=(.slice Aw x.lw.length cw,.slice Ap x.lp.length cp)∧x.lw.length≤cw∧x.lp.length≤cp∧Dy W Aw x.lw∧Dy W Ap x.lp
theorem J5.at {W:J} {base:Nat}:∀{l:List Sl} {cs:List (Yu×Yu)},J5 W base l cs→∀j,j<l.length→um W (cs.getD j (Yx,Yx)) (l.getD j Sl0)
 |[],[],_,j,hj=>by cases hj
 |x::l,c::cs,h,0,_=>by
  obtain⟨A1,c1,e1,l1,t1,_⟩:=DT h.1.1;obtain⟨A2,c2,e2,l2,t2,_⟩:=DT h.1.2;exact⟨A1,c1,A2,c2,by show c=_;rw[show c=(c.1,c.2) from rfl,e1,e2];rfl,l1,l2,t1,t2⟩
 |x::l,c::cs,h,j+1,hj=>J5.at h.2 j TC
theorem vW {W:J} {b n tn:Nat} {wts l:List Nat} {cs:List (Yu×Yu)} {v:Yu} (h:W.ownsRow b 70 11 v n (KY tn wts cs l)) (hn:n=l.length) (h0:0<n)
  (hs:∀i∈l,um W (cs.getD i (Yx,Yx)) (Dq tn 1 wts i)):∃A c,v=.slice A n c∧oJ W v (l.map (Ka tn wts)):=by obtain⟨g,cap,cur,rfl,hc,_,_,hcell⟩:=FW h h0;subst hn;refine⟨_,_,rfl,Z ⟨g,0,Y⟩,cap,by rw[AM8],by rw[AM8];exact hc,fun j hj=>?_⟩;rw[AM8] at hj;obtain⟨Aw,cw,Ap,cp,e,l1,l2,t1,t2⟩:=hs (l.getD j 0) (by rw[AMd,AMe hj];exact ANZ _);(have hd:(l.map (Ka tn wts)).getD j ⟨0,0,0,[],[],[],0,0,0,0⟩=Ka tn wts (l.getD j 0):=by rw[AMd,AMd,ANI,AMe hj];rfl);rw[hd];refine⟨g,0,Aw,cw,Ap,cp,rfl,fun k hk=>?_,t1,t2,l1,l2⟩;rw[ANC,hcell (j*11+k) KA,XZ tn wts cs l j k hj hk];unfold zN;rw[e];match k,hk with|0,_|1,_|2,_|3,_|4,_|5,_|6,_|7,_|8,_|9,_|10,_=>rfl
theorem Ck {a b:J} {base n sz:Nat} {e:TypeId} {v:Yu} {xs:List Yu} {L:List Nat} (h:a.ownsRow base e sz v n xs) (hb:But L a b) (hL:∀k∈L,∃cs t,AJ a k cs t∧t≠e):b.ownsRow base e sz v n xs:=
 AA h hb (fun k hk e'=>by
  obtain⟨cs,t,hB,ht⟩:=hL k hk;exact Al h hB ht (by rw[e'];simp))
theorem J5.far {W W':J} {base:Nat} {L:List Nat} {l:List Sl} {cs:List (Yu×Yu)} (h:J5 W base l cs) (hb:But L W W') (hL:∀k∈L,∃cs0 t,AJ W k cs0 t∧t≠9):J5 W' base l cs:=
 J5.but hb h (fun c hc k hk=>by
  obtain⟨cs0,t,hB,ht⟩:=hL k hk;exact J5.kind hB ht h c hc)
theorem N0 (n:Nat) (ps:List Nat):SG n (AU n ps):=fun i hi=>by
 have hp:(AU n ps).Pairwise (·<·):=List.Pairwise.filter _ List.pairwise_lt_range;refine⟨O7 n ps _ (by rw[AMd,AMe hi];exact ANZ _),fun h0=>?_⟩;have h:=List.pairwise_iff_getElem.1 hp (i-1) i KA hi KA;rw[AMd,AMd,AMe hi,AMe KA];exact h
theorem kT (y:Pt) (h:y.ok):(Hm y).length≤1000:=Ji _ _ _ _ _ h.1 h.2.2.1 h.2.2.2.1 h.2.2.2.2.1 h.2.2.2.2.2
theorem MO (n:Nat) (ps:List Nat):(AU n ps).length≤n:=by unfold AU;exact AMj (AO3 _ _) NC
end Go.Proofs.YtiapejgiinidhaaGreatDoor
