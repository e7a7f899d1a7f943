import Derived.Test.YtiapejgiinidhaaGreatDoorMM04
import Derived.Maps.Own
import Derived.Maps.Views
import Derived.Maps.Keyed
import Derived.StringKeys
import Derived.OwnWalk
import Derived.LaidEql
import Derived.Stop.Asserts
import Derived.RowKitTokens
set_option linter.all false
set_option maxRecDepth 100000
set_option maxHeartbeats 40000000
namespace Go.Proofs.YtiapejgiinidhaaGreatDoor
open Value renaming int→Yg,pointer→U,string→O,func→G,slice→Yh,bool→Yl,nilIface→Yn,iface→Yo,nilFunc→Yp,agg→Yr
open IntKind renaming u64→V,i64→Yj
open Obj renaming cells→Yk
open Ending renaming returned→Yi
open Fn renaming func→M
open Go renaming World→J,Value→Yu,Calls→Yv,undef→Yx
open Go.Proofs.Tryz renaming prog→Yw
open Option renaming some→Z,none→Y
open Bool renaming true→Yy,false→Yz
open Go Go.RowKit
def IR (l:List UInt8):Option (List UInt8×List UInt8):=
 match GY MR 10240 l with
 |some (x,r)=>if x.length=32 then Z (x,r) else Y
 |none=>Y
def ML (m:Nat) (l:List UInt8):Option (Nat×List UInt8):=
 match FO Ij 10240 l with
 |some (n,r)=>if n≤m then Z (n,r) else Y
 |none=>Y
def ui {α:Type} (f:α→Yu) (B gR g:Nat) (S:List UInt8) (W:J) (o:Option (α×List UInt8)) (e:Ending) (w':J):Prop:=
 But [g] W w'∧match o with
 |some (x,rest)=>e=Yi (f x)∧RS B gR g S w' rest
 |none=>∃p,e=stopped p
theorem VZ {B gR g:Nat} {S rest:List UInt8} {W:J} (h:RS B gR g S W rest):
  Yv Yw 221 #[U gR] W fun e w'=>ui I6 B gR g S W (IR rest) e w':=by have r0:=AJZ;have HN:=sq (AAS h);have H:=sq h;clear h;go_in;go_wp2_with fail;refine HN.o.mono ?_;rcases ho:GY MR 10240 rest with _|⟨x,r⟩;(·rintro e w1 ⟨⟨_,⟨p,rfl⟩,rfl⟩,hb⟩;go_wp2_with fail;refine (I4 (O ⟨#[]⟩) p _).mono ?_;rintro e w2 ⟨rfl,rfl⟩;go_wp2_with fail;refine⟨rfl,hb.nil,?_⟩;simp only[IR,ho];exact⟨p,rfl⟩);rintro e w1 ⟨rfl,hr,hb⟩;have HR:=sq (H.o.step hb hr (iD ho));clear hr;go_wp2_with fail;refine (J8 (I6 x) _).mono ?_;rintro e w2 ⟨rfl,rfl⟩;have hsz:((AB x).size:Int)=(x.length:Int):=Zl;by_cases h32:x.length=32;(·have h32':((x.length:Int)=32):=KA;simp only[I6];go_wp2_with fail;refine (Kg 5 _).mono ?_;rintro e w3 ⟨rfl,rfl⟩;go_wp2_with fail;go_ret;refine⟨hb,?_⟩;simp only[IR,ho];rw[AMx h32];exact⟨rfl,HR.o⟩);have h32':((x.length:Int)==32)=false:=PK;simp only[I6];go_wp2_with fail;refine (Lb 5 _).mono ?_;rintro e w3 ⟨⟨p,rfl⟩,hb3⟩;go_wp2_with fail;refine⟨rfl,hb.trans hb3.nil,?_⟩;simp only[IR,ho];rw[AMu h32];exact⟨p,rfl⟩
theorem qp {B gR g:Nat} {S rest:List UInt8} {W:J} (h:RS B gR g S W rest) (m:Nat):
  Yv Yw 233 #[U gR,Yg Yj m] W fun e w'=>ui OQ B gR g S W (ML m rest) e w':=by have r0:=AJZ;have HN:=sq (xC h);have H:=sq h;clear h;go_in;go_wp2_with fail;refine HN.o.mono ?_;rcases ho:FO Ij 10240 rest with _|⟨x,r⟩;(·rintro e w1 ⟨⟨_,⟨p,rfl⟩,rfl⟩,hb⟩;go_wp2_with fail;refine (L9 (Yg Yj 0) p _).mono ?_;rintro e w2 ⟨rfl,rfl⟩;go_wp2_with fail;refine⟨rfl,hb.nil,?_⟩;simp only[ML,ho];exact⟨p,rfl⟩);rintro e w1 ⟨rfl,hr,hb⟩;have HR:=sq (H.o.step hb hr (WD ho));clear hr;go_wp2_with fail;refine (M7 (OQ x) _).mono ?_;rintro e w2 ⟨rfl,rfl⟩;by_cases hm:x≤m;(·have hm':((x:Int)≤(m:Int)):=KA;simp only[OQ];go_wp2_with fail;refine (Kg 3 _).mono ?_;rintro e w3 ⟨rfl,rfl⟩;go_wp2_with fail;go_ret;refine⟨hb,?_⟩;simp only[ML,ho];rw[AMx hm];exact⟨rfl,HR.o⟩);have hm':¬((x:Int)≤(m:Int)):=KA;simp only[OQ];go_wp2_with fail;refine (Lb 3 _).mono ?_;rintro e w3 ⟨⟨p,rfl⟩,hb3⟩;go_wp2_with fail;refine⟨rfl,hb.trans hb3.nil,?_⟩;simp only[ML,ho];rw[AMu hm];exact⟨p,rfl⟩
theorem fc {B gR g:Nat} {S rest:List UInt8} {W:J} (h:RS B gR g S W rest) (v gx k:Nat) (cs:Array Yu) (tx:TypeId) (old:Yu) (hv:AJ W v #[.pointer (Z ⟨gx,k,Y⟩)] 224) (hx:AJ W gx cs tx) (hk:cs[k]?=Z old) (hvg:v≠g) (hxg:gx≠g) (hxR:gx≠gR) (hBx:B≤gx):
  Yv Yw 225 #[U gR,U (v:Nat)] W fun e w'=>DS B gR g S [gx] W (IR rest) (fun x w'=>AJ w' gx (cs.setIfInBounds k (I6 x)) tx) e w':=by have c0:=AL0;have X0:=AMH;have H:=sq h;have D:=AGg;clear h hv hx hk hvg hxg hxR hBx;go_in;go_wp2_with fail;have hd:=AG9;refine Bh NA [g] [2] [4] ?_;refine Ay 0 (h:=US) ?_;refine Ay 1 ?_;rcases ho:IR rest with _|⟨n,rest'⟩;(refine JS (i:=2) rfl NA PE (fun W1 hl=>?_) (fun W1 hl=>(VZ (H.o.zero (hd.trans hl))).mono ?_);(exact AFN);rw[ho];rintro e w' ⟨hb,p,rfl⟩;refine⟨_,rfl,rfl,Cv ((hd.trans hl).nil.trans hb),?_⟩;exact AMN);refine EN (i:=2) (R:=fun _ v w'=>v=I6 n∧RS B gR g S w' rest') rfl NA PE PE (fun W1 hl=>(VZ (H.o.zero (hd.trans hl))).mono ?_) (fun W1 hl=>?_) ?_;(rw[ho];rintro e w' ⟨hb,rfl,hr⟩;exact⟨_,rfl,hb,rfl,hr⟩);(exact AFN);rintro W1 _ w5 hl hb ⟨rfl,hr⟩;have B5:=AIk;have R5:=sq hr;have X5:=sq (X0.o _ B5.o);clear hl hb hd hr;refine tz ?_;refine Ay 3 ?_;refine Bu (i:=4) (f:=fun W2=>W2.setCell ⟨gx,k,Y⟩ (I6 n)) rfl NA NA NA PE (fun W2 hl=>?_) (fun W2 W3 hl hl3=>?_);(·have bx:=X5.o.but hl NC;have q0:=bx.cell k D.o.1;have q1:=bx.frozen k;clear bx;simp only[I6];go_simp);refine tz ?_;have B6:=sq (((Cv (X:=[gx]) (B5.o.trans hl.nil)).setCell (p:=⟨gx,k,Y⟩) (Or.inl NC) (I6 n)).trans hl3.nil);have X6:=sq (((X5.o.but hl NC).set k (I6 n)).but hl3 NC);have bset:But [gx] W2 (W2.setCell ⟨gx,k,Y⟩ (I6 n)):=(APu _ _).setCell (Or.inl NC) _;exact AFd
theorem nH {B gR g:Nat} {S rest:List UInt8} {W:J} (h:RS B gR g S W rest) (gx k:Nat) (cs:Array Yu) (tx:TypeId) (old:Yu) (hx:AJ W gx cs tx) (hk:cs[k]?=Z old) (hxg:gx≠g) (hxR:gx≠gR) (hBx:B≤gx):
  Yv Yw 220 #[U gR,.pointer (Z ⟨gx,k,Y⟩)] W fun e w'=>DS B gR g S [gx] W (IR rest) (fun x w'=>AJ w' gx (cs.setIfInBounds k (I6 x)) tx) e w':=by have r0:=AJZ;have HN:=sq (VZ h);have H:=sq h;have X0:=sq hx;have D:=AGg;clear h hx hk hxg hxR hBx;go_in;go_wp2_with fail;refine HN.o.mono ?_;rcases ho:IR rest with _|⟨x,r⟩;(·rintro e w1 ⟨hb,p,rfl⟩;go_wp2_with fail;refine⟨rfl,Cv hb,?_⟩;exact AMN);rintro e w1 ⟨hb,rfl,hr⟩;have HR:=sq hr;have bx:=X0.o.but hb (by simpa using D.o.2.1);have X1:=sq bx;have B1:=sq hb;have q0:=bx.cell k D.o.1;have q1:=bx.frozen k;clear hr hb bx;simp only[I6];go_wp2_with fail;go_end0;have bset:But [gx] w1 (w1.setCell ⟨gx,k,Y⟩ (I6 x)):=(APu _ _).setCell (Or.inl NC) _;exact AHe
theorem AAO {B gR g:Nat} {S rest:List UInt8} {W:J} (h:RS B gR g S W rest) (gx k:Nat) (cs:Array Yu) (tx:TypeId) (old:Yu) (hx:AJ W gx cs tx) (hk:cs[k]?=Z old) (hxg:gx≠g) (hxR:gx≠gR) (hBx:B≤gx):
  Yv Yw 162 #[U gR,.pointer (Z ⟨gx,k,Y⟩)] W fun e w'=>DS B gR g S [gx] W (Cb numsL rest) (fun x w'=>AJ w' gx (cs.setIfInBounds k (jX x)) tx) e w':=by have r0:=AJZ;have HN:=sq (RP h);have H:=sq h;have X0:=sq hx;have D:=AGg;clear h hx hk hxg hxR hBx;go_in;go_wp2_with fail;refine HN.o.mono ?_;rcases ho:Cb numsL rest with _|⟨x,r⟩;(·rintro e w1 ⟨⟨_,⟨p,rfl⟩,rfl⟩,hb⟩;go_wp2_with fail;refine (Fl (Yg V 0) p _).mono ?_;rintro e w2 ⟨rfl,rfl⟩;go_wp2_with fail;refine⟨rfl,Cv hb.nil,?_⟩;exact AMN);rintro e w1 ⟨rfl,hr,hb⟩;have HR:=sq (H.o.step hb hr (FN ho));go_wp2_with fail;refine (GN (jX x) _).mono ?_;rintro e w2 ⟨rfl,rfl⟩;have bx:=X0.o.but hb (by simpa using D.o.2.1);have X1:=sq bx;have B1:=sq hb;have q0:=bx.cell k D.o.1;have q1:=bx.frozen k;clear hr hb bx;simp only[jX];go_wp2_with fail;go_end0;have bset:But [gx] w2 (w2.setCell ⟨gx,k,Y⟩ (jX x)):=(APu _ _).setCell (Or.inl NC) _;exact AHe
theorem But.ofGrown {a b:J} {row:Option Nat} (h:a.grownBy b row) (hr:∀k,row=Z k→∀cs t,Root t→¬AJ a k cs t):But row.toList a b:=
 ⟨h.os,h.tape,h.output,h.size,fun k hk hn=>h.block k hk (fun e=>hn (by rw[←e];simp)),fun k cs t ht hb=>cz hb (h.block k hb.lt0 fun e=>hr k e.symm cs t ht hb)⟩
def AP1:=@But.ofGrown
theorem Cw {w:J} {base size n:Nat} {e:TypeId} {v:Yu} {xs:List Yu} (h:w.ownsRow base e size v n xs) (he:¬Root e):∀k,v.ownBlock=Z k→∀cs t,Root t→¬AJ w k cs t:=fun k hk cs t ht hb=>by
 rcases h.2 with⟨rfl,_⟩|⟨g,cap,cur,rfl,_,hh,_⟩
 ·simp[Value.ownBlock] at hk
 ·simp only[Value.ownBlock,ANo] at hk;subst hk;unfold AJ at hb;rw[hh] at hb;cases hb;exact he ht
section
variable {P:Program} {ops:Array Oper} {Q:Exit→Act→J→Prop} {md:Region.Mode} {B C X:List Nat}
theorem FH {i:Nat} {o:Oper} {fuel:Nat} {listed:Array Bool} {a:Act} {w:J} {ob:Obj} {fv:Nat→Yu} (hi:ops[i]?=Z o)
  (hr:Region.ready md ops listed=[i]) (hw:Region.wanted o (yielded ops a.tmps)=Yy)
  (h:∀w1,But [] w w1→(execOp a.eval o).run P w1=.ok (.value (fv w1.heap.size)) (w1.alloc ob))
  (hk:∀w1,But [] w w1→Ba P X C md ops Q B fuel (listed.setIfInBounds i Yy) (a.put o.dst (fv w1.heap.size)) (w1.alloc ob)):Ba P X C md ops Q B (fuel+1) listed a w:=by refine DE hr fun w1 hl=>?_;unfold Go.wpOp;simp only[hi,hw,if_true,Oper.wp,h w1 hl,Oper.upon];exact .inl ⟨fun _=>((APu [] _).alloc ob).nil,hk w1 hl⟩
theorem D8 {i:Nat} {o:Oper} {fuel:Nat} {listed:Array Bool} {a:Act} {w:J} {v:Yu} (hi:ops[i]?=Z o)
  (hr:Region.ready md ops listed=[i]) (hw:Region.wanted o (yielded ops a.tmps)=Yy)
  (h:∀w1,But [] w w1→(execOp a.eval o).run P w1=.ok (.value v) w1)
  (hk:∀w1,But [] w w1→Ba P X C md ops Q B fuel (listed.setIfInBounds i Yy) (a.put o.dst v) w1):Ba P X C md ops Q B (fuel+1) listed a w:=by refine DE hr fun w1 hl=>?_;unfold Go.wpOp;simp only[hi,hw,if_true,Oper.wp,h w1 hl,Oper.upon];exact .inl ⟨fun _=>(APu [] _).nil,hk w1 hl⟩
end
theorem fH {m:Nat} {l:List UInt8} {n:Nat} {r:List UInt8} (h:ML m l=Z (n,r)):n≤m:=by unfold ML at h;split at h;(rename_i x' r' e;by_cases hm:x'≤m;(rw[AMx hm] at h;cases h;exact hm);rw[AMu hm] at h;cases h);cases h
theorem But.trans2 {L L':List Nat} {a b c:J} (h:But L a b) (h':But L' b c) (hs:∀k∈L',k∈L∨a.heap.size≤k):But L a c:=
 ⟨h'.os.trans h.os,h'.tape.trans h.tape,h'.output.trans h.output,AMj h.size h'.size,fun k hk hn=>(h'.block k (AMn hk h.size) (fun hm=>by
  rcases hs k hm with h1|h1
  ·exact hn h1
  ·omega)).trans (h.block k hk hn),FJ h.shape h'.shape⟩
theorem AA {a b:J} {base:Nat} {e:TypeId} {sz:Nat} {v:Yu} {n:Nat} {xs:List Yu} {L:List Nat} (h:a.ownsRow base e sz v n xs) (hb:But L a b) (hL:∀k∈L,v.ownBlock≠Z k):b.ownsRow base e sz v n xs:=by obtain⟨h1,h2⟩:=h;refine⟨h1,?_⟩;rcases h2 with h2|⟨g,cap,cur,hv,hg,hh,r⟩;(exact Or.inl h2);have hlt:g<a.heap.size:=(AMm.1 hh).1;exact Or.inr ⟨g,cap,cur,hv,hg,(hb.block g hlt (fun hm=>hL g hm (by rw[hv];rfl))).trans hh,r⟩
theorem C5 {a:J} {base:Nat} {e:TypeId} {sz:Nat} {v:Yu} {n:Nat} {xs:List Yu} (h:a.ownsRow base e sz v n xs) {k:Nat} (hk:v.ownBlock=Z k):base≤k∧k<a.heap.size:=by rcases h.2 with⟨rfl,_⟩|⟨g,cap,cur,hv,hg,hh,r⟩;(cases hk);rw[hv] at hk;have:g=k:=AAa;subst this;exact⟨hg,(AMm.1 hh).1⟩
theorem DN:∃i,Tryz.prog.info? 22=Z i∧i.zero=Z (Yg V 0)∧i.size=1∧i.bytes=8:=by have h:(Tryz.prog.info? 22).map (fun i=>(i.zero,i.size,i.bytes))=Z (Z (Yg V 0),1,8):=NA;exact AEm
theorem Ce:∃i,Tryz.prog.info? 9=Z i∧i.zero=Z (O ⟨#[]⟩)∧i.size=1∧i.bytes=16:=by have h:(Tryz.prog.info? 9).map (fun i=>(i.zero,i.size,i.bytes))=Z (Z (O ⟨#[]⟩),1,16):=NA;exact AEm
theorem U5 (cs:Array Yu) (k:Nat) (u v:Yu):(cs.setIfInBounds k u).setIfInBounds k v=cs.setIfInBounds k v:=by apply ANp;intro i;simp only[AM0,ANM];split;(rfl);rfl
theorem set_self {cs:Array Yu} {k:Nat} {v:Yu} (h:cs[k]?=Z v):cs.setIfInBounds k v=cs:=by apply ANp;intro i;rw[AM0];by_cases hi:k=i;(subst hi;have:=(AMm.1 h).1;rw[AMx rfl,AMx this,h]);rw[AMu hi]
def Seen (W:J) (m n:Nat) (ks:List (List UInt8)):Prop:=
 ∃D:DataW Unit,W.ownsMap Yw 9 (plainElem Yw 3) m n D∧Maps.IsMap D∧∀k,D.atKey (.string k) (.lit (.int .i64 0))=.lit (.int .i64 (if k∈ks then 1 else 0))
theorem Seen.new (W:J):Seen (W.alloc (.map #[] 0)) W.heap.size 0 []:=
 ⟨.map [],World.ownsMap_made W _ _ _,Maps.isMap_empty,fun k=>by simp[DataW.atKey]⟩
theorem Seen.lt {W:J} {m n:Nat} {ks:List (List UInt8)} (h:Seen W m n ks):m<W.heap.size:=by obtain⟨D,h1,_⟩:=h;exact h1.lt
theorem Seen.but {W W':J} {m n:Nat} {ks:List (List UInt8)} {L:List Nat} (h:Seen W m n ks) (hb:But L W W') (hm:m∉L):Seen W' m n ks:=by obtain⟨D,h1,h2,h3⟩:=h;have hlt:=h1.lt;obtain⟨es,clock,hb1,F,hs,hD⟩:=h1;exact⟨D,⟨es,clock,(hb.block m hlt hm).trans hb1,F,hs,hD⟩,h2,h3⟩
theorem il (k:List UInt8) (hk:k.length≤1000000):keyOf Yw 9 (O (AB k))=Z (Lit.string k):=by have hm:maxLen=9223372036854775807:=PV;have h:=WideMaps.keyOf_string_mk (P:=Yw) Tryz.underlying9 (s:=AB k) ACY;simpa [AB] using h
theorem Seen.look {W:J} {m n:Nat} {ks:List (List UInt8)} (h:Seen W m n ks) (k:List UInt8) (hk:k.length≤1000000):
  (Instr.lookup 275 (.map (Z m)) (O (AB k)) Yz).run Yw W=.ok (.int .i64 (if k∈ks then 1 else 0)) W:=by obtain⟨D,h1,h2,h3⟩:=h;obtain⟨c,hrun,hat,_⟩:=h1.lookup_int (t:=275) (Maps.string_keyed Tryz.underlying9) Tryz.underlying275 Tryz.underlying3 NA (il k hk);rw[h3 k] at hat;(have:c=(if k∈ks then 1 else 0):=by have:=hat;simp only[DataW.lit.injEq,Lit.int.injEq,APL] at this;exact this.symm);rw[hrun,this]
theorem Seen.put {W:J} {m n:Nat} {ks:List (List UInt8)} (h:Seen W m n ks) (k:List UInt8) (hk:k.length≤1000000) (hn:n<1000000):
  ∃w',(Instr.mapUpdate 275 (.map (Z m)) (O (AB k)) (Yg Yj 1)).run Yw W=.ok () w'∧Seen w' m (n+1) (k::ks)∧But [m] W w':=by (have hml:n<maxLen:=by have:maxLen=9223372036854775807:=PV;omega);obtain⟨D,h1,h2,h3⟩:=h;obtain⟨w',hrun,ho,hg⟩:=h1.update (t:=275) (Maps.string_keyed Tryz.underlying9) Tryz.underlying275 hml (il k hk) (plainElem_int Tryz.underlying3 (a:=1) ND);refine⟨w',hrun,⟨_,ho,h2.put _ _,fun k'=>?_⟩,AP1 hg fun k hk cs t _ hb=>by obtain rfl:=ANW hk;exact AJ4⟩;by_cases e:k'=k;(subst e;rw[Maps.atKey_put_same h2 ADG];simp);rw[Maps.atKey_put_other (by intro h;cases h;exact e rfl),h3 k'];simp[e]
structure FD where
 key:List UInt8
 must:Bool
 emp:Yu
 may:Yu
 put:Yu
 get:Yu
def fd0:FD:=⟨[],Yz,Yp,Yp,Yp,Yp⟩
def FD.agg (f:FD):Yu:=Yr #[O (AB f.key),Yl f.must,f.emp,f.may,f.put,f.get]
def Em (W:J) (gl:Nat) (F:List FD):Prop:=
 gl<W.heap.size∧∀i,i<F.length→W.cell? ⟨gl,i*6,Y⟩=Z (O (AB (F.getD i fd0).key))∧W.cell? ⟨gl,i*6+1,Y⟩=Z (Yl (F.getD i fd0).must)∧W.cell? ⟨gl,i*6+2,Y⟩=Z (F.getD i fd0).emp∧
  W.cell? ⟨gl,i*6+3,Y⟩=Z (F.getD i fd0).may∧W.cell? ⟨gl,i*6+4,Y⟩=Z (F.getD i fd0).put∧W.cell? ⟨gl,i*6+5,Y⟩=Z (F.getD i fd0).get
theorem Em.but {W W':J} {gl:Nat} {F:List FD} {L:List Nat} (h:Em W gl F) (hb:But L W W') (hg:gl∉L):Em W' gl F:=by refine⟨AMn h.1 hb.size,fun i hi=>?_⟩;have e:=hb.block gl h.1 hg;obtain⟨a,b,c,d,f,g⟩:=h.2 i hi;exact⟨(AMg e).trans a,(AMg e).trans b,(AMg e).trans c,(AMg e).trans d,(AMg e).trans f,(AMg e).trans g⟩
def firstIdx (p:Nat→Bool):Nat→Nat→Int
 |0,_=> -1
 |n+1,i=>if p i then (i:Int) else firstIdx p n (i+1)
theorem firstIdx_none {p:Nat→Bool}:∀{n i:Nat},(∀j,i≤j→j<i+n→p j=Yz)→firstIdx p n i= -1
 |0,_,_=>rfl
 |n+1,i,h=>by
  rw[firstIdx,h i (by omega) (by omega)];exact firstIdx_none fun j h1 h2=>h j (by omega) (by omega)
theorem qU (f:FD) (key:List UInt8) (kb:Nat) (W:J) (hk:W.cell? kb=Z (O (AB key))) (hlt:kb<W.heap.size):
  Yv Yw 209 #[f.agg,U kb] W fun e w'=>e=Yi (Yl (f.key==key))∧But [] W w':=by have e1:(AB f.key).toList=f.key:=De _;have e2:(AB key).toList=key:=De _;have B0:=AJz;simp only[FD.agg];go_in;exact AHI
theorem lK (f:FD) (ks:List (List UInt8)) (vb m n:Nat) (W:J) (hv:W.cell? vb=Z (.map (Z m))) (hlt:vb<W.heap.size) (hs:Seen W m n ks) (hk:f.key.length≤1000000):
  Yv Yw 212 #[f.agg,U vb] W fun e w'=>e=Yi (Yl (f.must&& !(decide (f.key∈ks))))∧But [] W w':=by have B0:=AJz;have HL:∀W',But [] W W'→(Instr.lookup 275 (.map (Z m)) (O (AB f.key)) Yz).run Yw W'=.ok (Yg Yj (if f.key∈ks then 1 else 0)) W':=fun W' hb=>(hs.but hb NC).look f.key hk;have HL0:=HL _ B0.o;clear HL hs;simp only[FD.agg];rcases hm:f.must with _|_;(·rw[hm] at B0 HL0;clear HL0;go_in;exact AHI);rw[hm] at B0 HL0;by_cases hin:f.key∈ks;(·rw[AMx hin] at HL0;have HI:=sq hin;clear hin;go_in;go_wp2_with fail;go_ret;exact⟨by rw[ANV HI.o];rfl,B0.o⟩);rw[AMu hin] at HL0;have HI:=sq hin;clear hin;go_in;go_wp2_with fail;go_ret;exact⟨by rw[ANT HI.o];rfl,B0.o⟩
theorem fM (F:List FD) (gl fr n c o:Nat) (p:Nat→Bool) (fn:FuncId) (cap:Yu) (W:J) (hF:Em W gl F) (hn:fr+n≤F.length) (ho:0<n→o=fr*6) (hc:n≤c) (hn2:F.length<1000000) (hfn:∀args W',(callFunc fn args).run Yw W'=.ok (.enter fn args) W')
  (hcl:∀i W',i<n→But [] W W'→Yv Yw fn #[(F.getD (fr+i) fd0).agg,cap] W' fun e w'=>e=Yi (Yl (p i))∧But [] W' w'):
  Yv Yw 208 #[.slice (Z ⟨gl,o,Y⟩) n c,G (M fn) #[] #[cap]] W fun e w'=>e=Yi (Yg Yj (firstIdx p n 0))∧But [] W w':=AER
theorem tQ (F:List FD) (gl fr n c o:Nat) (p:Nat→Bool) (fn:FuncId) (W:J) (hF:Em W gl F) (hn:fr+n≤F.length) (ho:0<n→o=fr*6) (hc:n≤c) (hn2:F.length<1000000) (hfn:∀args W',(callFunc fn args).run Yw W'=.ok (.enter fn args) W')
  (hcl:∀i W',i<n→But [] W W'→Yv Yw fn #[(F.getD (fr+i) fd0).agg] W' fun e w'=>e=Yi (Yl (p i))∧But [] W' w'):
  Yv Yw 208 #[.slice (Z ⟨gl,o,Y⟩) n c,G (M fn) #[] #[]] W fun e w'=>e=Yi (Yg Yj (firstIdx p n 0))∧But [] W w':=AER
theorem nM (F:List FD) (gl c:Nat) (p:Nat→Bool) (fn:FuncId) (cap:Yu) (W:J) (hF:Em W gl F) (hc:F.length≤c) (hn2:F.length<1000000) (hfn:∀args W',(callFunc fn args).run Yw W'=.ok (.enter fn args) W')
  (hcl:∀i W',i<F.length→But [] W W'→Yv Yw fn #[(F.getD i fd0).agg,cap] W' fun e w'=>e=Yi (Yl (p i))∧But [] W' w'):
  Yv Yw 211 #[Yh gl F.length c,G (M fn) #[] #[cap]] W fun e w'=>e=Yi (Yl (decide (0≤firstIdx p F.length 0)))∧But [] W w':=by have HI:=sq (fM F gl 0 F.length c 0 p fn cap W hF KA KA hc hn2 hfn (fun i W' hi hb=>ACn));clear hF hfn hcl;exact ALo
theorem Li (F:List FD) (gl c:Nat) (p:Nat→Bool) (fn:FuncId) (W:J) (hF:Em W gl F) (hc:F.length≤c) (hn2:F.length<1000000) (hfn:∀args W',(callFunc fn args).run Yw W'=.ok (.enter fn args) W')
  (hcl:∀i W',i<F.length→But [] W W'→Yv Yw fn #[(F.getD i fd0).agg] W' fun e w'=>e=Yi (Yl (p i))∧But [] W' w'):
  Yv Yw 211 #[Yh gl F.length c,G (M fn) #[] #[]] W fun e w'=>e=Yi (Yl (decide (0≤firstIdx p F.length 0)))∧But [] W w':=by have HI:=sq (tQ F gl 0 F.length c 0 p fn W hF KA KA hc hn2 hfn (fun i W' hi hb=>ACn));clear hF hfn hcl;exact ALo
def G6 (F:List FD) (fr:Nat) (k:List UInt8):Int:=firstIdx (fun i=>(F.getD (fr+i) fd0).key==k) (F.length-fr) 0
def Ky (F:List FD) (ks:List (List UInt8)):Bool:=(List.range F.length).all fun i=> !((F.getD i fd0).must&& !(decide ((F.getD i fd0).key∈ks)))
theorem Pw {p:Nat→Bool}:∀{n i:Nat},firstIdx p n i<(i+n:Nat)∧(0≤firstIdx p n i→(i:Int)≤firstIdx p n i)
 |0,i=>by simp only[firstIdx];omega
 |n+1,i=>by
  simp only[firstIdx]
  split
  ·omega
  ·have:= @Pw p n (i+1);omega
theorem Ik {p:Nat→Bool}:∀{n i:Nat},(∃j,i≤j∧j<i+n∧p j=Yy)→0≤firstIdx p n i
 |0,i,⟨j,h1,h2,_⟩=>by omega
 |n+1,i,⟨j,h1,h2,h3⟩=>by
  simp only[firstIdx]
  split
  ·omega
  ·rename_i hp;refine Ik ⟨j,?_,by omega,h3⟩
   rcases AOs h1 with rfl|h
   ·exact absurd h3 hp
   ·omega
theorem WO (F:List FD) (ks:List (List UInt8)):decide (0≤firstIdx (fun i=>(F.getD i fd0).must&& !(decide ((F.getD i fd0).key∈ks))) F.length 0)= !(Ky F ks):=by unfold Ky;by_cases h:∃j,j<F.length∧((F.getD j fd0).must&& !(decide ((F.getD j fd0).key∈ks)))=Yy;(obtain⟨j,h1,h2⟩:=h;rw[ANV (Ik ⟨j,KA,KA,h2⟩)];symm;rw[Bool.not_eq_true',List.all_eq_false];exact⟨j,ANa.2 h1,by simp only[h2];decide⟩);(have h':∀j,j<F.length→((F.getD j fd0).must&& !(decide ((F.getD j fd0).key∈ks)))=false:=fun j hj=>by cases e:((F.getD j fd0).must&& !(decide ((F.getD j fd0).key∈ks)));(rfl);exact absurd ⟨j,hj,e⟩ h);rw[firstIdx_none (fun j _ h2=>h' j KA)];symm;rw[show decide ((0:Int)≤ -1)=Yz by decide,Bool.not_eq_false',ANd];intro j hj;simp only[h' j (ANa.1 hj)];rfl
theorem vH {L:List FB} {m:Nat} {l x r:List UInt8} (h:GY L m l=Z (x,r)):x.length≤m:=by obtain⟨n,r',h1,_,rfl,_⟩:=JU h;have:=(Hd h1).2;rw[AM6];omega
theorem mG {F:List FD} {fr:Nat} {k:List UInt8} (h:fr≤F.length):G6 F fr k<((F.length-fr:Nat):Int):=by have:=(@Pw (fun i=>(F.getD (fr+i) fd0).key==k) (F.length-fr) 0).1;unfold G6;omega
theorem iV (l:List UInt8) (i:Nat) (h:i<(AB l).size):(AB l)[i]'h=l.getD i 0:=by (have hl:i<l.length:=by rw[AQ] at h;exact h);have e:(AB l)[i]'h=l.toArray[i]'ADY:=rfl;rw[e];simp[AMd,hl]
theorem uy (n:Int) (h:0≤n) (h2:n<9223372036854775808):wrap64 n=n:=by unfold wrap64;omega
theorem AAj {n:Nat} (h:n<4000000000000000000):IntKind.u64.wrap (n:Int)=(n:Int):=by rw[ANe];omega
theorem yJ {n:Nat} (h:n<4000000000000000000):wrap64 (n:Int)=(n:Int):=uy _ KA KA
section
variable {P:Program} {ops:Array Oper} {Q:Exit→Act→J→Prop} {md:Region.Mode}
def AO (P:Program) (R:Yu→J→Prop) (w:J):Result Next→Prop
 |.ok (.value u) w'=>R u w'∧Later w w'
 |.ok (.enter f args) w'=>Yv P f args w' fun e w''=>∃v,e=Yi v∧R v w''∧Later w w''
 |_=>False
def IM (ops:Array Oper) (i:Nat):Nat:=((ops[i]?).bind (·.dst)).getD 0
def yG (P:Program) (md:Region.Mode) (ops:Array Oper) (Good:Nat→Yu→J→Prop) (N:Nat) (a0:Act) (w0:J) (i:Nat):Prop:=
 ∃o,ops[i]?=Z o∧o.guard=Y∧∀(a:Act) (w:J),Later w0 w→(∀e∈o.after,Region.binds md e=Yy→Good e.on (a.tmps.getD (IM ops e.on) Yx) w)→
  (∀s,(∀j,j<N→IM ops j≠s)→a.tmps.getD s Yx=a0.tmps.getD s Yx)→AO P (Good i) w ((execOp a.eval o).run P w)
def shaped (md:Region.Mode) (ops:Array Oper) (N n:Nat):Bool:=
 ops.size==N+1&&
 ((List.range N).all fun i=>(match ops[i]? with|some o=>o.dst.isSome&&(o.after.toList.all fun e=>decide (e.on<i))|none=>Yz)&&decide (IM ops i<n)&&(List.range N).all fun j=>i==j||IM ops i !=IM ops j)&&
 (match ops[N]? with|some o=>o.after.toList.all (fun e=>decide (e.on<N))&&(List.range N).all fun i=>o.after.toList.any fun e=>Region.binds md e&&e.on==i|none=>Yz)
structure JE (P:Program) (md:Region.Mode) (ops:Array Oper) (Good:Nat→Yu→J→Prop) (N:Nat) (a0:Act) (w0:J) (listed:Array Bool) (a:Act) (w:J):Prop where
 later:Later w0 w
 lsize:listed.size=ops.size
 defers:a.defers=a0.defers
 good:∀i,i<N→listed.getD i Yz=Yy→Good i (a.tmps.getD (IM ops i) Yx) w
 rest:∀s,(∀j,j<N→IM ops j≠s)→a.tmps.getD s Yx=a0.tmps.getD s Yx
 size:a.tmps.size=a0.tmps.size
theorem Cx {t:Array Yu} {k:Nat} {v:Yu} (h:k<t.size):(t.setIfInBounds k v).getD k Yx=v:=AKL
theorem P9 {t:Array Yu} {k j:Nat} {v:Yu} (h:k≠j):(t.setIfInBounds k v).getD j Yx=t.getD j Yx:=AKL
def unl (listed:Array Bool):Nat:=listed.toList.count Yz
theorem gz {listed:Array Bool} {i:Nat} (h:listed.getD i Yy=Yz):unl (listed.setIfInBounds i Yy)+1=unl listed:=by (have hlt:i<listed.size:=by rcases AM7 i listed.size with h'|h';(exact h');simp[ANP,AMz h'] at h);(have hv:listed.toList[i]'AEC=false:=by simpa [ANP,hlt] using h);unfold unl;rw[APM];have hl:i<listed.toList.length:=AEC;(have e:listed.toList=listed.toList.take i++Yz::listed.toList.drop (i+1):=by rw[←hv,←AOM hl,AN3]);(have e2:listed.toList.set i Yy=listed.toList.take i++Yy::listed.toList.drop (i+1):=by rw[List.set_eq_take_append_cons_drop,AMx hl]);rw[e2];(conv=>rhs;rw[e]);simp[List.count_append];omega
theorem vF {listed:Array Bool} {i:Nat} (hi:i<listed.size) (h:listed.getD i Yy=Yz):0<unl listed:=by have:=gz h;omega
theorem Cm {id N:Nat} {Good:Nat→Yu→J→Prop} {a0:Act} {w0:J} {n t dN:Nat} {oN:Oper} (hm:P.follows .mixedOrders=Yy)
  (hsh:shaped .any ops N n=Yy) (hn:a0.tmps.size=n) (hst:∀i v w w',Good i v w→Later w w'→Good i v w')
  (hE:∀i,i<N→yG P .any ops Good N a0 w0.drew i)
  (hN:ops[N]?=Z oN) (hgN:oN.guard=Y) (hdN:oN.dst=Z dN)
  (hop:∀(a:Act) (w:J),(execOp a.eval oN).run P w=.ok (.value (a.tmps.getD t Yx)) w)
  (hK:∀(a:Act) (w:J),Later w0.drew w→a.defers=a0.defers→a.tmps.size=n→(∀i,i<N→Good i (a.tmps.getD (IM ops i) Yx) w)→(∀s,(∀j,j<N→IM ops j≠s)→a.tmps.getD s Yx=a0.tmps.getD s Yx)→Q .normal (a.put (Z dN) (a.tmps.getD t Yx)) w):
  (Code.region id ops Yy).wp P Q a0 w0:=by refine APR hm ?_;unfold shaped at hsh;simp only[ANw,AOj] at hsh;obtain⟨⟨hs1,hs2⟩,hs3⟩:=hsh;(have hearly:∀i,i<N→∃o d,ops[i]?=Z o∧o.dst=Z d∧IM ops i=d∧d<n∧(∀e∈o.after,e.on<i)∧∀j,j<N→i≠j→IM ops i≠IM ops j:=by intro i hi;have h:=ANd.1 hs2 i (ANa.2 hi);simp only[ANw,decide_eq_true_iff] at h;obtain⟨⟨h1,h2⟩,h3⟩:=h;cases ho:ops[i]? with|none=>rw[ho] at h1;simp at h1|some o=>rw[ho] at h1;simp only[ANw] at h1;obtain⟨d,hd⟩:=Option.isSome_iff_exists.1 h1.1;(have hdd:IM ops i=d:=by simp[IM,ho,hd]);refine⟨o,d,rfl,hd,hdd,hdd▸h2,fun e he=>?_,fun j hj hne=>?_⟩;(have:=ANd.1 h1.2 e AEE;simpa using this);have:=ANd.1 h3 j (ANa.2 hj);simpa [hne] using this);rw[hN] at hs3;simp only[ANw] at hs3;(have hNdeps:∀i,i<N→∃e∈oN.after,Region.binds .any e=Yy∧e.on=i:=by intro i hi;have h:=ANd.1 hs3.2 i (ANa.2 hi);obtain⟨e,he,h2⟩:=List.any_eq_true.1 h;simp only[ANw,AOj] at h2;exact⟨e,AEE,h2.1,h2.2⟩);(have hNlow:∀e∈oN.after,e.on<N:=fun e he=>by have:=ANd.1 hs3.1 e AEE;simpa using this);(have hdone:∀(fuel:Nat) (listed:Array Bool) (a:Act) (w:J),listed.size=ops.size→(∀i,i≤N→listed.getD i Yy=Yy)→Q .normal a w→wpAny P .any ops Q fuel listed a w:=by intro fuel listed a w hsz hall hq;(have hr:Region.ready .any ops listed=[]:=by rw[List.eq_nil_iff_forall_not_mem];intro j hj;obtain⟨h1,o,ho,_⟩:=AOn.1 hj;have:j<ops.size:=(AMm.1 ho).1;rw[hall j KA] at h1;cases h1);cases fuel with|zero=>exact⟨hr,hq⟩|succ f=>exact⟨fun _=>hq,by rw[hr];simp⟩);(have key:∀(fuel:Nat) (listed:Array Bool) (a:Act) (w:J),JE P .any ops Good N a0 w0.drew listed a w→listed.getD N Yy=Yz→unl listed≤fuel→wpAny P .any ops Q fuel listed a w:=by intro fuel;induction fuel with|zero=>(intro listed a w hJ hun hf;have:=vF (by rw[hJ.lsize];omega) hun;omega)|succ fuel ih=>intro listed a w hJ hun hf;(have htf:∀j,j<ops.size→listed.getD j Yy=listed.getD j false:=fun j hj=>by(have:j<listed.size:=by rw[hJ.lsize];exact hj);simp[ANP,this]);refine⟨fun hr=>?_,fun i hi=>?_⟩;(exfalso;have hex:∃i,i≤N∧listed.getD i Yy=false:=⟨N,AMi _,hun⟩;(have hmin:∃i,i≤N∧listed.getD i Yy=Yz∧∀j,j<i→listed.getD j Yy=true:=by obtain⟨i,hi1,hi2⟩:=hex;induction i using Nat.strongRecOn with|ind i ihi=>by_cases hall:∀j,j<i→listed.getD j Yy=Yy;(exact⟨i,hi1,hi2,hall⟩);simp only[Classical.not_forall] at hall;obtain⟨j,hj,hjf⟩:=hall;exact ihi j hj KA (by simpa using hjf));obtain⟨i,hi1,hi2,hi3⟩:=hmin;(have hmem:i∈Region.ready .any ops listed:=by rw[AOn];refine⟨hi2,?_⟩;rcases AM7 i N with h|h;(obtain⟨o,d,ho,_,_,_,hlow,_⟩:=hearly i h;exact⟨o,ho,fun e he _=>by rw[←htf _ (by have:=hlow e he;omega)];exact hi3 _ (hlow e he)⟩);obtain rfl:i=N:=KA;exact⟨oN,hN,fun e he _=>by rw[←htf _ (by have:=hNlow e he;omega)];exact hi3 _ (hNlow e he)⟩);rw[hr] at hmem;cases hmem);obtain⟨h1,o,ho,hdep⟩:=AOn.1 hi;have hisz:i<ops.size:=(AMm.1 ho).1;have hun1:=gz h1;rcases AM7 i N with hiN|hiN;(·obtain⟨o',d,ho',hd,hdd,hdn,hlow,hdis⟩:=hearly i hiN;rw[ho] at ho';cases ho';obtain⟨o2,ho2,hgd,hG⟩:=hE i hiN;rw[ho] at ho2;cases ho2;have hg:=hG a w hJ.later (fun e he hb=>hJ.good e.on (by have:=hlow e he;omega) (hdep e he hb)) hJ.rest;(have hw:Region.wanted o (yielded ops a.tmps)=true:=by simp[Region.wanted,hgd]);(have next:∀v w',Good i v w'→Later w w'→wpAny P .any ops Q fuel (listed.setIfInBounds i Yy) (a.put o.dst v) w':=by intro v w' hv hl;refine ih _ _ _ ⟨hJ.later.trans hl,by simpa using hJ.lsize,by rw[hd];exact hJ.defers,fun j hj hlj=>?_,fun s hs=>?_,by rw[hd];simpa [Act.put] using hJ.size⟩ ?_ KA;(by_cases hji:i=j;(subst hji;rw[hd,hdd];simp only[Act.put];rw[Cx (by rw[hJ.size,hn];exact hdn)];exact hv);rw[hd];simp only[Act.put];rw[P9 (by rw[←hdd];exact hdis j hj hji)];rw[APP Yz hji] at hlj;exact hst _ _ _ _ (hJ.good j hj hlj) hl);(rw[hd];simp only[Act.put];rw[P9 (by rw[←hdd];exact hs i hiN)];exact hJ.rest s hs);rw[APP Yy KA];exact hun);unfold Go.wpOp;simp only[ho,hw,if_true,Oper.wp];generalize (execOp a.eval o).run P w=r at hg;refine .inl ?_;cases r with|ok nx w'=>(cases nx<;>simp only[Oper.upon,AO] at hg⊢;(case value u=>exact next _ _ hg.1 hg.2);case enter f args=>refine AOR hg fun e w'' he=>?_;obtain⟨v,rfl,hv,hl⟩:=he;exact next _ _ hv hl)|halt x w'=>exact hg.elim);have hiN':N=i:=KA;subst hiN';rw[hN] at ho;cases ho;(have hall:∀j,j<N→listed.getD j Yz=true:=fun j hj=>by obtain⟨e,he,hb,rfl⟩:=hNdeps j hj;exact hdep e he hb);(have hw:Region.wanted oN (yielded ops a.tmps)=true:=by simp[Region.wanted,hgN]);unfold Go.wpOp;simp only[hN,hw,if_true,Oper.wp,hop a w,Oper.upon];refine .inl (hdone fuel _ _ w (by simpa using hJ.lsize) (fun j hj=>?_) ?_);(by_cases hjN:N=j;(subst hjN;(have:N<listed.size:=by rw[hJ.lsize];omega);simp[ANP,this]);rw[APP Yy hjN,htf j KA];exact hall j KA);rw[hdN];exact hK a w hJ.later hJ.defers (by rw[hJ.size,hn]) (fun j hj=>hJ.good j hj (hall j hj)) hJ.rest);refine key _ _ _ _ ⟨AP0 _,NC,rfl,fun i hi hl=>?_,fun _ _=>rfl,rfl⟩ ?_ ?_;(exfalso;simp[ANP,APU] at hl;split at hl<;>simp at hl);(simp[ANP,APU,hs1]);unfold unl;simp
end
theorem run_store_func (a:Addr) (fn:Fn) (x y:Array Yu) (md:Mode) (w:J):(store a (.func fn x y) md).run Yw w=stored Yw w a (.func fn x y) md:=APr Yw w a _ md rfl
theorem Ch (fn:Fn) (first cap:Array Yu) (w:J):(Instr.makeFunc fn first cap).run Yw w=.ok (.func fn first cap) w:=rfl
def Bc (key:List UInt8) (b:Nat):FD:=⟨key,Yz,G (M 250) #[] #[U b],G (M 251) #[] #[],G (M 252) #[] #[U b],G (M 253) #[] #[U b]⟩
theorem Jk (key:List UInt8) (tgt:Addr) (W:J):Yv Yw 172 #[O (AB key),.pointer (Z tgt)] W fun e w'=>∃v,e=Yi v∧(∃b,v=(Bc key b).agg∧AJ w' b #[.pointer (Z tgt)] 227∧W.heap.size≤b)∧Later W w':=by have HSF:=AG3;have hmf:=Ch;go_in;go_wp2_with fail;refine AMo (v:=(Bc key W.heap.size).agg) (by simp[results,Tryz.results172,go_sem,Bc,FD.agg]) rfl ?_;exact AF7
def FC (key:List UInt8) (b:Nat):FD:=⟨key,Yz,G (M 286) #[] #[U b],G (M 251) #[] #[],G (M 287) #[] #[],G (M 288) #[] #[U b]⟩
theorem aY (key:List UInt8) (tgt:Addr) (W:J):Yv Yw 200 #[O (AB key),.pointer (Z tgt)] W fun e w'=>∃v,e=Yi v∧(∃b,v=(FC key b).agg∧AJ w' b #[.pointer (Z tgt)] 268∧W.heap.size≤b)∧Later W w':=by have HSF:=AG3;have hmf:=Ch;go_in;go_wp2_with fail;refine AMo (v:=(FC key W.heap.size).agg) (by simp[results,Tryz.results200,go_sem,FC,FD.agg]) rfl ?_;exact AF7
def DP (key:List UInt8) (b:Nat):FD:=⟨key,Yy,G (M 222) #[] #[],G (M 223) #[] #[U b],G (M 224) #[] #[U b],G (M 225) #[] #[U b]⟩
theorem Rj (key:List UInt8) (tgt:Addr) (W:J):Yv Yw 157 #[O (AB key),.pointer (Z tgt)] W fun e w'=>∃v,e=Yi v∧(∃b,v=(DP key b).agg∧AJ w' b #[.pointer (Z tgt)] 224∧W.heap.size≤b)∧Later W w':=by have HSF:=AG3;have hmf:=Ch;go_in;go_wp2_with fail;refine AMo (v:=(DP key W.heap.size).agg) (by simp[results,Tryz.results157,go_sem,DP,FD.agg]) rfl ?_;exact AF7
theorem N9 (n:Nat):((n:Int)==0)=(n==0):=AHq
theorem Tk (b gx k:Nat) (W:J) (n:Nat) (h1:W.cell? b=Z (.pointer (Z ⟨gx,k,Y⟩))) (h2:W.cell? ⟨gx,k,Y⟩=Z (Yg V n)):
  Yv Yw 250 #[U b] W fun e w'=>e=Yi (Yl (n==0))∧But [] W w':=AFi
theorem Mi (b gx k:Nat) (W:J) (y:Bool) (h1:W.cell? b=Z (.pointer (Z ⟨gx,k,Y⟩))) (h2:W.cell? ⟨gx,k,Y⟩=Z (Yl y)):
  Yv Yw 286 #[U b] W fun e w'=>e=Yi (Yl (!y))∧But [] W w':=AMD
theorem Il (b gx k:Nat) (W:J) (A:Option Addr) (n c:Nat) (h1:W.cell? b=Z (.pointer (Z ⟨gx,k,Y⟩))) (h2:W.cell? ⟨gx,k,Y⟩=Z (.slice A n c)):
  Yv Yw 299 #[U b] W fun e w'=>e=Yi (Yl (n==0))∧But [] W w':=AFi
theorem RN (b gx k:Nat) (W:J) (A:Option Addr) (n c:Nat) (h1:W.cell? b=Z (.pointer (Z ⟨gx,k,Y⟩))) (h2:W.cell? ⟨gx,k,Y⟩=Z (.slice A n c)):
  Yv Yw 226 #[U b] W fun e w'=>e=Yi (Yl (n==0))∧But [] W w':=AFi
theorem MH (b gx k:Nat) (W:J) (A:Option Addr) (n c:Nat) (h1:W.cell? b=Z (.pointer (Z ⟨gx,k,Y⟩))) (h2:W.cell? ⟨gx,k,Y⟩=Z (.slice A n c)):
  Yv Yw 239 #[U b] W fun e w'=>e=Yi (Yl (n==0))∧But [] W w':=AFi
theorem Nx (W:J):Yv Yw 222 #[] W fun e w'=>e=Yi (Yl Yz)∧But [] W w':=AMD
theorem AO.value {P:Program} {R:Yu→J→Prop} {w:J} {r:Result Next} {v:Yu} (h:r=.ok (.value v) w) (hr:R v w):AO P R w r:=by rw[h];exact⟨hr,AP0 _⟩
def AP5:=@AO.value
theorem AO.enter {P:Program} {R:Yu→J→Prop} {w:J} {r:Result Next} {f:FuncId} {args:Array Yu} (h:r=.ok (.enter f args) w) (hc:Yv P f args w fun e w'=>∃v,e=Yi v∧R v w'∧Later w w'):AO P R w r:=by rw[h];exact hc
def APz:=@AO.enter
theorem AF {t:Array Yu} {k:Nat} {v:Yu} (h:t.getD k Yx=v):t[k]?.getD Yx=v:=by rwa [ANP] at h
theorem Em.later {W W':J} {g:Nat} {F:List FD} (h:Em W g F) (hl:Later W W'):Em W' g F:=h.but (APv hl) NC
theorem DS.map {α β:Type} {B gR g:Nat} {S:List UInt8} {X:List Nat} {W:J} {o:Option (α×List UInt8)} {P:α→J→Prop} {e:Ending} {w':J} (f:α→β) {P':β→J→Prop} (h:DS B gR g S X W o P e w') (hp:∀x,P x w'→P' (f x) w'):
  DS B gR g S X W (o.map fun p=>(f p.1,p.2)) P' e w':=by obtain⟨h1,h2⟩:=h;refine⟨h1,?_⟩;cases o with|none=>exact h2|some p=>exact⟨h2.1,h2.2.1,hp _ h2.2.2⟩
open Go Go.RowKit Go.Extern.Stop Go.Stop Go.Extern
theorem wQ (S:List UInt8) (W:J):
  Yv Yw 153 #[O (AB S),Yg Yj 10240] W fun e w'=>∃g,e=Yi (U (g:Nat))∧W.heap.size≤g∧Rd w' g (AB S) 0 10240∧But [] W w':=by have B:=sq ((APu [] W).alloc (Yk #[O (AB S),Yg Yj 0,Yg Yj 10240] 274));have R:=sq (APw W #[O (AB S),Yg Yj 0,Yg Yj 10240] 274);go_in;go_wp2_with fail;go_ret;exact⟨_,rfl,AMi _,R.o,B.o⟩
theorem xD (g at_ most:Nat) (S:List UInt8) (W:J) (h:Rd W g (AB S) at_ most) (hat:at_≤S.length) (hn:S.drop at_=[]):
  Yv Yw 213 #[U g] W fun e w'=>e=Yi Yn∧But [] W w':=by obtain⟨b0,bp,hrd,hgs⟩:=AEZ;have HERE:Shut (∀W',But [] (W.alloc (Yk #[Yn] 129)) W'→Yv Yw 237 #[U g] W' fun e w'=>e=Yi (O ⟨#[]⟩)∧But [] (W.alloc (Yk #[Yn] 129)) w'):=⟨fun W' hl=>AIJ⟩;have HB0:=sq b0;have HP:=sq bp;clear h b0 bp hrd hat hn;go_enter_defers Tryz.func213,Tryz.ntmps213;go_wp2_with fail;generalize W.alloc (Yk #[Yn] 129)=W0 at*;generalize hpe':W.heap.size=pe at HP HERE hgs⊢;have hpw:=AGi;clear hpe';refine (HERE.o _ (APu [] W0)).mono ?_;rintro e w5 ⟨rfl,hb1⟩;have P5:Shut (AJ w5 pe #[Yn] 129):=⟨HP.o.but hb1 NC⟩;have B5:=sq hb1;have p0:w5.cell? pe=Z Yn:=P5.o.cell 0 rfl;have p1:=P5.o.frozen 0;clear HERE hb1;go_wp2_with fail;have B6:Shut (But [] W (w5.setCell pe Yn)):=⟨(HB0.o.trans B5.o).setCell (Or.inr hpw.o) _⟩;have P6:=AId;generalize w5.setCell pe Yn=w6 at*;refine AOl (f:=235) (args:=#[U g,U pe]) NC Zm ?_;refine (Jt _ _ _).mono ?_;rintro e u' w'' ⟨rfl,rfl,rfl⟩;simp[Leaves,settle,results,Tryz.results213,go_sem,P6];exact B6.o
theorem AJ.newSet (W:J) (p:Addr) (v:Yu) (cs:Array Yu) (t:TypeId):AJ ((W.setCell p v).alloc (.cells cs t)) W.heap.size cs t:=by have:=APw (W.setCell p v) cs t;rwa [show (W.setCell p v).heap.size=W.heap.size by simp[World.setCell]] at this
theorem ah {fn:Func} {ce:Tmp} (hres:fn.results=#[.cell ce 129]) {R:Ending→J→Prop} (tmps:Array Yu) (g at_ most pe:Nat) (s:ByteArray) (n:Int) (W:J)
  (hce:tmps.getD ce Yx=U pe) (h:Rd W g s at_ most) (hp:AJ W pe #[Yn] 129)
  (hR:R (Yi (Yo 286 (U W.heap.size))) ((W.setCell pe (Yo 286 (U W.heap.size))).alloc (Yk #[Yg Yj n,Yg Yj at_] 348))):
  bodyPostD Yw fn R (.panic [{v:=Yo 36 (Yg Yj n),recovered:=Yz}]) {tmps,defers:=[{target:=Target.fn (Fn.func 235) #[],args:=#[U g,U pe]}]} W:=by show Leaves Yw fn tmps R _ _ W;refine AOl (f:=235) (args:=#[U g,U pe]) NC Zm ?_;refine (Px g at_ most s n [] pe Yn W h hp).mono ?_;rintro e u' w'' ⟨rfl,rfl,rfl⟩;have h0:=((hp.set 0 (Yo 286 (U W.heap.size))).alloc (Yk #[Yg Yj n,Yg Yj at_] 348)).cell 0 rfl;simp only[settle,List.dropWhile_nil,Leaves];refine⟨Yo 286 (U W.heap.size),?_,hR⟩;rw[ANP] at hce;simp[results,hres,go_sem,hce,h0]
theorem sV (g at_ most:Nat) (S:List UInt8) (W:J) (h:Rd W g (AB S) at_ most) (hat:at_≤S.length) (b:UInt8) (r:List UInt8) (hn:S.drop at_=b::r):
  Yv Yw 213 #[U g] W fun e w'=>∃p,e=Yi (Yo 286 (U (p:Nat)))∧AJ w' p #[Yg Yj 5,Yg Yj at_] 348∧But [] W w':=by obtain⟨b0,bp,hrd,hgs⟩:=AEZ;have HERE:Shut (∀W',But [] (W.alloc (Yk #[Yn] 129)) W'→Yv Yw 237 #[U g] W' fun e w'=>e=Yi (O (AB (b::r)))∧But [] (W.alloc (Yk #[Yn] 129)) w'):=⟨fun W' hl=>AIJ⟩;have HB0:=sq b0;have HP:=sq bp;have HRD:=sq hrd;have hne:(AB (b::r)).toList.isEmpty=false:=ADq;clear h b0 bp hrd hat hn;go_enter_defers Tryz.func213,Tryz.ntmps213;go_wp2_with fail;generalize W.alloc (Yk #[Yn] 129)=W0 at*;generalize hpe':W.heap.size=pe at HP HERE hgs⊢;have hpw:=AGi;clear hpe';refine (HERE.o _ (APu [] W0)).mono ?_;rintro e w5 ⟨rfl,hb1⟩;have B5:=sq hb1;generalize AB (b::r)=t at hne⊢;clear HERE hb1;go_wp2_with fail;refine (FU _ _).mono ?_;rintro e w6 ⟨rfl,rfl⟩;go_wp2_with fail;refine ah (ce:=2) Tryz.results213 _ g at_ most pe (AB S) 5 _ rfl (DU HRD.o B5.o) (APx HP.o B5.o NC) ⟨_,rfl,?_,?_⟩;(exact AJ.newSet _ _ _ _ _);exact ((HB0.o.trans B5.o).setCell (Or.inr hpw.o) _).alloc _
theorem AAA (v:Yu) (w:J):
  Yv Yw 214 #[Yn,Yo 36 v] w fun e w'=>e=Yi (Yl Yz)∧w'=w:=by have hn:=run_eql_iface_nil_left (P:=Yw) w 36 v Tryz.underlying129;exact ALv
theorem AAT (t:Yu) (w:J):
  Yv Yw 215 #[Yn,t] w fun e w'=>e=Yi (Yl Yz)∧w'=w:=ALv
end Go.Proofs.YtiapejgiinidhaaGreatDoor
