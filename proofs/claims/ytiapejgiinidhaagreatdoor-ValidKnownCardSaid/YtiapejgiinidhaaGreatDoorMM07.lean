import Derived.Test.YtiapejgiinidhaaGreatDoorMM06
import Derived.Lib.BufferRead
set_option linter.all false
set_option maxRecDepth 100000
set_option maxHeartbeats 40000000
namespace Go.Proofs.YtiapejgiinidhaaGreatDoor
open Value renaming int→Yg,pointer→U,string→O,slice→Yh,bool→Yl,tuple→Ym,agg→Yr
open IntKind renaming u64→V,i64→Yj,u8→Yq
open Obj renaming cells→Yk
open Ending renaming returned→Yi
open Go renaming World→J,Value→Yu,Calls→Yv
open Go.Proofs.Tryz renaming prog→Yw
open Option renaming some→Z,none→Y
open Bool renaming true→Yy,false→Yz
open Go Go.RowKit
structure WK (g base:Nat) (w w':J):Prop where
 os:w'.os=w.os
 tape:w'.tape=w.tape
 output:w'.output=w.output
 size:w.heap.size≤w'.heap.size
 block:∀k,k<w.heap.size→k≠g→(k<base∨∃cs t,AJ w k cs t∧t≠5)→w'.heap[k]?=w.heap[k]?
 shape:∀k cs t,Root t→AJ w k cs t→∃cs',cs'.size=cs.size∧AJ w' k cs' t
theorem WK.refl (g base:Nat) (w:J):WK g base w w:=⟨rfl,rfl,rfl,AMi _,fun _ _ _ _=>rfl,Fp w⟩
theorem WK.trans {g base:Nat} {a b c:J} (h:WK g base a b) (k:WK g base b c):WK g base a c:=
 ⟨k.os.trans h.os,k.tape.trans h.tape,k.output.trans h.output,AMj h.size k.size,fun i hi hn ho=>by
  have e:=h.block i hi hn ho;refine (k.block i (AMn hi h.size) hn ?_).trans e
  rcases ho with ho|⟨cs,t,hb,ht⟩
  ·exact Or.inl ho
  ·exact Or.inr ⟨cs,t,e.trans hb,ht⟩,FJ h.shape k.shape⟩
theorem WK.ofBut {g base:Nat} {w w':J} {L:List Nat} (h:But L w w') (hL:∀k∈L,k=g∨(base≤k∧∀cs t,AJ w k cs t→t=5)):WK g base w w':=
 ⟨h.os,h.tape,h.output,h.size,fun k hk hn ho=>h.block k hk fun hm=>by
  rcases hL k hm with e|⟨h1,h2⟩
  ·exact hn e
  ·rcases ho with ho|⟨cs,t,hb,ht⟩
   ·omega
   ·exact ht (h2 cs t hb),h.shape⟩
def AP2:=@WK.ofBut
theorem AJ.wk {g base k:Nat} {w w':J} {cs:Array Yu} {t:TypeId} (h:AJ w k cs t) (hw:WK g base w w') (hn:k≠g) (ht:t≠5):AJ w' k cs t:=
 (hw.block k h.lt hn (Or.inr ⟨cs,t,h,ht⟩)).trans h
def BI (bs:List UInt8):List Yu:=bs.map fun b=>Yg Yq (b.toNat:Nat)
def Wr (w:J) (g base:Nat) (bs:List UInt8):Prop:=∃v,AJ w g #[v] 343∧w.ownsRow base 5 1 v bs.length (BI bs)
theorem AL {w:J} {base n:Nat} {e:TypeId} {v:Yu} {xs:List Yu} {sz:Nat} (h:w.ownsRow base e sz v n xs):∀k∈v.ownBlock.toList,base≤k∧∀cs t,AJ w k cs t→t=e:=fun k hk=>by
 have hk:=AMw.1 hk;refine⟨(C5 h hk).1,fun cs t hb=>?_⟩
 rcases h.2 with⟨rfl,_⟩|⟨g,cap,cur,rfl,_,hh,_⟩
 ·cases hk
 ·have:g=k:=by simpa [Value.ownBlock] using hk
  subst this;unfold AJ at hb;rw[hh] at hb;cases hb;rfl
theorem Al {w:J} {base n k:Nat} {e t:TypeId} {v:Yu} {xs:List Yu} {sz:Nat} {cs:Array Yu} (h:w.ownsRow base e sz v n xs) (hb:AJ w k cs t) (ht:t≠e):k∉v.ownBlock.toList:=
 fun hm=>ht ((AL h k hm).2 cs t hb)
theorem Wr.but {w w':J} {g base:Nat} {bs:List UInt8} (h:Wr w g base bs) (hb:But [] w w'):Wr w' g base bs:=by obtain⟨v,h1,h2⟩:=h;exact⟨v,h1.but hb NC,AA h2 hb NC⟩
theorem Wr.lt {w:J} {g base:Nat} {bs:List UInt8} (h:Wr w g base bs):g<w.heap.size:=by obtain⟨v,h1,_⟩:=h;exact h1.lt
section
variable {P:Program} {md:Region.Mode} {ops:Array Oper} {Q:Exit→Act→J→Prop} {B C X:List Nat}
theorem Gq {i:Nat} {o:Oper} {fuel:Nat} {listed:Array Bool} {a:Act} {w:J} (hi:ops[i]?=Z o)
  (hr:Region.ready md ops listed=[i]) (hC:C.contains i=Yy) (hw:Region.wanted o (yielded ops a.tmps)=Yy)
  (s x:Operand) (t:TypeId) (ho:o.op=.call {callee:=.builtin .append,args:=#[s,x],argTypes:=#[t,t]})
  (base:Nat) (e:TypeId) (ii:TypeInfo) (z:Yu) (size bytes:Nat) (ht:P.underlying t=Z (.slice e)) (hii:P.info? e=Z ii) (hz:ii.zero=Z z)
  (hsize:ii.size=size) (hby:ii.bytes=bytes) (hzs:z.cells.size=size) (hsz:0<size) (hsm:bytes≤1000) (he:¬Root e)
  (v:Yu) (n:Nat) (xs:List Yu) (hX:∀b∈v.ownBlock.toList,b∈X) (hs:a.eval s=v) (b:Nat) (news:List Yu) (hx:a.eval x=Yh (b:Nat) 1 1) (hl:news.length=size) (h1:∀u∈news,u.oneCell'=Yy) (hn:n<100000)
  (hw1:∀w1,But [] w w1→base≤w1.heap.size∧w1.ownsRow base e size v n xs∧AJ w1 b news.toArray e)
  (hk:∀w1 g cap w',But [] w w1→w'.ownsRow base e size (Yh (g:Nat) (n+1) cap) (n+1) (xs++news)→But v.ownBlock.toList w1 w'→
   Ba P X C md ops Q B fuel (listed.setIfInBounds i Yy) (a.put o.dst (Yh (g:Nat) (n+1) cap)) w'):Ba P X C md ops Q B (fuel+1) listed a w:=by refine DE hr fun w1 hl1=>?_;obtain⟨hb0,hown,hblk⟩:=hw1 w1 hl1;unfold Go.wpOp;simp only[hi,hw,if_true];have hby2:(n+1)*bytes≤140737488355328:=AMj (AOA (show n+1≤100000 by omega) hsm) ND;have hml:maxLen=9223372036854775807:=PV;refine .inl (wp_append_lies w1 s x t ho base e ii z size bytes ht hii hz hsize hby hzs hsz v n xs hs hown ⟨b,0,Y⟩ 1 1 news hx KA ?_ h1 ND KA hby2 hb0 _ rfl ?_);(exact World.news_of_block (cs:=news.toArray) (by simpa [AJ] using hblk));intro g cap w' h2 h3 h4 h5;have h3':=AP1 h3 (Cw hown he);exact⟨fun _=>YB,hk w1 g cap w' hl1 h2 h3'⟩
end
theorem gQ {w:J} {a b:Nat} {ca cb:Array Yu} {ta tb:TypeId} (ha:AJ w a ca ta) (hb:AJ w b cb tb) (h:ta≠tb):a≠b:=fun e=>by
 subst e;unfold AJ at ha hb;rw[ha] at hb;cases hb;exact h rfl
theorem F3:∃i,Tryz.prog.info? 5=Z i∧i.zero=Z (Yg Yq 0)∧i.size=1∧i.bytes=1:=by have h:(Tryz.prog.info? 5).map (fun i=>(i.zero,i.size,i.bytes))=Z (Z (Yg Yq 0),1,1):=NA;exact AGE
theorem D6:¬Root 5:=by decide
structure PR where
 below:Nat
 first:UInt8
 size:Nat
def PR.hit (r:PR) (n:Nat):Bool:= !(decide (r.below≤n)&&decide (0<r.below))
def WG (n i:Nat):UInt8:=UInt8.ofNat (n>>>(8*i))
def beBytes (n:Nat):Nat→List UInt8
 |0=>[]
 |k+1=>WG n k::beBytes n k
def PR.bytes (r:PR) (n:Nat):List UInt8:=if r.size=0 then[r.first+UInt8.ofNat n] else r.first::beBytes n r.size
theorem iA (n:Nat):IntKind.u8.wrap (n:Int)=((UInt8.ofNat n).toNat:Int):=by rw[APc];simp
theorem yo (a b:UInt8):IntKind.u8.wrap ((a.toNat:Int)+(b.toNat:Int))=((a+b).toNat:Int):=by rw[APc];simp
theorem PZ (bs:List UInt8) (b:UInt8):BI (bs++[b])=BI bs++[Yg Yq (b.toNat:Nat)]:=by simp[BI]
def LD (r:PR) (n g base:Nat) (bs:List UInt8) (w:J) (e:Ending) (w':J):Prop:=
 e=Yi (Yl (r.hit n))∧Wr w' g base (if r.hit n then bs++r.bytes n else bs)∧WK g base w w'
theorem LD.miss {r:PR} {n g base:Nat} {bs:List UInt8} {w w':J} (h:r.hit n=Yz) (hw:Wr w' g base bs) (hk:WK g base w w'):LD r n g base bs w (Yi (Yl Yz)) w':=by refine⟨by rw[h],?_,hk⟩;rw[h];exact hw
theorem LD.done {r:PR} {n g base:Nat} {bs:List UInt8} {w w':J} (h:r.hit n=Yy) (hw:Wr w' g base (bs++r.bytes n)) (hk:WK g base w w'):LD r n g base bs w (Yi (Yl Yy)) w':=by refine⟨by rw[h],?_,hk⟩;rw[h];exact hw
theorem mZ (below:Nat) (fb:UInt8) (size n g base bn bw:Nat) (bs:List UInt8) (w:J) (hW:Wr w g base bs) (hn:AJ w bn #[Yg V n] 22) (hb:AJ w bw #[U g] 229)
  (hlen:bs.length<90000) (hbase:base≤w.heap.size) (hnn:n<18446744073709551616) (hsz:size≤8):
  Yv Yw 309 #[Yr #[Yg V below,Yg Yq (fb.toNat:Nat),Yg Yj size],U bn,U bw] w (LD ⟨below,fb,size⟩ n g base bs w):=by
 have B0:=sq ((APu [] w).alloc (Yk #[Yg V below,Yg Yq (fb.toNat:Nat),Yg Yj size] 368));have HRB:=sq (APw w #[Yg V below,Yg Yq (fb.toNat:Nat),Yg Yj size] 368);have HNB:=sq (hn.but B0.o NC);have HBB:=sq (hb.but B0.o NC);have HW:=sq (hW.but B0.o);have HH:Shut (PR.hit ⟨below,fb,size⟩ n= !(decide (below≤n)&&decide (0<below))):=⟨rfl⟩;have HLN0:=sq hlen;have HBS:=sq (AMj hbase B0.o.size);have HK0:Shut (WK g base w (w.alloc (Yk #[Yg V below,Yg Yq (fb.toNat:Nat),Yg Yj size] 368))):=⟨AP2 B0.o NC⟩;have HNN:=sq hnn;obtain⟨b1,hb1⟩:∃b1,b1=UInt8.ofNat n:=⟨_,rfl⟩;obtain⟨b2,hb2⟩:∃b2,b2=fb+b1:=⟨_,rfl⟩;have HP:Shut (PR.bytes ⟨below,fb,size⟩ n=if size=0 then[b2] else fb::beBytes n size):=⟨by rw[hb2,hb1];rfl⟩;have E1:Shut (IntKind.u8.wrap (n:Int)=(b1.toNat:Int)):=⟨by rw[hb1];exact iA n⟩;have E2:Shut (IntKind.u8.wrap ((fb.toNat:Int)+(b1.toNat:Int))=(b2.toNat:Int)):=⟨by rw[hb2];exact yo fb b1⟩;have E3:=E1;have E4:=E1;have E5:=E1;clear hW hn hb hbase hlen hb1 hb2 hnn;go_in;generalize hw0:w.alloc (Yk #[Yg V below,Yg Yq (fb.toNat:Nat),Yg Yj size] 368)=w1 at B0 HRB HNB HBB HW HBS HK0;have x0:w1.cell? w.heap.size=Z (Yg V below):=HRB.o.cell 0 rfl;have x1:w1.cell? ⟨w.heap.size,1,Y⟩=Z (Yg Yq (fb.toNat:Nat)):=HRB.o.cell 1 rfl;have x2:w1.cell? ⟨w.heap.size,2,Y⟩=Z (Yg Yj size):=HRB.o.cell 2 rfl;have xl:=HRB.o.lt;have y0:=HNB.o.cell 0 (v:=Yg V n) rfl;have yl:=HNB.o.lt;by_cases h1:below≤n∧0<below;(·have d1:decide (below≤n)=true:=ANV h1.1;have d2:decide (0<below)=true:=ANV h1.2;have d3:decide ((n:Int)≥(below:Int))=true:=ANV KA;have d4:decide ((below:Int)>0)=true:=ANV KA;rw[d1,d2] at HH;clear h1;go_wp2_with fail;go_ret;exact LD.miss HH.o HW.o HK0.o);have HIT:Shut (PR.hit ⟨below,fb,size⟩ n=Yy):=⟨by rw[HH.o];by_cases h2:below≤n;(have h3:¬0<below:=fun h=>h1 ⟨h2,h⟩;rw[ANT h3,Bool.and_false];rfl);rw[ANT h2];rfl⟩;have HGO:Shut ((decide (below≤n)=Yy∧decide (0<below)=Yz∧decide ((n:Int)≥(below:Int))=Yy∧decide ((below:Int)>0)=Yz)∨(decide (below≤n)=Yz∧decide ((n:Int)≥(below:Int))=Yz)):=⟨by by_cases h2:below≤n;(have h3:¬0<below:=fun h=>h1 ⟨h2,h⟩;exact Or.inl ⟨ANV h2,ANT h3,ANV KA,ANT KA⟩);exact Or.inr ⟨ANT h2,ANT KA⟩⟩;clear h1 HH;by_cases hs0:size=0
 ·(have ds:((size:Int)==0)=true:=by simp[hs0]);rw[AMx hs0] at HP;have HS0:=sq hs0;clear hs0;rcases HGO.o with⟨d1,d2,d3,d4⟩|⟨d1,d3⟩
  all_goals
   clear HGO;go_wp2_with fail;clear x0 x1 x2 xl y0 yl;obtain⟨v,hg,ho⟩:=HW.o;obtain⟨X,hX⟩:∃X,X=v.ownBlock.toList:=⟨_,rfl⟩;have HX:=sq hX;have HXN:Shut (bw∉X∧g∉X∧w.heap.size∉X∧bn∉X):=⟨by
    rw[hX];exact⟨Al ho HBB.o ND,Al ho hg ND,Al ho HRB.o ND,Al ho HNB.o ND⟩⟩
   have HGB:=sq hg;have HOW:=sq ho;clear hg ho hX;have HLB:=sq HLN0.o;obtain⟨cb,hcb⟩:∃cb,cb=bs:=⟨_,rfl⟩;rw[←hcb] at HOW HLN0;have HCB:=sq hcb;clear hcb;have HLN:Shut (cb.length<100000):=⟨by have:=HLN0.o;omega⟩;have hd:But [] w1 w1.drew:=(APu [] w1).drew;refine Bh NA X [11] [14] ?_;refine Ay 0 (v:=U g) (h:=PG) ?_;refine Ay 1 (v:=U g) (h:=PG) ?_;refine Ay 2 (v:=U g) (h:=NI) ?_;refine Ay 3 (v:=U g) (h:=NI) ?_;refine Ay 4 (v:=v) (h:=PJ) ?_;refine Ay 5 (v:=.pointer (Z ⟨w.heap.size,1,Y⟩)) (h:=NI) ?_;refine Ay 6 (v:=Yg Yq (fb.toNat:Nat)) (h:=PT) ?_;refine Ay 7 (v:=Yg V n) (h:=QC) ?_;refine Ay 8 (v:=Yg Yq (b1.toNat:Nat)) (h:=NI) ?_;refine Ay 9 (v:=Yg Yq (b2.toNat:Nat)) (h:=NI) ?_;refine FH (i:=10) (ob:=Yk #[Yg Yq ((b2).toNat:Nat)] 5) (fv:=fun h=>Yh (h:Nat) 1 1) rfl NA PE (fun W3 hl3=>?_) (fun W3 hl3=>?_)
   ·go_simp<;>with_reducible rfl
   simp only[gA9,gB9,gC9,Act.put,gD9,gE9,gF9];have N3:=sq (APw W3 #[Yg Yq ((b2).toNat:Nat)] 5);have L3:=sq ((hd.trans hl3).alloc (Yk #[Yg Yq ((b2).toNat:Nat)] 5));clear hl3 hd;generalize W3.alloc (Yk #[Yg Yq ((b2).toNat:Nat)] 5)=W4 at*;generalize W3.heap.size=g3 at*;obtain⟨ii,hii,hz,hsz,hby⟩:=F3;refine Gq (i:=11) rfl NA PE PE _ _ 32 rfl base 5 ii (Yg Yq 0) 1 1 Tryz.underlying32 hii hz hsz hby PE ND ND D6 v cb.length (BI cb) ACf rfl g3 [Yg Yq ((b2).toNat:Nat)] rfl rfl PI HLN.o ?_ ?_
   ·intro W5 hl5;exact⟨AMj HBS.o (AMj L3.o.size hl5.size),AA (AA HOW.o L3.o NC) hl5 NC,N3.o.but hl5 NC⟩
   intro W5 g5 cap W6 hl5 hrow6 hgr;simp only[gA9,gB9,gC9,Act.put,gD9,gE9,gF9];have BA:=sq (L3.o.trans hl5);have BG:=sq hgr;have R6:=sq hrow6;have OW5:=sq (AA HOW.o (L3.o.trans hl5) NC);clear hl5 hrow6 hgr N3 L3 hii hz hsz hby;have Z6:Shut (∀{k:Nat} {cs:Array Yu} {t:TypeId},AJ w1 k cs t→t≠5→AJ W6 k cs t):=⟨fun hk ht=>(hk.but BA.o NC).but BG.o (Al OW5.o (hk.but BA.o NC) ht)⟩;refine D8 (i:=12) (v:=U g) rfl NA PE ?_ (fun W7 hl7=>?_)
   ·(intro W7 hl7;go_simp<;>with_reducible rfl)
   simp only[gA9,gB9,gC9,Act.put,gD9,gE9,gF9];refine D8 (i:=13) (v:=U g) rfl NA PE ?_ (fun W8 hl8=>?_)
   ·(intro W8 hl8;go_simp<;>with_reducible rfl)
   simp only[gA9,gB9,gC9,Act.put,gD9,gE9,gF9];refine Bu (i:=14) (f:=fun W8=>W8.setCell g (Yh g5 (cb.length+1) cap)) rfl NA NA NA PE (fun W9 hl9=>?_) (fun W9 W10 hl9 hl10=>?_)
   ·have bx:=(Z6.o HGB.o ND).but ((hl7.trans hl8).trans hl9) NC;have q0:=bx.cell 0 rfl;have q1:=bx.frozen 0;clear bx
    go_simp
   simp only[gA9,gB9,gC9,Act.put,gD9,gE9,gF9];have H9:=sq ((hl7.trans hl8).trans hl9);have bset:But [g] W9 (W9.setCell g (Yh g5 (cb.length+1) cap)):=(APu _ _).setCell (Or.inl NC) _;have HB10:=sq (bset.trans hl10.nil);have NW:Shut (Wr W10 g base (cb++[b2])):=⟨by
    have b9:=(Z6.o HGB.o ND).but H9.o NC;refine⟨_,(b9.set 0 _).but hl10 NC,?_⟩;rw[AMf,PZ];have r9:=AA R6.o H9.o NC;refine AA r9 HB10.o (fun k hk e=>?_);have hk':k=g:=YD
    rw[hk'] at e;have:=(AL r9 g (AMw.2 e)).2 _ _ b9;exact absurd this ND⟩
   have NK:Shut (WK g base w1 W10):=⟨by
    refine (((AP2 BA.o NC).trans (AP2 BG.o (fun k hk=>Or.inr ?_))).trans (AP2 H9.o NC)).trans (AP2 HB10.o (fun k hk=>Or.inl YD));exact AL OW5.o k hk⟩
   clear hl7 hl8 hl9 hl10 bset BA BG R6 OW5 Z6 H9 HB10;go_wp2_with fail;go_ret;exact LD.done HIT.o (by rw[HP.o,←HCB.o];exact NW.o) (HK0.o.trans NK.o)
 (have ds:((size:Int)==0)=false:=by simp[hs0]);(have ds':(size==0)=false:=by simp[hs0]);rw[AMu hs0] at HP;have HS0:=sq hs0;clear hs0;rcases HGO.o with⟨d1,d2,d3,d4⟩|⟨d1,d3⟩
 all_goals
  clear HGO;go_wp2_with fail;clear x0 x1 x2 xl y0 yl;obtain⟨v,hg,ho⟩:=HW.o;obtain⟨X,hX⟩:∃X,X=v.ownBlock.toList:=⟨_,rfl⟩;have HX:=sq hX;have HXN:Shut (bw∉X∧g∉X∧w.heap.size∉X∧bn∉X):=⟨by
   rw[hX];exact⟨Al ho HBB.o ND,Al ho hg ND,Al ho HRB.o ND,Al ho HNB.o ND⟩⟩
  have HGB:=sq hg;have HOW:=sq ho;clear hg ho hX;have NE:=sq (AMc (gQ HBB.o HGB.o ND) (AMc (gQ HRB.o HGB.o ND) (gQ HNB.o HGB.o ND)));have HLB:=sq HLN0.o;obtain⟨cb,hcb⟩:∃cb,cb=bs:=⟨_,rfl⟩;rw[←hcb] at HOW HLN0;have HCB:=sq hcb;clear hcb;have HLN:Shut (cb.length<100000):=⟨by have:=HLN0.o;omega⟩;have hd:But [] w1 w1.drew:=(APu [] w1).drew;refine Bh NA X [8] [11] ?_;refine Ay 0 (v:=U g) (h:=PG) ?_;refine Ay 1 (v:=U g) (h:=PG) ?_;refine Ay 2 (v:=U g) (h:=NI) ?_;refine Ay 3 (v:=U g) (h:=NI) ?_;refine Ay 4 (v:=v) (h:=PJ) ?_;refine Ay 5 (v:=.pointer (Z ⟨w.heap.size,1,Y⟩)) (h:=NI) ?_;refine Ay 6 (v:=Yg Yq (fb.toNat:Nat)) (h:=PT) ?_;refine FH (i:=7) (ob:=Yk #[Yg Yq ((fb).toNat:Nat)] 5) (fv:=fun h=>Yh (h:Nat) 1 1) rfl NA PE (fun W3 hl3=>?_) (fun W3 hl3=>?_)
  ·go_simp<;>with_reducible rfl
  simp only[gA9,gB9,gC9,Act.put,gD9,gE9,gF9];have N3:=sq (APw W3 #[Yg Yq ((fb).toNat:Nat)] 5);have L3:=sq ((hd.trans hl3).alloc (Yk #[Yg Yq ((fb).toNat:Nat)] 5));clear hl3 hd;generalize W3.alloc (Yk #[Yg Yq ((fb).toNat:Nat)] 5)=W4 at*;generalize W3.heap.size=g3 at*;obtain⟨ii,hii,hz,hsz,hby⟩:=F3;refine Gq (i:=8) rfl NA PE PE _ _ 32 rfl base 5 ii (Yg Yq 0) 1 1 Tryz.underlying32 hii hz hsz hby PE ND ND D6 v cb.length (BI cb) ACf rfl g3 [Yg Yq ((fb).toNat:Nat)] rfl rfl PI HLN.o ?_ ?_
  ·intro W5 hl5;exact⟨AMj HBS.o (AMj L3.o.size hl5.size),AA (AA HOW.o L3.o NC) hl5 NC,N3.o.but hl5 NC⟩
  intro W5 g5 cap W6 hl5 hrow6 hgr;simp only[gA9,gB9,gC9,Act.put,gD9,gE9,gF9];have BA:=sq (L3.o.trans hl5);have BG:=sq hgr;have R6:=sq hrow6;have OW5:=sq (AA HOW.o (L3.o.trans hl5) NC);clear hl5 hrow6 hgr N3 L3 hii hz hsz hby;have Z6:Shut (∀{k:Nat} {cs:Array Yu} {t:TypeId},AJ w1 k cs t→t≠5→AJ W6 k cs t):=⟨fun hk ht=>(hk.but BA.o NC).but BG.o (Al OW5.o (hk.but BA.o NC) ht)⟩;refine D8 (i:=9) (v:=U g) rfl NA PE ?_ (fun W7 hl7=>?_)
  ·(intro W7 hl7;go_simp<;>with_reducible rfl)
  simp only[gA9,gB9,gC9,Act.put,gD9,gE9,gF9];refine D8 (i:=10) (v:=U g) rfl NA PE ?_ (fun W8 hl8=>?_)
  ·(intro W8 hl8;go_simp<;>with_reducible rfl)
  simp only[gA9,gB9,gC9,Act.put,gD9,gE9,gF9];refine Bu (i:=11) (f:=fun W8=>W8.setCell g (Yh g5 (cb.length+1) cap)) rfl NA NA NA PE (fun W9 hl9=>?_) (fun W9 W10 hl9 hl10=>?_)
  ·have bx:=(Z6.o HGB.o ND).but ((hl7.trans hl8).trans hl9) NC;have q0:=bx.cell 0 rfl;have q1:=bx.frozen 0;clear bx
   go_simp
  simp only[gA9,gB9,gC9,Act.put,gD9,gE9,gF9];have H9:=sq ((hl7.trans hl8).trans hl9);have bset:But [g] W9 (W9.setCell g (Yh g5 (cb.length+1) cap)):=(APu _ _).setCell (Or.inl NC) _;have HB10:=sq (bset.trans hl10.nil);have NW:Shut (Wr W10 g base (cb++[fb])):=⟨by
   have b9:=(Z6.o HGB.o ND).but H9.o NC;refine⟨_,(b9.set 0 _).but hl10 NC,?_⟩;rw[AMf,PZ];have r9:=AA R6.o H9.o NC;refine AA r9 HB10.o (fun k hk e=>?_);have hk':k=g:=YD
   rw[hk'] at e;have:=(AL r9 g (AMw.2 e)).2 _ _ b9;exact absurd this ND⟩
  have NK:Shut (WK g base w1 W10):=⟨by
   refine (((AP2 BA.o NC).trans (AP2 BG.o (fun k hk=>Or.inr ?_))).trans (AP2 H9.o NC)).trans (AP2 HB10.o (fun k hk=>Or.inl YD));exact AL OW5.o k hk⟩
  clear hl7 hl8 hl9 hl10 bset BA BG R6 OW5 Z6 H9 HB10;have HRB1:=sq (HRB.o.wk NK.o NE.o.2.1 ND);have x2:W10.cell? ⟨w.heap.size,2,Y⟩=Z (Yg Yj size):=HRB1.o.cell 2 rfl;have xl:=HRB1.o.lt;go_wp2_with fail;clear x2 xl
  go_loopw [5] (fun vi wr=>∃(k:Nat) (cb2:List UInt8),vi=Yg Yj ((k:Int)-1)∧k≤size∧cb2++beBytes n k=bs++fb::beBytes n size∧Wr wr g base cb2∧WK g base w1 wr∧cb2.length+k=bs.length+1+size) (fun vi _=>(intOf vi+1).toNat)
  case atStart=>exact⟨size,cb++[fb],UY,AMi _,by rw[HCB.o];simp,NW.o,NK.o,by rw[HCB.o,AMf];rfl⟩
  case round=>
   obtain⟨k,cb2,rfl,hk,hcc,hwr,hwk,hlen2⟩:=hrel
   rcases k with _|k
   ·have HC2:Shut (cb2=bs++fb::beBytes n size):=⟨by rw[←hcc];simp[beBytes]⟩;have HWZ:=sq hwr;have HKZ:=sq hwk;clear hcc hwr hwk hk hlen2;simp only[Int.natCast_zero,Int.zero_sub];go_wp2_with fail;go_ret;exact LD.done HIT.o (by rw[HP.o,←HC2.o];exact HWZ.o) (HK0.o.trans HKZ.o)
   ·have HBB:=sq (HBB.o.wk hwk NE.o.1 ND);have HRB:=sq (HRB.o.wk hwk NE.o.2.1 ND);have HNB:=sq (HNB.o.wk hwk NE.o.2.2 ND);have HBS:=sq (AMj HBS.o hwk.size);have HKZ:=sq hwk;have HWZ:=sq hwr;have HCC:=sq hcc;have HLZ:=sq hlen2;have HKL:=sq hk;rw[show (((k+1:Nat):Int)-1)=(k:Int) by omega];clear hwk hwr hcc hlen2 HGB HOW HX HXN HLN HCB;have hk8:k≤8:=KA
    obtain⟨b4,hb4⟩:∃b4,b4=WG n k:=⟨_,rfl⟩;have HB4:=sq hb4;obtain⟨q,hq⟩:∃q,q=n>>>(8*k):=⟨_,rfl⟩;have E3:Shut ((n:Int)/2^(8*(k:Int)).toNat=(q:Int)):=⟨by
     rw[hq,show (8*(k:Int)).toNat=8*k by omega,AN1];simp⟩
    have E4:Shut (IntKind.u8.wrap (q:Int)=(b4.toNat:Int)):=⟨by rw[hb4,hq];exact iA _⟩;have E5:Shut (IntKind.i64.wrap (8*(k:Int))=8*(k:Int)):=⟨IntWalk.i64_in _ KA⟩;clear hb4 hq;go_wp2_with fail;obtain⟨v,hg,ho⟩:=HWZ.o;obtain⟨X,hX⟩:∃X,X=v.ownBlock.toList:=⟨_,rfl⟩;have HX:=sq hX;have HXN:Shut (bw∉X∧g∉X∧w.heap.size∉X∧bn∉X):=⟨by
     rw[hX];exact⟨Al ho HBB.o ND,Al ho hg ND,Al ho HRB.o ND,Al ho HNB.o ND⟩⟩
    have HGB:=sq hg;have HOW:=sq ho;clear hg ho hX;obtain⟨cb,hcb⟩:∃cb,cb=cb2:=⟨_,rfl⟩;rw[←hcb] at HOW HLZ HCC;clear hcb;have HLN:Shut (cb.length<100000):=⟨by have h1:=HLZ.o;have h2:=HLB.o;omega⟩;have hd:But [] wr wr.drew:=(APu [] wr).drew;refine Bh NA X [11] [14] ?_;refine Ay 0 (v:=U g) (h:=PG) ?_;refine Ay 1 (v:=U g) (h:=PG) ?_;refine Ay 2 (v:=U g) (h:=NI) ?_;refine Ay 3 (v:=U g) (h:=NI) ?_;refine Ay 4 (v:=v) (h:=PJ) ?_;refine Ay 5 (v:=Yg V n) (h:=QC) ?_;refine Ay 6 (v:=Yg Yj (k:Nat)) (h:=NI) ?_;refine Ay 7 (v:=Yg Yj ((8*k:Nat):Int)) (h:=NI) ?_;refine Ay 8 (v:=Yg V (q:Nat)) (h:=NI) ?_;refine Ay 9 (v:=Yg Yq (b4.toNat:Nat)) (h:=NI) ?_;refine FH (i:=10) (ob:=Yk #[Yg Yq ((b4).toNat:Nat)] 5) (fv:=fun h=>Yh (h:Nat) 1 1) rfl NA PE (fun W3 hl3=>?_) (fun W3 hl3=>?_)
    ·go_simp<;>with_reducible rfl
    simp only[gA9,gB9,gC9,Act.put,gD9,gE9,gF9];have N3:=sq (APw W3 #[Yg Yq ((b4).toNat:Nat)] 5);have L3:=sq ((hd.trans hl3).alloc (Yk #[Yg Yq ((b4).toNat:Nat)] 5));clear hl3 hd;generalize W3.alloc (Yk #[Yg Yq ((b4).toNat:Nat)] 5)=W4 at*;generalize W3.heap.size=g3 at*;obtain⟨ii,hii,hz,hsz,hby⟩:=F3;refine Gq (i:=11) rfl NA PE PE _ _ 32 rfl base 5 ii (Yg Yq 0) 1 1 Tryz.underlying32 hii hz hsz hby PE ND ND D6 v cb.length (BI cb) ACf rfl g3 [Yg Yq ((b4).toNat:Nat)] rfl rfl PI HLN.o ?_ ?_
    ·intro W5 hl5;exact⟨AMj HBS.o (AMj L3.o.size hl5.size),AA (AA HOW.o L3.o NC) hl5 NC,N3.o.but hl5 NC⟩
    intro W5 g5 cap W6 hl5 hrow6 hgr;simp only[gA9,gB9,gC9,Act.put,gD9,gE9,gF9];have BA:=sq (L3.o.trans hl5);have BG:=sq hgr;have R6:=sq hrow6;have OW5:=sq (AA HOW.o (L3.o.trans hl5) NC);clear hl5 hrow6 hgr N3 L3 hii hz hsz hby;have Z6:Shut (∀{k:Nat} {cs:Array Yu} {t:TypeId},AJ wr k cs t→t≠5→AJ W6 k cs t):=⟨fun hk ht=>(hk.but BA.o NC).but BG.o (Al OW5.o (hk.but BA.o NC) ht)⟩;refine D8 (i:=12) (v:=U g) rfl NA PE ?_ (fun W7 hl7=>?_)
    ·(intro W7 hl7;go_simp<;>with_reducible rfl)
    simp only[gA9,gB9,gC9,Act.put,gD9,gE9,gF9];refine D8 (i:=13) (v:=U g) rfl NA PE ?_ (fun W8 hl8=>?_)
    ·(intro W8 hl8;go_simp<;>with_reducible rfl)
    simp only[gA9,gB9,gC9,Act.put,gD9,gE9,gF9];refine Bu (i:=14) (f:=fun W8=>W8.setCell g (Yh g5 (cb.length+1) cap)) rfl NA NA NA PE (fun W9 hl9=>?_) (fun W9 W10 hl9 hl10=>?_)
    ·have bx:=(Z6.o HGB.o ND).but ((hl7.trans hl8).trans hl9) NC;have q0:=bx.cell 0 rfl;have q1:=bx.frozen 0;clear bx
     go_simp
    simp only[gA9,gB9,gC9,Act.put,gD9,gE9,gF9];have H9:=sq ((hl7.trans hl8).trans hl9);have bset:But [g] W9 (W9.setCell g (Yh g5 (cb.length+1) cap)):=(APu _ _).setCell (Or.inl NC) _;have HB10:=sq (bset.trans hl10.nil);have NW:Shut (Wr W10 g base (cb++[b4])):=⟨by
     have b9:=(Z6.o HGB.o ND).but H9.o NC;refine⟨_,(b9.set 0 _).but hl10 NC,?_⟩;rw[AMf,PZ];have r9:=AA R6.o H9.o NC;refine AA r9 HB10.o (fun k hk e=>?_);have hk':k=g:=YD
     rw[hk'] at e;have:=(AL r9 g (AMw.2 e)).2 _ _ b9;exact absurd this ND⟩
    have NK:Shut (WK g base wr W10):=⟨by
     refine (((AP2 BA.o NC).trans (AP2 BG.o (fun k hk=>Or.inr ?_))).trans (AP2 H9.o NC)).trans (AP2 HB10.o (fun k hk=>Or.inl YD));exact AL OW5.o k hk⟩
    clear hl7 hl8 hl9 hl10 bset BA BG R6 OW5 Z6 H9 HB10;go_wp2_with fail;refine⟨⟨k,cb++[b4],rfl,KA,?_,NW.o,HKZ.o.trans NK.o,?_⟩,NF⟩
    ·rw[←HCC.o,HB4.o,ANA];rfl
    ·have h1:=HLZ.o;rw[AMf,List.length_singleton];omega
def D5:Nat→List PR
 |0=>[⟨128,0,0⟩,⟨256,204,1⟩,⟨65536,205,2⟩,⟨4294967296,206,4⟩,⟨0,207,8⟩]
 |1=>[⟨256,196,1⟩,⟨65536,197,2⟩]
 |2=>[⟨32,160,0⟩,⟨256,217,1⟩,⟨65536,218,2⟩]
 |3=>[⟨16,144,0⟩,⟨65536,220,2⟩]
 |4=>[⟨16,128,0⟩,⟨65536,222,2⟩]
 |_=>[]
def oW:PR:=⟨0,0,0⟩
def prC (r:PR):List Yu:=[Yg V (r.below:Nat),Yg Yq (r.first.toNat:Nat),Yg Yj (r.size:Nat)]
def Eg (B:Nat) (W:J):Prop:=∀s,s<5→∃gb go c,W.cell? ⟨4,s,Y⟩=Z (.slice (Z ⟨gb,go,Y⟩) (D5 s).length c)∧gb<B∧gb<W.heap.size∧4<B∧4<W.heap.size∧
 ∀i,i<(D5 s).length→W.rangeAt gb (go+i*3) (prC ((D5 s).getD i oW))
theorem Eg.wk {g base:Nat} {w w':J} (h:Eg base w) (hw:WK g base w w') (hg:base≤g+1) (hgn:∀k,k<base→k≠g):Eg base w':=fun s hs=>by
 obtain⟨gb,go,c,h1,h2,h3,h4,h5,h6⟩:=h s hs;refine⟨gb,go,c,?_,h2,AMn h3 hw.size,h4,AMn h5 hw.size,fun i hi k v hv=>?_⟩
 ·exact (AMg (hw.block _ h5 (hgn _ h4) (Or.inl h4))).trans h1
 ·exact (AMg (hw.block _ h3 (hgn _ h2) (Or.inl h2))).trans (h6 i hi k v hv)
def AR (s n:Nat):List UInt8:=match (D5 s).find? (·.hit n) with
 |some r=>r.bytes n
 |none=>[]
theorem dz {L:List PR} {n:Nat} (h:∀i,i<L.length→(L.getD i oW).hit n=Yz):L.find? (·.hit n)=none:=by rw[APK];intro x hx;obtain⟨i,hi,rfl⟩:=AOT hx;have:=h i hi;rw[AMd,AMe hi,Option.getD_some] at this;simp[this]
theorem rW {L:List PR} {n j:Nat} (hj:j<L.length) (h:∀i,i<j→(L.getD i oW).hit n=Yz) (h1:(L.getD j oW).hit n=Yy):L.find? (·.hit n)=Z (L.getD j oW):=by rw[AMd,AMe hj,Option.getD_some] at h1⊢;rw[AO5];refine⟨h1,j,hj,rfl,fun i hi=>?_⟩;have:=h i hi;rw[AMd,AMe KA,Option.getD_some] at this;simp[this]
def EE (g base:Nat) (bs:List UInt8) (v:Yu) (w:J) (e:Ending) (w':J):Prop:=e=Yi v∧Wr w' g base bs∧WK g base w w'
theorem eU:∀s,s<5→∀i,i<(D5 s).length→((D5 s).getD i oW).size≤8:=by decide
theorem kz:∀s,s<5→(D5 s).length≤5:=by decide
theorem TR (s n g base:Nat) (bs:List UInt8) (w:J) (hW:Wr w g base bs) (hT:Eg base w) (hgn:∀k,k<base→k≠g) (hgb:base≤g+1) (hbase:base≤w.heap.size) (hlen:bs.length<80000) (hn:n<18446744073709551616) (hs:s<5):
  Yv Yw 234 #[U g,Yg Yj s,Yg V n] w (EE g base (bs++AR s n) (Ym #[]) w):=by have hmf:=Ch;obtain⟨w1,hw1⟩:∃w1,w1=(w.alloc (Yk #[U g] 229)).alloc (Yk #[Yg V n] 22):=⟨_,rfl⟩;have B1:Shut (But [] w w1):=⟨by rw[hw1];exact ((APu [] w).alloc _).alloc _⟩;have X1:Shut (AJ w1 w.heap.size #[U g] 229):=⟨by rw[hw1];exact (APw w _ _).alloc _⟩;have X2:Shut (AJ w1 (w.heap.size+1) #[Yg V n] 22):=⟨by rw[hw1];have:=APw (w.alloc (Yk #[U g] 229)) #[Yg V n] 22;rwa [AMk] at this⟩;have HWR:=sq (hW.but B1.o);have HK1:Shut (WK g base w w1):=⟨AP2 B1.o NC⟩;have HT:=sq (hT.wk HK1.o hgb hgn);have HGN:=sq (AMc hgn hgb);have HBS:=sq (AMj hbase B1.o.size);have HNE:Shut (w.heap.size≠g∧w.heap.size+1≠g):=⟨by have:=hW.lt;omega⟩;have HN:=sq hn;have HL:=sq hlen;have HW1:=sq hw1;have HS:=sq hs;have C1:=sq (mZ);obtain⟨gb,go,c,h1,h2,h3,h4,h5,h6⟩:=HT.o s hs;have HG2:=sq (AMc h2 h3);have HRW:=sq h6;have hs5:(s:Int)<5:=KA;obtain⟨L,hL⟩:∃L,L=D5 s:=⟨_,rfl⟩;have HLL:=sq hL;rw[←hL] at h1 HRW;(have hll:L.length≤5:=by rw[hL];exact kz s hs);(have h1':w.cell? ⟨4,s,Y⟩=Z (.slice (Z ⟨gb,go,Y⟩) L.length c):=by have hwb:w.heap.size≤w1.heap.size:=B1.o.size;rcases hT s hs with⟨gb',go',c',e1,_,_,_,e5,_⟩;have:=(AMg (B1.o.block _ e5 NC)).symm.trans h1;exact this);(have h5':4<w.heap.size:=by rcases hT s hs with⟨gb',go',c',e1,_,_,_,e5,_⟩;exact e5);have h50:0<w.heap.size:=KA;clear hW hT hgn hgb hbase hlen hn hw1 h1 h2 h3 h4 h5 h6 hL;go_in;go_wp2_with fail;rw[←HW1.o];clear h1' h5' h50;go_loopw [14] (fun k wr=>∃j:Nat,k=Yg Yj j∧j≤L.length∧Wr wr g base bs∧WK g base w1 wr∧∀i,i<j→(L.getD i oW).hit n=Yz) (fun k _=>L.length-(intOf k).toNat);(case atStart=>exact⟨0,rfl,KA,HWR.o,WK.refl _ _ _,by intro i hi;omega⟩);case round=>obtain⟨j,rfl,hj,hwr,hwk,hno⟩:=hrel;have HKW:=sq hwk;have HNO:=sq hno;by_cases hjn:j<L.length;(·have hjn':((j:Int)<(L.length:Int)):=KA;obtain⟨r,hr⟩:∃r,r=L.getD j oW:=⟨_,rfl⟩;have RA:Shut (wr.rangeAt gb (go+j*3) (prC r)):=⟨fun k v hv=>by have:=HRW.o j hjn k v (by rw[←hr];exact hv);exact (AMg (hwk.block _ HG2.o.2 (HGN.o.1 _ HG2.o.1) (Or.inl HG2.o.1))).trans this⟩;have hlt:gb<wr.heap.size:=AMn HG2.o.2 hwk.size;have r0:wr.cell? ⟨gb,go+j*3,Y⟩=Z (Yg V (r.below:Nat)):=RA.o 0 _ rfl;have r1:wr.cell? ⟨gb,go+j*3+1,Y⟩=Z (Yg Yq (r.first.toNat:Nat)):=RA.o 1 _ rfl;have r2:wr.cell? ⟨gb,go+j*3+2,Y⟩=Z (Yg Yj (r.size:Nat)):=RA.o 2 _ rfl;have BA:=sq ((APu [] wr).alloc (Yk #[Yg V (r.below:Nat),Yg Yq (r.first.toNat:Nat),Yg Yj (r.size:Nat)] 368));have HWA:=sq (hwr.but BA.o);have XA1:=sq ((X1.o.wk hwk HNE.o.1 ND).but BA.o NC);have XA2:=sq ((X2.o.wk hwk HNE.o.2 ND).but BA.o NC);have HKA:Shut (WK g base w1 (wr.alloc (Yk #[Yg V (r.below:Nat),Yg Yq (r.first.toNat:Nat),Yg Yj (r.size:Nat)] 368))):=⟨hwk.trans (AP2 BA.o NC)⟩;have HSZ:Shut (r.size≤8):=⟨by rw[hr,HLL.o];exact eU s HS.o j (by rw[←HLL.o];exact hjn)⟩;have CC:=sq (C1.o r.below r.first r.size n g base (w.heap.size+1) w.heap.size bs _ HWA.o XA2.o XA1.o AD7 (AMj HBS.o HKA.o.size) HN.o HSZ.o);have HRR:=sq hr;clear hwr hwk hno hr;go_wp2_with fail;refine CC.o.mono ?_;rintro e w3 ⟨rfl,hw3,hk3⟩;have HW3:=sq hw3;have HK3:=sq (HKA.o.trans hk3);clear hw3 hk3 r0 r1 r2 hlt;have HET:Shut (PR.hit ⟨r.below,r.first,r.size⟩ n=r.hit n):=⟨rfl⟩;rcases hh:r.hit n with _|_;(·rw[show PR.hit ⟨r.below,r.first,r.size⟩ n=Yz from hh] at HW3;have HHH:=sq hh;clear hh;go_wp2_with fail;refine⟨⟨j+1,NC,KA,HW3.o,HK3.o,fun i hi=>?_⟩,NF⟩;by_cases e:i=j;(rw[e,←HRR.o];exact HHH.o);exact HNO.o i KA);rw[show PR.hit ⟨r.below,r.first,r.size⟩ n=Yy from hh] at HW3;have HHH:=sq hh;clear hh;go_wp2_with fail;refine AMo (APn rfl _ _ _) rfl ?_;refine⟨rfl,?_,HK1.o.trans HK3.o⟩;have:=HW3.o;simp only[if_true] at this;unfold AR;rw[←HLL.o,rW hjn HNO.o (by rw[←HRR.o];exact HHH.o),←HRR.o];exact this);have hjn':¬((j:Int)<(L.length:Int)):=KA;have HWZ:=sq hwr;clear hwr hwk hno;go_wp2_with fail;go_end0;refine⟨rfl,?_,HK1.o.trans HKW.o⟩;unfold AR;rw[←HLL.o,dz (fun i hi=>HNO.o i KA),AM2];exact HWZ.o
structure Uh (g base:Nat) (bs:List UInt8) (w:J):Prop where
 wr:Wr w g base bs
 tab:Eg base w
 ne:∀k,k<base→k≠g
 gb:base≤g+1
 low:base≤w.heap.size
theorem Uh.next {g base:Nat} {bs bs':List UInt8} {w w':J} (h:Uh g base bs w) (hw:Wr w' g base bs') (hk:WK g base w w'):Uh g base bs' w':=
 ⟨hw,h.tab.wk hk h.gb h.ne,h.ne,h.gb,AMj h.low hk.size⟩
theorem Uh.but {g base:Nat} {bs:List UInt8} {w w':J} (h:Uh g base bs w) (hb:But [] w w'):Uh g base bs w':=h.next (h.wr.but hb) (AP2 hb NC)
theorem jZ (k:Nat) (h:k<65536):IntKind.u64.wrap (k:Int)=(k:Int):=IntWalk.u64_in _ KA
theorem OP (s k g base:Nat) (bs:List UInt8) (w:J) (h:Uh g base bs w) (hlen:bs.length<80000) (hk:k<65536) (hs:s<5):
  Yv Yw 307 #[U g,Yg Yj s,Yg Yj k] w (EE g base (bs++AR s k) (Yg Yj 0) w):=by have HC:=sq (TR s k g base bs w h.wr h.tab h.ne h.gb h.low hlen KA hs);have h1:¬((k:Int)<0):=KA;have h2:¬((k:Int)≥65536):=KA;have h3:¬(65536≤k):=KA;have hw:=jZ k hk;exact AEf
theorem nV (S:List UInt8):Go.Lib.strCells (AB S)=BI S:=rfl
theorem JQ (a b:List UInt8):BI (a++b)=BI a++BI b:=by simp[BI]
theorem QY (s g base:Nat) (S bs:List UInt8) (w:J) (h:Uh g base bs w) (hlen:bs.length<80000) (hk:S.length<65536) (hs:s<5) (hB:bs.length+(AR s S.length).length<90000):
  Yv Yw 304 #[U g,Yg Yj s,O (AB S)] w (EE g base (bs++AR s S.length++S) (Yg Yj 0) w):=by have HC:=sq (OP s S.length g base bs w h hlen hk hs);have HO:=sq h;have HBB:=sq hB;have hsz:=AQ S;clear h hB;go_in;go_wp2_with fail;refine HC.o.mono ?_;rintro e w1 ⟨rfl,hw1,hk1⟩;have HK:=sq hk1;obtain⟨v,hg,ho⟩:=hw1;have HG:=sq hg;have HOW:=sq ho;have HBS:Shut (base≤w1.heap.size):=⟨AMj HO.o.low hk1.size⟩;have g0:=hg.cell 0 (v:=v) rfl;have gl:=hg.lt;obtain⟨cb,hcb⟩:∃cb,cb=bs++AR s S.length:=⟨_,rfl⟩;rw[←hcb] at HOW;have HCB:=sq hcb;have HLN:Shut (cb.length+(AB S).size<160000):=⟨by rw[hcb,AMf,AQ];have:=HBB.o;omega⟩;obtain⟨ii,hii,hz,hsz1,hby⟩:=F3;have HI:=AFf;have HML:=AHN;clear hg ho hk1 hcb hii hz hsz1 hby hsz;go_wp2_with (refine AO1 _ rfl (.tmp 19) (.tmp 20) 32 9 rfl base 5 ii Tryz.underlying32 Tryz.underlying9 HI.o.1 HI.o.2.1 HI.o.2.2.1 HI.o.2.2.2 v cb.length (BI cb) rfl HOW.o (AB S) rfl (by rw[HML.o];have:=HLN.o;omega) (by have:=HLN.o;omega) HBS.o ?_);intro v2 w2 ho2 hg2 _;(obtain⟨A2,m2,c2,rfl⟩:∃A n c,v2=.slice A n c:=by rcases ho2.2 with⟨h,_⟩|⟨g,c,_,h,_⟩;(exact⟨_,_,_,h⟩);exact⟨_,_,_,h⟩);have HO2:=sq ho2;have HB2:=sq (AP1 hg2 (Cw HOW.o D6));have HG2:Shut (AJ w2 g #[v] 343):=⟨HG.o.but HB2.o (Al HOW.o HG.o ND)⟩;clear ho2 hg2 g0 gl;have g0:=HG2.o.cell 0 (v:=v) rfl;have gf:=HG2.o.frozen 0;have gl:=HG2.o.lt;go_wp2_with fail;go_ret;refine⟨rfl,?_,?_⟩;(refine⟨_,HG2.o.set 0 _,?_⟩;rw[←HCB.o,AMf,JQ,←AQ S,←nV];refine AA HO2.o ((APu [g] w2).setCell (p:=g) (Or.inl NC) _) (fun k hk e=>?_);have hk':k=g:=YD;rw[hk'] at e;exact absurd ((AL HO2.o g (AMw.2 e)).2 _ _ HG2.o) ND);refine (HK.o.trans (AP2 HB2.o (fun k hk=>Or.inr (AL HOW.o k hk)))).trans (AP2 ((APu [g] w2).setCell (p:=g) (Or.inl NC) _) (fun k hk=>Or.inl YD))
theorem Wf (n:Nat) (g base:Nat) (bs:List UInt8) (w:J) (h:Uh g base bs w) (hlen:bs.length<80000) (hn:n<18446744073709551616):
  Yv Yw 161 #[U g,Yg V n] w (EE g base (bs++AR 0 n) (Yg Yj 0) w):=by have HC:=sq (TR 0 n g base bs w h.wr h.tab h.ne h.gb h.low hlen hn ND);exact AEf
theorem oz (n:Nat) (g base:Nat) (bs:List UInt8) (w:J) (h:Uh g base bs w) (hlen:bs.length<80000) (hn:n<65536):
  Yv Yw 248 #[U g,Yg Yj n] w (EE g base (bs++AR 4 n) (Yg Yj 0) w):=by have HC:=sq (OP 4 n g base bs w h hlen hn ND);exact AEf
theorem jT (n:Nat) (g base:Nat) (bs:List UInt8) (w:J) (h:Uh g base bs w) (hlen:bs.length<80000) (hn:n<65536):
  Yv Yw 231 #[U g,Yg Yj n] w (EE g base (bs++AR 3 n) (Yg Yj 0) w):=by have HC:=sq (OP 3 n g base bs w h hlen hn ND);exact AEf
theorem Wg (S:List UInt8) (g base:Nat) (bs:List UInt8) (w:J) (h:Uh g base bs w) (hlen:bs.length<80000) (hn:S.length<65536) (hB:bs.length+(AR 1 S.length).length<90000):
  Yv Yw 219 #[U g,O (AB S)] w (EE g base (bs++AR 1 S.length++S) (Yg Yj 0) w):=by have HC:=sq (QY 1 g base S bs w h hlen hn ND hB);exact AEf
theorem oo (S:List UInt8) (g base:Nat) (bs:List UInt8) (w:J) (h:Uh g base bs w) (hlen:bs.length<80000) (hn:S.length<65536) (hB:bs.length+(AR 2 S.length).length<90000):
  Yv Yw 249 #[U g,O (AB S)] w (EE g base (bs++AR 2 S.length++S) (Yg Yj 0) w):=by have HC:=sq (QY 2 g base S bs w h hlen hn ND hB);exact AEf
theorem Da {g o k:Nat}:(⟨g,o,Y⟩:Addr).add k=⟨g,o+k,Y⟩:=ALH
theorem ow (w:J):Yv Yw 196 #[] w fun e w'=>e=Yi (U w.heap.size)∧Wr w' w.heap.size w.heap.size []∧But [] w w':=by have B:=sq ((APu [] w).alloc (Yk #[.slice Y 0 0] 343));have X:=sq (APw w #[.slice Y 0 0] 343);go_in;go_wp2_with fail;go_ret;exact⟨rfl,⟨_,X.o,rfl,Or.inl ⟨rfl,rfl⟩⟩,B.o⟩
theorem jO (g base:Nat) (bs:List UInt8) (w:J) (h:Wr w g base bs) (hl:bs.length<1000000):Yv Yw 197 #[U g] w fun e w'=>e=Yi (O (AB bs))∧But [] w w':=by obtain⟨v,hg,ho⟩:=h;have hcv:(convert 32 9 v).run Yw w=.ok (O (AB bs)) w:=AEw;have g0:=hg.cell 0 (v:=v) rfl;have gl:=hg.lt;clear hg ho;exact AMD
end Go.Proofs.YtiapejgiinidhaaGreatDoor
