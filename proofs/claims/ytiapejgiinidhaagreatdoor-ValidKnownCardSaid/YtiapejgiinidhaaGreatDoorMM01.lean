import Derived.Test.YtiapejgiinidhaaGreatDoorMM00
import Derived.Laws.OwnMore
import Derived.KernelRfl
import Derived.Laws.AppendOwn
import Derived.Deep.Draws
import Derived.Test.YtiapejgiinidhaaGreatDoorRows
import Derived.Deep.RegionWith
import Derived.Deep.Cut
import Derived.Recover
import Derived.Handy
import Derived.Deep.RegionHeld3
set_option linter.all false
set_option maxRecDepth 100000
set_option maxHeartbeats 40000000
namespace Go.Proofs.YtiapejgiinidhaaGreatDoor
open Value renaming int→Yg,pointer→U,string→O,func→G,slice→Yh,bool→Yl,tuple→Ym,iface→Yo,agg→Yr
open IntKind renaming u64→V,i64→Yj,u32→Yt
open Obj renaming cells→Yk
open Ending renaming returned→Yi
open Fn renaming func→M
open Go renaming World→J,Value→Yu,Calls→Yv
open Go.Proofs.Tryz renaming prog→Yw
open Option renaming some→Z,none→Y
open Bool renaming true→Yy,false→Yz
open Go Go.RowKit
variable {F:Fence} {n:Nat} {P:Program}
def Vt {α:Type} (B:Nat) (I:List α→J→Prop) (Ix:Code→List α→J→Prop) (xs:List α) (W:J):Exit→Act→J→Prop
 |.normal,_,W'=>KeepsFrom B W W'∧I xs W'
 |.ret,_,W'=>KeepsFrom B W W'∧Ix .ret xs W'
 |.exit id,_,W'=>KeepsFrom B W W'∧Ix (.exit id) xs W'
 |.goto t,_,W'=>KeepsFrom B W W'∧Ix (.goto t) xs W'
 |.panic _,_,_=>False
 |.outgrown,_,_=>False
def Ui {β:Type} (B:Nat) (I:β→J→Prop):Prop:=
 ∀s W l o o',I s W→B≤l→W.heap[l]?=Z o→o.isCells=Yz→I s (W.putObj l o')
theorem OwnFrom.stays {β:Type} {B:Nat} {I:β→J→Prop} (h:OwnFrom B I):Ui B I:=
 fun _ _ _ _ o' hs hB hl ho=>h.putObj o' hs hB hl ho
def AP7:=@OwnFrom.stays
theorem D7 {α:Type} {g:Operand} {ps:Array Tmp} {assign body:Code} {Q:Exit→Act→J→Prop} {a:Act} {w:J}
  (hro:F.round=Y) (h1:1≤n) {gf:Nat} {lb:Array Yu} (hg:a.eval g=G (M gf) #[] lb) (hFg:F.fn gf) (eg:∀args w,(callFunc gf args).run P w=.ok (.enter gf args) w)
  {encs:α→Array Yu} (hps:∀x,(encs x).size=ps.size) {S:List α→Prop}
  (I:List α→J→Prop) (Yf:List α×α→J→Prop) (Ix:Code→List α→J→Prop)
  (hI:OwnFrom w.heap.size I) (hM:Ui w.heap.size Yf) (hIx:∀c,Ui w.heap.size (Ix c)) (h0:I [] w) (a₁:α→Act)
  (hassign:∀(l:Nat) (x:α) (W:J) (K:Act→J→Prop),K (a₁ x) W→
   assign.wpIn (F.inRound l) (n-1-1) P (Exit.then K (fun _ _ _=>False)) {tmps:=(ps.zip (encs x)).foldl (fun t (p,v)=>t.setIfInBounds p v) a.tmps,defers:=[]} W)
  (hbody:∀(l:Nat) (pre:List α) (x:α) (W:J),Yf (pre,x) W→body.wpIn (F.inRound l) (n-1-1) P (Vt w.heap.size I Ix (pre++[x]) W) (a₁ x) W)
  (hiter:∀(l:Nat) (R:J→Prop) (Rx:Code→J→Prop),w.heap.size≤l→(∀W W',R W→KeepsFrom w.heap.size W W'→R W')→
   (∀c W W',Rx c W→KeepsFrom w.heap.size W W'→Rx c W')→(∀W,R W→l<W.heap.size)→
   (∀pre x W,Yf (pre,x) W→R W→YieldAt F (n-1-1) P l (encs x) W fun e W'=>
    (e=Yi (Yl Yy)∧I (pre++[x]) W'∧R W')∨(e=Yi (Yl Yz)∧∃c,Ix c (pre++[x]) W'∧Rx c W'))→
   ∀W,I [] W→R W→CallsIn F (n-1) P gf (#[.func (.yield l) #[] #[]]++lb) W fun e W'=>(∃v,e=Yi v)∧
    ((∃xs,S xs∧I xs W'∧R W')∨(∃c pre,Ix c pre W'∧Rx c W')))
  (hdone:∀(xs:List α) (W:J),S xs→I xs W→W.heap[w.heap.size]?=Z (.deferred (Z []))→Q .normal {a with defers:={target:=.collected w.heap.size,args:=#[]}::a.defers} W)
  (hstop:∀(c:Code) (pre:List α) (W:J),Ix c pre W→W.heap[w.heap.size]?=Z (.deferred (Z []))→c.wpIn F n P Q {a with defers:={target:=.collected w.heap.size,args:=#[]}::a.defers} W):
  (Code.rangeFunc g ps assign body).wpIn F n P Q a w:=by
 refine wpIn_rangeFunc ?_;intro fn hfn;rw[hro];obtain⟨rec,hrec⟩:∃rec:LoopState→Option Code→Loop,rec=fun st pe=>{state:=st,pending:=pe,fn,tmps:=a.tmps,params:=ps,assign,body,defers:=w.heap.size}:=⟨_,rfl⟩;obtain⟨W1,hW1⟩:∃W1,(w.alloc (.deferred (Z []))).alloc (.loop (rec .ready Y))=W1:=⟨_,rfl⟩;obtain⟨hL1,hK1,hI1⟩:=AEu
 refine⟨w.heap.size+1,[{target:=.collected w.heap.size,args:=#[]}],W1,{target:=.fn (.func gf) lb,args:=#[.func (.yield (w.heap.size+1)) #[] #[]]},W1,gf,
  #[.func (.yield (w.heap.size+1)) #[] #[]]++lb,W1,?_,?_,?_,?_,fun _=>h1,?_⟩
 (exact AIx);(exact AKf);(exact AIK);(·simp[invoke,go_sem,eg])
 refine (hiter (w.heap.size+1)
  (fun W=>W.heap[w.heap.size+1]?=Z (.loop (rec .ready Y))∧W.heap[w.heap.size]?=Z (.deferred (Z [])))
  (fun c W=>W.heap[w.heap.size+1]?=Z (.loop (rec .done (Z c)))∧W.heap[w.heap.size]?=Z (.deferred (Z [])))
  (ANr _)
  (fun W W' h hk=>⟨hk.same _ _ (ANr _) h.1 rfl,hk.same _ _ (AMi _) h.2 rfl⟩)
  (fun c W W' h hk=>⟨hk.same _ _ (ANr _) h.1 rfl,hk.same _ _ (AMi _) h.2 rfl⟩)
  (fun W h=>(AMm.1 h.1).1)
  ?_ W1 hI1 ⟨hL1,hK1⟩).mono ?_
 ·rintro pre x W hi ⟨hl,hk⟩;obtain⟨hlt,hy⟩:=AKD;rw[hrec] at hy;refine⟨fn,_,assign,body,hy,roundIn_of_wpIn hfn (hassign _ x W _ ⟨_,run_beginRound hl (by rw[hrec]),?_⟩)⟩;obtain⟨hl2,hk2⟩:=AFo;refine wpIn_mono (hbody _ pre x _ (hM _ _ _ _ _ hi KA hl rfl)) ?_
  have fin:∀(jump:Option Code) (W3:J),KeepsFrom w.heap.size (W.putObj (w.heap.size+1) (.loop {rec .ready Y with state:=.busy})) W3→
    (Instr.endRound (w.heap.size+1) jump).run P W3=.ok (Yl jump.isNone) (W3.putObj (w.heap.size+1) (.loop (rec (if jump.isNone then .ready else .done) jump)))∧
    W3.heap[w.heap.size+1]?=Z (.loop {rec .ready Y with state:=.busy})∧
    (W3.putObj (w.heap.size+1) (.loop (rec (if jump.isNone then .ready else .done) jump))).heap[w.heap.size+1]?=Z (.loop (rec (if jump.isNone then .ready else .done) jump))∧
    (W3.putObj (w.heap.size+1) (.loop (rec (if jump.isNone then .ready else .done) jump))).heap[w.heap.size]?=Z (.deferred (Z [])):=fun jump W3 hk3=>by
   have hl3:=hk3.same _ _ (ANr _) hl2 rfl;have:=run_endRound (P:=P) jump hl3;rw[hrec] at this⊢;exact⟨this,ACd,World.putObj_heap_same (AMm.1 hl3).1,(World.putObj_heap_other KA).trans (hk3.same _ _ (AMi _) hk2 rfl)⟩
  exact AEl
 exact AEv
def AJ (W:J) (g:Nat) (cs:Array Yu) (t:TypeId):Prop:=W.heap[g]?=Z (.cells cs t (0,0))
def Root (t:TypeId):Prop:=t=27∨t=27
instance (t:TypeId):Decidable (Root t):=inferInstanceAs (Decidable (_∨_))
theorem AJ.lt0 {W:J} {g:Nat} {cs:Array Yu} {t:TypeId} (h:AJ W g cs t):g<W.heap.size:=AKt
structure But (L:List Nat) (w w':J):Prop where
 os:w'.os=w.os
 tape:w'.tape=w.tape
 output:w'.output=w.output
 size:w.heap.size≤w'.heap.size
 block:∀k,k<w.heap.size→k∉L→w'.heap[k]?=w.heap[k]?
 shape:∀k cs t,Root t→AJ w k cs t→∃cs',cs'.size=cs.size∧AJ w' k cs' t
theorem cz {w w':J} {k:Nat} {cs:Array Yu} {t:TypeId} (h:AJ w k cs t) (e:w'.heap[k]?=w.heap[k]?):∃cs',cs'.size=cs.size∧AJ w' k cs' t:=⟨cs,rfl,e.trans h⟩
theorem Fp (w:J):∀k cs t,Root t→AJ w k cs t→∃cs',cs'.size=cs.size∧AJ w k cs' t:=fun _ cs _ _ h=>⟨cs,rfl,h⟩
theorem FJ {a b c:J} (h:∀k cs t,Root t→AJ a k cs t→∃cs',cs'.size=cs.size∧AJ b k cs' t) (h':∀k cs t,Root t→AJ b k cs t→∃cs',cs'.size=cs.size∧AJ c k cs' t):∀k cs t,Root t→AJ a k cs t→∃cs',cs'.size=cs.size∧AJ c k cs' t:=fun k cs t ht hb=>by
 obtain⟨c1,e1,b1⟩:=h k cs t ht hb;obtain⟨c2,e2,b2⟩:=h' k c1 t ht b1;exact⟨c2,e2.trans e1,b2⟩
theorem jw (w:J) (p:Addr) (u:Yu):∀k cs t,Root t→AJ w k cs t→∃cs',cs'.size=cs.size∧AJ (w.setCell p u) k cs' t:=fun k cs t _ h=>by
 unfold AJ at h⊢
 by_cases e:p.block=k
 ·subst e;refine⟨if p.spot.isSome then cs else cs.setIfInBounds p.off u,by split<;>simp,?_⟩;simp[World.setCell,ANj,h]
 ·exact⟨cs,rfl,(AOf _ _ _ _ KA).trans h⟩
theorem Hz {w w':J} (h:∀k,k<w.heap.size→w'.heap[k]?=w.heap[k]?):∀k cs t,Root t→AJ w k cs t→∃cs',cs'.size=cs.size∧AJ w' k cs' t:=fun k cs t _ hb=>⟨cs,rfl,(h k hb.lt0).trans hb⟩
theorem But.refl (L:List Nat) (w:J):But L w w:=⟨rfl,rfl,rfl,AMi _,fun _ _ _=>rfl,Fp _⟩
def APu:=@But.refl
theorem But.trans {L:List Nat} {a b c:J} (h:But L a b) (k:But L b c):But L a c:=
 ⟨k.os.trans h.os,k.tape.trans h.tape,k.output.trans h.output,AMj h.size k.size,fun i hi hn=>(k.block i (AMn hi h.size) hn).trans (h.block i hi hn),FJ h.shape k.shape⟩
theorem But.mono {L L':List Nat} {w w':J} (h:But L w w') (hs:∀k,k<w.heap.size→k∈L→k∈L'):But L' w w':=
 ⟨h.os,h.tape,h.output,h.size,fun k hk hn=>h.block k hk fun hm=>hn (hs k hk hm),h.shape⟩
theorem But.nil {L:List Nat} {w w':J} (h:But [] w w'):But L w w':=h.mono NC
theorem But.drew {L:List Nat} {a w:J} (h:But L a w):But L a w.drew:=⟨h.os,h.tape,h.output,h.size,h.block,h.shape⟩
theorem But.alloc {L:List Nat} {a w:J} (h:But L a w) (o:Obj):But L a (w.alloc o):=
 h.trans ⟨rfl,rfl,rfl,NC,fun k hk _=>AOW _ _ _ hk,Hz fun k hk=>AOW _ _ _ hk⟩
theorem But.setCell {L:List Nat} {a w:J} (h:But L a w) {p:Addr} (hp:p.block∈L∨a.heap.size≤p.block) (u:Yu):But L a (w.setCell p u):=
 ⟨h.os,h.tape,h.output,by simpa [World.setCell] using h.size,fun k hk hn=>(AOf _ _ _ _ (by
  intro e;subst e
  rcases hp with hp|hp
  ·exact hn hp
  ·omega)).trans (h.block k hk hn),FJ h.shape (jw _ _ _)⟩
theorem But.below {L:List Nat} {w w':J} (h:But L w w') {B:Nat} (hB:B≤w.heap.size) (hL:∀k∈L,B≤k):Below B w w':=
 ⟨h.os,h.tape,h.output,h.size,fun k hk=>h.block k KA (fun hm=>by have:=hL k hm;omega)⟩
theorem But.ofBelow {w w':J} (h:Below w.heap.size w w'):But [] w w':=⟨h.os,h.tape,h.output,h.size,fun k hk _=>h.block k hk,Hz h.block⟩
def APv:=@But.ofBelow
theorem But.later {w w':J} (h:But [] w w'):Below w.heap.size w w':=h.below (AMi _) NC
section
variable {W W':J} {g:Nat} {cs:Array Yu} {t:TypeId} {L:List Nat}
theorem AJ.lt (h:AJ W g cs t):g<W.heap.size:=AKt
theorem AJ.cell (h:AJ W g cs t) (k:Nat) {v:Yu} (hv:cs[k]?=Z v):W.cell? ⟨g,k,Y⟩=Z v:=by unfold AJ at h;simp[World.cell?,h,hv]
theorem AJ.frozen (h:AJ W g cs t) (k:Nat):W.frozen? ⟨g,k,Y⟩=false:=by unfold AJ at h;simp[World.frozen?,h]
theorem AJ.but (h:AJ W g cs t) (hb:But L W W') (hg:g∉L):AJ W' g cs t:=(hb.block g h.lt hg).trans h
def APx:=@AJ.but
theorem AJ.new (W:J) (cs:Array Yu) (t:TypeId):AJ (W.alloc (.cells cs t)) W.heap.size cs t:=by unfold AJ;show (W.heap.push _)[W.heap.size]?=_;simp
def APw:=@AJ.new
theorem AJ.alloc (h:AJ W g cs t) (o:Obj):AJ (W.alloc o) g cs t:=(AOW _ _ _ h.lt).trans h
def AP9:=@AJ.alloc
theorem AJ.drew (h:AJ W g cs t):AJ W.drew g cs t:=h
theorem AJ.set (h:AJ W g cs t) (k:Nat) (v:Yu):AJ (W.setCell ⟨g,k,Y⟩ v) g (cs.setIfInBounds k v) t:=by unfold AJ at h⊢;simp[World.setCell,ANj,h]
def AP3:=@AJ.set
theorem AJ.far (h:AJ W g cs t) {p:Addr} (hp:p.block≠g) (v:Yu):AJ (W.setCell p v) g cs t:=(AOf _ _ _ _ KA).trans h
end
def m32 (x:Nat):Nat:=x%4294967296
theorem El (x:Nat):m32 x<4294967296:=ANu _ ND
theorem wu (x y:Nat):m32 (m32 x+y)=m32 (x+y):=by unfold m32;omega
theorem aH (x y:Nat):m32 (x+m32 y)=m32 (x+y):=by unfold m32;omega
def rt (x n:Nat):Nat:=(x/2^n) ||| m32 (x*2^(32-n))
theorem Dm {x n:Nat} (h:x<4294967296):rt x n<4294967296:=
 Nat.or_lt_two_pow (n:=32) (ANg (ANk _ _) h) (El _)
def Pi (x:Nat):Nat:=(rt x 7^^^rt x 18)^^^(x/2^3)
def WU (x:Nat):Nat:=(rt x 17^^^rt x 19)^^^(x/2^10)
def nk (x:Nat):Nat:=(rt x 2^^^rt x 13)^^^rt x 22
def Pb (x:Nat):Nat:=(rt x 6^^^rt x 11)^^^rt x 25
def ch (e f g:Nat):Nat:=g^^^(e &&& (f^^^g))
def mj (a b c:Nat):Nat:=((a &&& b)^^^(a &&& c))^^^(b &&& c)
theorem F8 {x y:Nat} (h:x<4294967296) (k:y<4294967296):x^^^y<4294967296:=Nat.xor_lt_two_pow (n:=32) h k
theorem Dw {x:Nat} (h:x<4294967296) (y:Nat):x &&& y<4294967296:=ANg Nat.and_le_left h
theorem Jj {x y:Nat} (h:x<4294967296) (k:y<4294967296):x ||| y<4294967296:=Nat.or_lt_two_pow (n:=32) h k
theorem G9 {x:Nat} (h:x<4294967296) (k:Nat):x/k<4294967296:=ANg (ANk _ _) h
structure S8 where
 a:Nat
 b:Nat
 c:Nat
 d:Nat
 e:Nat
 f:Nat
 g:Nat
 h:Nat
structure S8.ok (s:S8):Prop where
 a:s.a<4294967296
 b:s.b<4294967296
 c:s.c<4294967296
 d:s.d<4294967296
 e:s.e<4294967296
 f:s.f<4294967296
 g:s.g<4294967296
 h:s.h<4294967296
def rx (k w:Nat) (v:S8):Nat:=m32 (v.h+k+w+Pb v.e+ch v.e v.f v.g)
def ry (v:S8):Nat:=m32 (nk v.a+mj v.a v.b v.c)
def KI (k w:Nat) (v:S8):S8:=⟨m32 (rx k w v+ry v),v.a,v.b,v.c,m32 (v.d+rx k w v),v.e,v.f,v.g⟩
theorem zT {k w:Nat} {v:S8} (h:v.ok):(KI k w v).ok:=⟨El _,h.a,h.b,h.c,El _,h.e,h.f,h.g⟩
def EL:List Nat:=[0x428a2f98,0x71374491,0xb5c0fbcf,0xe9b5dba5,0x3956c25b,0x59f111f1,0x923f82a4,0xab1c5ed5,
 0xd807aa98,0x12835b01,0x243185be,0x550c7dc3,0x72be5d74,0x80deb1fe,0x9bdc06a7,0xc19bf174,
 0xe49b69c1,0xefbe4786,0x0fc19dc6,0x240ca1cc,0x2de92c6f,0x4a7484aa,0x5cb0a9dc,0x76f988da,
 0x983e5152,0xa831c66d,0xb00327c8,0xbf597fc7,0xc6e00bf3,0xd5a79147,0x06ca6351,0x14292967,
 0x27b70a85,0x2e1b2138,0x4d2c6dfc,0x53380d13,0x650a7354,0x766a0abb,0x81c2c92e,0x92722c85,
 0xa2bfe8a1,0xa81a664b,0xc24b8b70,0xc76c51a3,0xd192e819,0xd6990624,0xf40e3585,0x106aa070,
 0x19a4c116,0x1e376c08,0x2748774c,0x34b0bcb5,0x391c0cb3,0x4ed8aa4a,0x5b9cca4f,0x682e6ff3,
 0x748f82ee,0x78a5636f,0x84c87814,0x8cc70208,0x90befffa,0xa4506ceb,0xbef9a3f7,0xc67178f2]
def iv:S8:=⟨0x6a09e667,0xbb67ae85,0x3c6ef372,0xa54ff53a,0x510e527f,0x9b05688c,0x1f83d9ab,0x5be0cd19⟩
theorem Ty:iv.ok:=⟨ND,ND,ND,ND,ND,ND,ND,ND⟩
def Gu (b:List Nat):Nat→List Nat
 |0=>b
 |n+1=>Gu b n++[m32 ((Gu b n).getD n 0+Pi ((Gu b n).getD (n+1) 0)+(Gu b n).getD (n+9) 0+WU ((Gu b n).getD (n+14) 0))]
theorem Ey {b:List Nat} (hb:b.length=16):∀n,(Gu b n).length=16+n
 |0=>hb
 |n+1=>by rw[Gu,AMf,Ey hb n];rfl
theorem OX {b:List Nat} (hb:∀x∈b,x<4294967296):∀n,∀x∈Gu b n,x<4294967296
 |0,x,h=>hb x h
 |n+1,x,h=>by
  rw[Gu] at h
  rcases AM3.1 h with h|h
  ·exact OX hb n x h
  ·rw[AMh.1 h];exact El _
def Cg (w:List Nat) (s:S8):Nat→S8
 |0=>s
 |t+1=>KI (EL.getD t 0) (w.getD t 0) (Cg w s t)
theorem LQ {w:List Nat} {s:S8} (h:s.ok):∀t,(Cg w s t).ok
 |0=>h
 |t+1=>zT (LQ h t)
def S8.add (s v:S8):S8:=⟨m32 (s.a+v.a),m32 (s.b+v.b),m32 (s.c+v.c),m32 (s.d+v.d),m32 (s.e+v.e),m32 (s.f+v.f),m32 (s.g+v.g),m32 (s.h+v.h)⟩
theorem S8.add_ok (s v:S8):(s.add v).ok:=⟨El _,El _,El _,El _,El _,El _,El _,El _⟩
def Af (l:List UInt8) (t:Nat):Nat:=(l.getD (4*t) 0).toNat*2^24+(l.getD (4*t+1) 0).toNat*2^16+(l.getD (4*t+2) 0).toNat*2^8+(l.getD (4*t+3) 0).toNat
def Cl (l:List UInt8):List Nat:=(List.range 16).map (Af l)
def comp (s:S8) (l:List UInt8):S8:=s.add (Cg (Gu (Cl l) 48) s 64)
theorem QS (s:S8) (l:List UInt8):(comp s l).ok:=S8.add_ok _ _
def Dx:Nat→S8→List UInt8→S8
 |0,s,_=>s
 |n+1,s,l=>Dx n (comp s (l.take 64)) (l.drop 64)
theorem JR:∀(n:Nat) {s:S8} (l:List UInt8),s.ok→(Dx n s l).ok
 |0,_,_,h=>h
 |n+1,_,_,_=>JR n _ (QS _ _)
def AV (n:Nat):List UInt8:=(List.range 8).map fun i=>UInt8.ofNat (n/2^(8*(7-i)))
def padded (l:List UInt8):List UInt8:=l++[128]++List.replicate ((119-l.length%64)%64) 0++AV (l.length*8)
theorem Sn (l:List UInt8):(padded l).length%64=0:=by unfold padded AV;simp only[AMf,AMl,AMr,ANm,AM8,List.length_range];omega
def IV (x:Nat):List UInt8:=[UInt8.ofNat (x/2^24),UInt8.ofNat (x/2^16),UInt8.ofNat (x/2^8),UInt8.ofNat x]
def S8.out (s:S8):List UInt8:=IV s.a++IV s.b++IV s.c++IV s.d++IV s.e++IV s.f++IV s.g++IV s.h
def XU (l:List UInt8):List UInt8:=(Dx ((padded l).length/64) iv (padded l)).out
theorem dD (l:List UInt8):(XU l).length=32:=rfl
open Go
namespace Qk
@[reducible] def Yf:Nat:=4294967296
def bQ (x:Nat):Nat:=Nat.add x (Nat.shiftLeft x 32)
def s0 (x:Nat):Nat:=(fun d=>Nat.mod (Nat.xor (Nat.xor (Nat.shiftRight d 7) (Nat.shiftRight d 18)) (Nat.shiftRight x 3)) Yf) (bQ x)
def s1 (x:Nat):Nat:=(fun d=>Nat.mod (Nat.xor (Nat.xor (Nat.shiftRight d 17) (Nat.shiftRight d 19)) (Nat.shiftRight x 10)) Yf) (bQ x)
def b0 (x:Nat):Nat:=(fun d=>Nat.mod (Nat.xor (Nat.xor (Nat.shiftRight d 2) (Nat.shiftRight d 13)) (Nat.shiftRight d 22)) Yf) (bQ x)
def b1 (x:Nat):Nat:=(fun d=>Nat.mod (Nat.xor (Nat.xor (Nat.shiftRight d 6) (Nat.shiftRight d 11)) (Nat.shiftRight d 25)) Yf) (bQ x)
def chf (e f g:Nat):Nat:=Nat.xor g (Nat.land e (Nat.xor f g))
def mjf (a b c:Nat):Nat:=Nat.xor (Nat.land a b) (Nat.land c (Nat.xor a b))
theorem EG {x n:Nat} (h:x<4294967296) (h1:0<n) (h2:n<32):Nat.shiftRight (bQ x) n%4294967296=rt x n:=by unfold bQ rt m32;show (x+x <<< 32)>>>n%4294967296=_;rw[Nat.shiftLeft_eq,AN1];have e32:(2:Nat)^32=2^(32-n)*2^n:=Z4;(have hd:(x+x*2^32)/2^n=x/2^n+x*2^(32-n):=by rw[e32,←AOq,Nat.add_mul_div_right _ _ (AOC n)]);rw[hd];(have hlt:x/2^n<2^(32-n):=by rw[Nat.div_lt_iff_lt_mul (AOC n),←e32];exact h);(have hm:x*2^(32-n)%4294967296=(x%2^n)*2^(32-n):=by have:(4294967296:Nat)=2^n*2^(32-n):=ABw;rw[this,Nat.mul_mod_mul_right]);have hxn:x%2^n<2^n:=ANu _ (AOC n);(have hsum:(x%2^n)*2^(32-n)+x/2^n<4294967296:=by have h3:(x%2^n+1)*2^(32-n)≤2^n*2^(32-n):=ANf _ hxn;have h4:(2:Nat)^n*2^(32-n)=4294967296:=ABw;rw[Nat.add_mul,Nat.one_mul] at h3;omega);rw[hm,Nat.add_mod,hm,ANv (a:=x/2^n) KA,ANv KA];rw[APl,Nat.or_comm,APm,ANy hlt]
theorem Hq (a b:Nat):(a^^^b)%4294967296=(a%4294967296)^^^(b%4294967296):=Nat.xor_mod_two_pow (n:=32)
theorem AAr {x:Nat} (h:x<4294967296):s0 x=Pi x:=by unfold s0 Pi;show ((Nat.shiftRight (bQ x) 7^^^Nat.shiftRight (bQ x) 18)^^^(x>>>3))%4294967296=_;exact AJQ
theorem AAq {x:Nat} (h:x<4294967296):s1 x=WU x:=by unfold s1 WU;show ((Nat.shiftRight (bQ x) 17^^^Nat.shiftRight (bQ x) 19)^^^(x>>>10))%4294967296=_;exact AJQ
theorem ABm {x:Nat} (h:x<4294967296):b0 x=nk x:=by unfold b0 nk;show ((Nat.shiftRight (bQ x) 2^^^Nat.shiftRight (bQ x) 13)^^^Nat.shiftRight (bQ x) 22)%4294967296=_;rw[Hq,Hq,EG h ND ND,EG h ND ND,EG h ND ND]
theorem yY {x:Nat} (h:x<4294967296):b1 x=Pb x:=by unfold b1 Pb;show ((Nat.shiftRight (bQ x) 6^^^Nat.shiftRight (bQ x) 11)^^^Nat.shiftRight (bQ x) 25)%4294967296=_;rw[Hq,Hq,EG h ND ND,EG h ND ND,EG h ND ND]
theorem ABU (a b c:Nat):mjf a b c=mj a b c:=by unfold mjf mj;show (a &&& b)^^^(c &&& (a^^^b))=_;rw[Nat.and_xor_distrib_left,Nat.xor_assoc,Nat.and_comm c a,Nat.and_comm c b]
def rn (kw:Nat) (v:S8):S8:=⟨m32 (m32 (v.h+kw+Pb v.e+ch v.e v.f v.g)+ry v),v.a,v.b,v.c,m32 (v.d+m32 (v.h+kw+Pb v.e+ch v.e v.f v.g)),v.e,v.f,v.g⟩
theorem AAy (k w:Nat) (v:S8):rn (k+w) v=KI k w v:=by unfold rn KI rx;rw[show v.h+(k+w)+Pb v.e+ch v.e v.f v.g=v.h+k+w+Pb v.e+ch v.e v.f v.g by omega]
theorem yP (kw:Nat) {v:S8} (h:v.ok):(rn kw v).ok:=⟨El _,h.a,h.b,h.c,El _,h.e,h.f,h.g⟩
def rA:List Nat→Nat→Nat→Nat→Nat→Nat→Nat→Nat→Nat→Nat→Nat→Nat→Nat→Nat→Nat→Nat→Nat→Nat→Nat→Nat→Nat→Nat→Nat→Nat→Nat→(Nat→Nat→Nat→Nat→Nat→Nat→Nat→Nat→Nat→Nat→Nat→Nat→Nat→Nat→Nat→Nat→Nat→Nat→Nat→Nat→Nat→Nat→Nat→Nat→Nat)→Nat
 |[],w0,w1,w2,w3,w4,w5,w6,w7,w8,w9,wa,wb,wc,wd,we,wf,a,b,c,d,e,f,g,h,K=>K w0 w1 w2 w3 w4 w5 w6 w7 w8 w9 wa wb wc wd we wf a b c d e f g h
 |k::l,w0,w1,w2,w3,w4,w5,w6,w7,w8,w9,wa,wb,wc,wd,we,wf,a,b,c,d,e,f,g,h,K=>
  (fun t1=>rA l w1 w2 w3 w4 w5 w6 w7 w8 w9 wa wb wc wd we wf (Nat.mod (Nat.add (Nat.add w0 (s0 w1)) (Nat.add w9 (s1 we))) Yf)
   (Nat.mod (Nat.add t1 (Nat.add (b0 a) (mjf a b c))) Yf) a b c (Nat.mod (Nat.add d t1) Yf) e f g K)
   (Nat.add (Nat.add (Nat.add h (b1 e)) (chf e f g)) (Nat.add k w0))
def rB:List Nat→Nat→Nat→Nat→Nat→Nat→Nat→Nat→Nat→(Nat→Nat→Nat→Nat→Nat→Nat→Nat→Nat→Nat)→Nat
 |[],a,b,c,d,e,f,g,h,K=>K a b c d e f g h
 |kw::l,a,b,c,d,e,f,g,h,K=>
  (fun t1=>rB l (Nat.mod (Nat.add t1 (Nat.add (b0 a) (mjf a b c))) Yf) a b c (Nat.mod (Nat.add d t1) Yf) e f g K)
   (Nat.add (Nat.add (Nat.add h (b1 e)) (chf e f g)) kw)
theorem yU {v:S8} (hv:v.ok) (kw:Nat):Nat.mod (Nat.add (Nat.add (Nat.add (Nat.add v.h (b1 v.e)) (chf v.e v.f v.g)) kw) (Nat.add (b0 v.a) (mjf v.a v.b v.c))) Yf=(rn kw v).a:=by rw[yY hv.e,ABm hv.a,ABU];show (v.h+Pb v.e+ch v.e v.f v.g+kw+(nk v.a+mj v.a v.b v.c))%4294967296=m32 (m32 (v.h+kw+Pb v.e+ch v.e v.f v.g)+m32 (nk v.a+mj v.a v.b v.c));rw[wu,aH];unfold m32;congr 1;omega
theorem yT {v:S8} (hv:v.ok) (kw:Nat):Nat.mod (Nat.add v.d (Nat.add (Nat.add (Nat.add v.h (b1 v.e)) (chf v.e v.f v.g)) kw)) Yf=(rn kw v).e:=by rw[yY hv.e];show (v.d+(v.h+Pb v.e+ch v.e v.f v.g+kw))%4294967296=m32 (v.d+m32 (v.h+kw+Pb v.e+ch v.e v.f v.g));rw[aH];unfold m32;congr 1;omega
theorem yR (K:Nat→Nat→Nat→Nat→Nat→Nat→Nat→Nat→Nat):∀(l:List Nat) (v:S8),v.ok→rB l v.a v.b v.c v.d v.e v.f v.g v.h K=(fun u:S8=>K u.a u.b u.c u.d u.e u.f u.g u.h) (l.foldl (fun u kw=>rn kw u) v)
 |[],v,_=>rfl
 |kw::l,v,hv=>by
  show rB l _ v.a v.b v.c _ v.e v.f v.g K=_
  rw[yU hv kw,yT hv kw];exact yR K l (rn kw v) (yP kw hv)
structure Sch (W:Nat→Nat):Prop where
 lt:∀t,W t<4294967296
 next:∀t,t<48→W (t+16)=m32 (W t+Pi (W (t+1))+W (t+9)+WU (W (t+14)))
theorem ABT {W:Nat→Nat} (hW:Sch W) {t:Nat} (ht:t<48):Nat.mod (Nat.add (Nat.add (W t) (s0 (W (t+1)))) (Nat.add (W (t+9)) (s1 (W (t+14))))) Yf=W (t+16):=by rw[AAr (hW.lt _),AAq (hW.lt _),hW.next t ht];unfold m32;show (W t+Pi (W (t+1))+(W (t+9)+WU (W (t+14))))%4294967296=_;congr 1;omega
theorem yS {W:Nat→Nat} (hW:Sch W) (K:Nat→Nat→Nat→Nat→Nat→Nat→Nat→Nat→Nat→Nat→Nat→Nat→Nat→Nat→Nat→Nat→Nat→Nat→Nat→Nat→Nat→Nat→Nat→Nat→Nat):∀(l:List Nat) (t:Nat) (v:S8),v.ok→t+l.length≤48→
  rA l (W t) (W (t+1)) (W (t+2)) (W (t+3)) (W (t+4)) (W (t+5)) (W (t+6)) (W (t+7)) (W (t+8)) (W (t+9)) (W (t+10)) (W (t+11)) (W (t+12)) (W (t+13)) (W (t+14)) (W (t+15)) v.a v.b v.c v.d v.e v.f v.g v.h K=
   (fun (n:Nat) (u:S8)=>K (W n) (W (n+1)) (W (n+2)) (W (n+3)) (W (n+4)) (W (n+5)) (W (n+6)) (W (n+7)) (W (n+8)) (W (n+9)) (W (n+10)) (W (n+11)) (W (n+12)) (W (n+13)) (W (n+14)) (W (n+15)) u.a u.b u.c u.d u.e u.f u.g u.h) (t+l.length) ((l.zipIdx t).foldl (fun u p=>rn (p.1+W p.2) u) v)
 |[],t,v,_,_=>rfl
 |k::l,t,v,hv,ht=>by
  have ht':t<48:=by simp only[AMl] at ht;omega
  show rA l (W (t+1)) (W (t+2)) (W (t+3)) (W (t+4)) (W (t+5)) (W (t+6)) (W (t+7)) (W (t+8)) (W (t+9)) (W (t+10)) (W (t+11)) (W (t+12)) (W (t+13)) (W (t+14)) (W (t+15)) _ _ v.a v.b v.c _ v.e v.f v.g K=_
  rw[ABT hW ht'];have ea:=yU hv (k+W t);have ee:=yT hv (k+W t)
  change Nat.mod (Nat.add (Nat.add (Nat.add (Nat.add v.h (b1 v.e)) (chf v.e v.f v.g)) (Nat.add k (W t))) (Nat.add (b0 v.a) (mjf v.a v.b v.c))) Yf=_ at ea
  change Nat.mod (Nat.add v.d (Nat.add (Nat.add (Nat.add v.h (b1 v.e)) (chf v.e v.f v.g)) (Nat.add k (W t)))) Yf=_ at ee
  rw[ea,ee];have ih:=yS hW K l (t+1) (rn (k+W t) v) (yP _ hv) (by simp only[AMl] at ht;omega);rw[show t+(k::l).length=t+1+l.length by simp only[AMl];omega,List.zipIdx_cons,List.foldl_cons];exact ih
def c1 (w0 w1 w2 w3 w4 w5 w6 w7 w8 w9 wa wb wc wd we wf a b c d e f g h:Nat) (K:Nat→Nat→Nat→Nat→Nat→Nat→Nat→Nat→Nat):Nat:=
 rA (EL.take 48) w0 w1 w2 w3 w4 w5 w6 w7 w8 w9 wa wb wc wd we wf a b c d e f g h fun w0 w1 w2 w3 w4 w5 w6 w7 w8 w9 wa wb wc wd we wf a' b' c' d' e' f' g' h'=>
  rB (List.zipWith Nat.add (EL.drop 48) [w0,w1,w2,w3,w4,w5,w6,w7,w8,w9,wa,wb,wc,wd,we,wf]) a' b' c' d' e' f' g' h' fun a' b' c' d' e' f' g' h'=>
   K (Nat.mod (Nat.add a a') Yf) (Nat.mod (Nat.add b b') Yf) (Nat.mod (Nat.add c c') Yf) (Nat.mod (Nat.add d d') Yf) (Nat.mod (Nat.add e e') Yf) (Nat.mod (Nat.add f f') Yf) (Nat.mod (Nat.add g g') Yf) (Nat.mod (Nat.add h h') Yf)
theorem Jr:EL.length=64:=rfl
theorem Lh (w:List Nat) (s:S8):∀n,n≤64→((EL.take n).zipIdx 0).foldl (fun u p=>rn (p.1+w.getD p.2 0) u) s=Cg w s n
 |0,_=>rfl
 |n+1,h=>by
  have hn:n<EL.length:=by rw[Jr];omega
  rw[ANn hn,List.zipIdx_append,AOv,Lh w s n KA];simp only[AM6,List.zipIdx_cons,List.zipIdx_nil,List.foldl_cons,List.foldl_nil,ANC];rw[AOD KA,AAy,Cg]
  congr 1
  rw[AMd,AMe hn];rfl
theorem ABl (w:List Nat) (hW:Sch fun t=>w.getD t 0) (s:S8) (hs:s.ok) (K:Nat→Nat→Nat→Nat→Nat→Nat→Nat→Nat→Nat):
  c1 (w.getD 0 0) (w.getD 1 0) (w.getD 2 0) (w.getD 3 0) (w.getD 4 0) (w.getD 5 0) (w.getD 6 0) (w.getD 7 0) (w.getD 8 0) (w.getD 9 0) (w.getD 10 0) (w.getD 11 0) (w.getD 12 0) (w.getD 13 0) (w.getD 14 0) (w.getD 15 0) s.a s.b s.c s.d s.e s.f s.g s.h K
   =(fun u:S8=>K u.a u.b u.c u.d u.e u.f u.g u.h) (s.add (Cg w s 64)):=by
 unfold c1
 have hA:=yS hW (fun w0 w1 w2 w3 w4 w5 w6 w7 w8 w9 wa wb wc wd we wf a' b' c' d' e' f' g' h'=>
  rB (List.zipWith Nat.add (EL.drop 48) [w0,w1,w2,w3,w4,w5,w6,w7,w8,w9,wa,wb,wc,wd,we,wf]) a' b' c' d' e' f' g' h' fun a' b' c' d' e' f' g' h'=>
   K (Nat.mod (Nat.add s.a a') Yf) (Nat.mod (Nat.add s.b b') Yf) (Nat.mod (Nat.add s.c c') Yf) (Nat.mod (Nat.add s.d d') Yf) (Nat.mod (Nat.add s.e e') Yf) (Nat.mod (Nat.add s.f f') Yf) (Nat.mod (Nat.add s.g g') Yf) (Nat.mod (Nat.add s.h h') Yf)) (EL.take 48) 0 s hs ADW
 refine hA.trans ?_;have hu:(((EL.take 48).zipIdx 0).foldl (fun u p=>rn (p.1+(fun t=>w.getD t 0) p.2) u) s)=Cg w s 48:=Lh w s 48 ND;rw[hu];have hok:=LQ (w:=w) hs 48;have hl:0+(EL.take 48).length=48:=ADW;rw[hl];show rB (List.zipWith Nat.add (EL.drop 48) [w.getD 48 0,w.getD 49 0,w.getD 50 0,w.getD 51 0,w.getD 52 0,w.getD 53 0,w.getD 54 0,w.getD 55 0,w.getD 56 0,w.getD 57 0,w.getD 58 0,w.getD 59 0,w.getD 60 0,w.getD 61 0,w.getD 62 0,w.getD 63 0]) _ _ _ _ _ _ _ _ _=_;rw[yR _ _ _ hok];have hz:List.zipWith Nat.add (EL.drop 48) [w.getD 48 0,w.getD 49 0,w.getD 50 0,w.getD 51 0,w.getD 52 0,w.getD 53 0,w.getD 54 0,w.getD 55 0,w.getD 56 0,w.getD 57 0,w.getD 58 0,w.getD 59 0,w.getD 60 0,w.getD 61 0,w.getD 62 0,w.getD 63 0]=((EL.drop 48).zipIdx 48).map fun p=>p.1+w.getD p.2 0:=rfl;rw[hz,List.foldl_map];(have hall:((EL.drop 48).zipIdx 48).foldl (fun u p=>rn (p.1+w.getD p.2 0) u) (Cg w s 48)=Cg w s 64:=by have h64:=Lh w s 64 (AMi _);have e:(EL.take 64).zipIdx 0=(EL.take 48).zipIdx 0++(EL.drop 48).zipIdx 48:=rfl;rw[e,AOv,Lh w s 48 ND] at h64;exact h64);rw[hall];rfl
theorem mh {l r:List Nat} {i:Nat} (h:i<l.length):(l++r).getD i 0=l.getD i 0:=by rw[AMd,AMd,ANB h]
theorem fo {l r:List Nat} {i:Nat} (h:l.length≤i):(l++r).getD i 0=r.getD (i-l.length) 0:=by rw[AMd,AMd,AM9 h]
theorem Co (b:List Nat) (hb:b.length=16):∀(m n i:Nat),n≤m→i<16+n→(Gu b m).getD i 0=(Gu b n).getD i 0
 |0,n,i,h,_=>by rw[show n=0 by omega]
 |m+1,n,i,h,hi=>by
  by_cases e:n=m+1
  ·rw[e]
  ·rw[Gu,mh (by rw[Ey hb];omega)];exact Co b hb m n i (by omega) hi
theorem vU (b:List Nat) (hb:b.length=16) (hl:∀x∈b,x<4294967296):Sch fun t=>(Gu b 48).getD t 0 where
 lt:=fun t=>by
  show (Gu b 48).getD t 0<4294967296
  rw[AMd]
  rcases h:(Gu b 48)[t]? with _|x
  ·decide
  ·exact OX hl 48 x (AMt h)
 next:=fun t ht=>by
  show (Gu b 48).getD (t+16) 0=_
  rw[Co b hb 48 (t+1) (t+16) KA KA,Gu,fo (by rw[Ey hb];omega),Ey hb,show t+16-(16+t)=0 by omega,AOE];rw[Co b hb 48 t t KA KA,Co b hb 48 t (t+1) KA KA,Co b hb 48 t (t+9) KA KA,Co b hb 48 t (t+14) KA KA]
theorem uR (b:List Nat) (hb:b.length=16) (hl:∀x∈b,x<4294967296) (s:S8) (hs:s.ok) (K:Nat→Nat→Nat→Nat→Nat→Nat→Nat→Nat→Nat):
  c1 (b.getD 0 0) (b.getD 1 0) (b.getD 2 0) (b.getD 3 0) (b.getD 4 0) (b.getD 5 0) (b.getD 6 0) (b.getD 7 0) (b.getD 8 0) (b.getD 9 0) (b.getD 10 0) (b.getD 11 0) (b.getD 12 0) (b.getD 13 0) (b.getD 14 0) (b.getD 15 0) s.a s.b s.c s.d s.e s.f s.g s.h K
   =(fun u:S8=>K u.a u.b u.c u.d u.e u.f u.g u.h) (s.add (Cg (Gu b 48) s 64)):=by
 have h:=ABl (Gu b 48) (vU b hb hl) s hs K
 simp only[Co b hb 48 0 _ (AM4 _) (show 0<16+0 by decide),Co b hb 48 0 _ (AM4 _) (show 1<16+0 by decide),Co b hb 48 0 _ (AM4 _) (show 2<16+0 by decide),Co b hb 48 0 _ (AM4 _) (show 3<16+0 by decide),Co b hb 48 0 _ (AM4 _) (show 4<16+0 by decide),Co b hb 48 0 _ (AM4 _) (show 5<16+0 by decide),Co b hb 48 0 _ (AM4 _) (show 6<16+0 by decide),Co b hb 48 0 _ (AM4 _) (show 7<16+0 by decide),
  Co b hb 48 0 _ (AM4 _) (show 8<16+0 by decide),Co b hb 48 0 _ (AM4 _) (show 9<16+0 by decide),Co b hb 48 0 _ (AM4 _) (show 10<16+0 by decide),Co b hb 48 0 _ (AM4 _) (show 11<16+0 by decide),Co b hb 48 0 _ (AM4 _) (show 12<16+0 by decide),Co b hb 48 0 _ (AM4 _) (show 13<16+0 by decide),Co b hb 48 0 _ (AM4 _) (show 14<16+0 by decide),Co b hb 48 0 _ (AM4 _) (show 15<16+0 by decide)] at h
 exact h
def DA (n k:Nat):UInt8:=UInt8.ofNat (n/2^(8*k))
def b32 (n:Nat):List UInt8:=[DA n 31,DA n 30,DA n 29,DA n 28,DA n 27,DA n 26,DA n 25,DA n 24,DA n 23,DA n 22,DA n 21,DA n 20,DA n 19,DA n 18,DA n 17,DA n 16,DA n 15,DA n 14,DA n 13,DA n 12,DA n 11,DA n 10,DA n 9,DA n 8,DA n 7,DA n 6,DA n 5,DA n 4,DA n 3,DA n 2,DA n 1,DA n 0]
def pk (a b c d e f g h:Nat):Nat:=Nat.add h (Nat.mul Yf (Nat.add g (Nat.mul Yf (Nat.add f (Nat.mul Yf (Nat.add e (Nat.mul Yf (Nat.add d (Nat.mul Yf (Nat.add c (Nat.mul Yf (Nat.add b (Nat.mul Yf a)))))))))))))
def wd (X k:Nat):Nat:=Nat.mod (Nat.shiftRight X (32*k)) Yf
theorem Tj (n:Nat):UInt8.ofNat (n%256)=UInt8.ofNat n:=by apply AO8.1;rw[AOK,AOK];omega
theorem IC {a b:Nat} (h:a%256=b%256):UInt8.ofNat a=UInt8.ofNat b:=by rw[←Tj a,h,Tj]
theorem Mo {x y:Nat} (hy:y<4294967296) (k:Nat):DA (y+4294967296*x) (k+4)=DA x k:=by unfold DA;(have e:(2:Nat)^(8*(k+4))=4294967296*2^(8*k):=by rw[show 8*(k+4)=32+8*k by omega,AOO]);rw[e,←ANX,Nat.add_mul_div_left _ _ ND,AO4 hy,ANC]
theorem Mm {x y:Nat}:DA (y+4294967296*x) 0=DA y 0∧DA (y+4294967296*x) 1=DA y 1∧DA (y+4294967296*x) 2=DA y 2∧DA (y+4294967296*x) 3=DA y 3:=by refine⟨IC ?_,IC ?_,IC ?_,IC ?_⟩;(show (y+4294967296*x)/1%256=y/1%256;omega);(show (y+4294967296*x)/256%256=y/256%256;omega);(show (y+4294967296*x)/65536%256=y/65536%256;omega);show (y+4294967296*x)/16777216%256=y/16777216%256;omega
theorem uS (x:Nat):IV x=[DA x 3,DA x 2,DA x 1,DA x 0]:=by unfold IV DA;simp
theorem ru (u:S8) (hu:u.ok):u.out=b32 (pk u.a u.b u.c u.d u.e u.f u.g u.h):=by obtain⟨a,b,c,d,e,f,g,h⟩:=u;obtain⟨ha,hb,hc,hd,he,hf,hg,hh⟩:=hu;unfold S8.out;simp only[uS];obtain⟨n7,e7⟩:∃n,n=a:=⟨_,rfl⟩;obtain⟨n6,e6⟩:∃n,n=b+4294967296*n7:=⟨_,rfl⟩;obtain⟨n5,e5⟩:∃n,n=c+4294967296*n6:=⟨_,rfl⟩;obtain⟨n4,e4⟩:∃n,n=d+4294967296*n5:=⟨_,rfl⟩;obtain⟨n3,e3⟩:∃n,n=e+4294967296*n4:=⟨_,rfl⟩;obtain⟨n2,e2⟩:∃n,n=f+4294967296*n3:=⟨_,rfl⟩;obtain⟨n1,e1⟩:∃n,n=g+4294967296*n2:=⟨_,rfl⟩;obtain⟨n0,e0⟩:∃n,n=h+4294967296*n1:=⟨_,rfl⟩;(have hp:pk a b c d e f g h=n0:=by show h+4294967296*(g+4294967296*(f+4294967296*(e+4294967296*(d+4294967296*(c+4294967296*(b+4294967296*a))))))=n0;rw[e0,e1,e2,e3,e4,e5,e6,e7]);show _=b32 (pk a b c d e f g h);rw[hp];(have h0:∀k,DA n0 (k+4)=DA n1 k:=fun k=>by rw[e0];exact Mo hh k);(have h1:∀k,DA n1 (k+4)=DA n2 k:=fun k=>by rw[e1];exact Mo hg k);(have h2:∀k,DA n2 (k+4)=DA n3 k:=fun k=>by rw[e2];exact Mo hf k);(have h3:∀k,DA n3 (k+4)=DA n4 k:=fun k=>by rw[e3];exact Mo he k);(have h4:∀k,DA n4 (k+4)=DA n5 k:=fun k=>by rw[e4];exact Mo hd k);(have h5:∀k,DA n5 (k+4)=DA n6 k:=fun k=>by rw[e5];exact Mo hc k);(have h6:∀k,DA n6 (k+4)=DA n7 k:=fun k=>by rw[e6];exact Mo hb k);have l0:=Mm (x:=n1) (y:=h);have l1:=Mm (x:=n2) (y:=g);have l2:=Mm (x:=n3) (y:=f);have l3:=Mm (x:=n4) (y:=e);have l4:=Mm (x:=n5) (y:=d);have l5:=Mm (x:=n6) (y:=c);have l6:=Mm (x:=n7) (y:=b);rw[←e0] at l0;rw[←e1] at l1;rw[←e2] at l2;rw[←e3] at l3;rw[←e4] at l4;rw[←e5] at l5;rw[←e6] at l6;unfold b32;rw[h0 27,h0 26,h0 25,h0 24,h0 23,h0 22,h0 21,h0 20,h0 19,h0 18,h0 17,h0 16,h0 15,h0 14,h0 13,h0 12,h0 11,h0 10,h0 9,h0 8,h0 7,h0 6,h0 5,h0 4,h0 3,h0 2,h0 1,h0 0];rw[h1 23,h1 22,h1 21,h1 20,h1 19,h1 18,h1 17,h1 16,h1 15,h1 14,h1 13,h1 12,h1 11,h1 10,h1 9,h1 8,h1 7,h1 6,h1 5,h1 4,h1 3,h1 2,h1 1,h1 0];rw[h2 19,h2 18,h2 17,h2 16,h2 15,h2 14,h2 13,h2 12,h2 11,h2 10,h2 9,h2 8,h2 7,h2 6,h2 5,h2 4,h2 3,h2 2,h2 1,h2 0];rw[h3 15,h3 14,h3 13,h3 12,h3 11,h3 10,h3 9,h3 8,h3 7,h3 6,h3 5,h3 4,h3 3,h3 2,h3 1,h3 0];rw[h4 11,h4 10,h4 9,h4 8,h4 7,h4 6,h4 5,h4 4,h4 3,h4 2,h4 1,h4 0];rw[h5 7,h5 6,h5 5,h5 4,h5 3,h5 2,h5 1,h5 0];rw[h6 3,h6 2,h6 1,h6 0];rw[l0.1,l0.2.1,l0.2.2.1,l0.2.2.2,l1.1,l1.2.1,l1.2.2.1,l1.2.2.2,l2.1,l2.2.1,l2.2.2.1,l2.2.2.2,l3.1,l3.2.1,l3.2.2.1,l3.2.2.2,l4.1,l4.2.1,l4.2.2.1,l4.2.2.2,l5.1,l5.2.1,l5.2.2.1,l5.2.2.2,l6.1,l6.2.1,l6.2.2.1,l6.2.2.2,e7];rfl
theorem nY (n k:Nat):(DA n k).toNat=n/2^(8*k)%256:=by unfold DA;rw[AOK]
theorem Pf (X k:Nat):(DA X (4*k+3)).toNat*2^24+(DA X (4*k+2)).toNat*2^16+(DA X (4*k+1)).toNat*2^8+(DA X (4*k)).toNat=wd X k:=by simp only[nY];(have e0:(2:Nat)^(8*(4*k))=2^(32*k):=by congr 1;omega);(have e1:(2:Nat)^(8*(4*k+1))=2^(32*k)*256:=by rw[show 8*(4*k+1)=32*k+8 by omega,AOO]);(have e2:(2:Nat)^(8*(4*k+2))=2^(32*k)*65536:=by rw[show 8*(4*k+2)=32*k+16 by omega,AOO]);(have e3:(2:Nat)^(8*(4*k+3))=2^(32*k)*16777216:=by rw[show 8*(4*k+3)=32*k+24 by omega,AOO]);rw[e0,e1,e2,e3,←ANX,←ANX,←ANX];unfold wd;show _=(X>>>(32*k))%4294967296;rw[AN1];generalize X/2^(32*k)=YY;omega
def step (i j X:Nat):Nat:=
 c1 0x05636861 0x696e0000 0 (Nat.add 0x00010000 (Nat.mul i 256)) 0 (Nat.add 0x00000100 j) 0 0x20 (wd X 7) (wd X 6) (wd X 5) (wd X 4) (wd X 3) (wd X 2) (wd X 1) (wd X 0) iv.a iv.b iv.c iv.d iv.e iv.f iv.g iv.h fun a b c d e f g h=>
  c1 0x80000000 0 0 0 0 0 0 0 0 0 0 0 0 0 0 512 a b c d e f g h pk
def Iy (i j X:Nat):List UInt8:=[5,99,104,97,105,110,0,0,0,0,0,0,0,1,UInt8.ofNat i,0,0,0,0,0,0,0,1,UInt8.ofNat j,0,0,0,0,0,0,0,32,DA X 31,DA X 30,DA X 29,DA X 28,DA X 27,DA X 26,DA X 25,DA X 24,DA X 23,DA X 22,DA X 21,DA X 20,DA X 19,DA X 18,DA X 17,DA X 16,DA X 15,DA X 14,DA X 13,DA X 12,DA X 11,DA X 10,DA X 9,DA X 8,DA X 7,DA X 6,DA X 5,DA X 4,DA X 3,DA X 2,DA X 1,DA X 0]
def SS:List UInt8:=[128,0,0,0,0,0,0,0,0,0,0,0,0,0,0,0,0,0,0,0,0,0,0,0,0,0,0,0,0,0,0,0,0,0,0,0,0,0,0,0,0,0,0,0,0,0,0,0,0,0,0,0,0,0,0,0,0,0,0,0,0,0,2,0]
theorem jD (l:List UInt8) (b:List Nat) (hb:Cl l=b) (hn:b.length=16) (hl:∀x∈b,x<4294967296) (s:S8) (hs:s.ok) (K:Nat→Nat→Nat→Nat→Nat→Nat→Nat→Nat→Nat):
  c1 (b.getD 0 0) (b.getD 1 0) (b.getD 2 0) (b.getD 3 0) (b.getD 4 0) (b.getD 5 0) (b.getD 6 0) (b.getD 7 0) (b.getD 8 0) (b.getD 9 0) (b.getD 10 0) (b.getD 11 0) (b.getD 12 0) (b.getD 13 0) (b.getD 14 0) (b.getD 15 0) s.a s.b s.c s.d s.e s.f s.g s.h K=(fun u:S8=>K u.a u.b u.c u.d u.e u.f u.g u.h) (comp s l):=by rw[uR b hn hl s hs K];unfold comp;rw[hb]
theorem uN (l:List UInt8) (w0 w1 w2 w3 w4 w5 w6 w7 w8 w9 wa wb wc wd' we wf:Nat) (hb:Cl l=[w0,w1,w2,w3,w4,w5,w6,w7,w8,w9,wa,wb,wc,wd',we,wf]) (hl:∀x∈[w0,w1,w2,w3,w4,w5,w6,w7,w8,w9,wa,wb,wc,wd',we,wf],x<4294967296) (s:S8) (hs:s.ok) (K:Nat→Nat→Nat→Nat→Nat→Nat→Nat→Nat→Nat):
  c1 w0 w1 w2 w3 w4 w5 w6 w7 w8 w9 wa wb wc wd' we wf s.a s.b s.c s.d s.e s.f s.g s.h K=(fun u:S8=>K u.a u.b u.c u.d u.e u.f u.g u.h) (comp s l):=jD l [w0,w1,w2,w3,w4,w5,w6,w7,w8,w9,wa,wb,wc,wd',we,wf] hb rfl hl s hs K
theorem AAf (X k:Nat):wd X k<4294967296:=ANu _ ND
theorem nR (i j X:Nat) (hi:i<256) (hj:j<256):Cl (Iy i j X)=[0x05636861,0x696e0000,0,(Nat.add 0x00010000 (Nat.mul i 256)),0,(Nat.add 0x00000100 j),0,0x20,(wd X 7),(wd X 6),(wd X 5),(wd X 4),(wd X 3),(wd X 2),(wd X 1),(wd X 0)]:=by (have h3:Af (Iy i j X) 3=Nat.add 0x00010000 (Nat.mul i 256):=by show (0:UInt8).toNat*2^24+(1:UInt8).toNat*2^16+(UInt8.ofNat i).toNat*2^8+(0:UInt8).toNat=65536+i*256;rw[AOK,ANv (show i<2^8 from hi)];show 0*2^24+1*2^16+i*2^8+0=65536+i*256;omega);(have h5:Af (Iy i j X) 5=Nat.add 0x00000100 j:=by show (0:UInt8).toNat*2^24+(0:UInt8).toNat*2^16+(1:UInt8).toNat*2^8+(UInt8.ofNat j).toNat=256+j;rw[AOK,ANv (show j<2^8 from hj)];show 0*2^24+0*2^16+1*2^8+j=256+j;omega);(have h0:Af (Iy i j X) 0=90400865:=by show (5:UInt8).toNat*2^24+(99:UInt8).toNat*2^16+(104:UInt8).toNat*2^8+(97:UInt8).toNat=90400865;decide);(have h1:Af (Iy i j X) 1=1768816640:=by show (105:UInt8).toNat*2^24+(110:UInt8).toNat*2^16+(0:UInt8).toNat*2^8+(0:UInt8).toNat=1768816640;decide);have h2:Af (Iy i j X) 2=0:=AGo;have h4:Af (Iy i j X) 4=0:=AGo;have h6:Af (Iy i j X) 6=0:=AGo;(have h7:Af (Iy i j X) 7=32:=by show (0:UInt8).toNat*2^24+(0:UInt8).toNat*2^16+(0:UInt8).toNat*2^8+(32:UInt8).toNat=32;decide);show [Af (Iy i j X) 0,Af (Iy i j X) 1,Af (Iy i j X) 2,Af (Iy i j X) 3,Af (Iy i j X) 4,Af (Iy i j X) 5,Af (Iy i j X) 6,Af (Iy i j X) 7,Af (Iy i j X) 8,Af (Iy i j X) 9,Af (Iy i j X) 10,Af (Iy i j X) 11,Af (Iy i j X) 12,Af (Iy i j X) 13,Af (Iy i j X) 14,Af (Iy i j X) 15]=_;rw[h3,h5,show Af (Iy i j X) 8=wd X 7 from Pf X 7,show Af (Iy i j X) 9=wd X 6 from Pf X 6,show Af (Iy i j X) 10=wd X 5 from Pf X 5,show Af (Iy i j X) 11=wd X 4 from Pf X 4,show Af (Iy i j X) 12=wd X 3 from Pf X 3,show Af (Iy i j X) 13=wd X 2 from Pf X 2,show Af (Iy i j X) 14=wd X 1 from Pf X 1,show Af (Iy i j X) 15=wd X 0 from Pf X 0,h0,h1,h2,h4,h6,h7]
theorem nQ:Cl SS=[0x80000000,0,0,0,0,0,0,0,0,0,0,0,0,0,0,512]:=by show [Af SS 0,Af SS 1,Af SS 2,Af SS 3,Af SS 4,Af SS 5,Af SS 6,Af SS 7,Af SS 8,Af SS 9,Af SS 10,Af SS 11,Af SS 12,Af SS 13,Af SS 14,Af SS 15]=_;decide
theorem vN (i j X:Nat) (hi:i<256) (hj:j<256):XU (Iy i j X)=b32 (step i j X):=by
 have hp:padded (Iy i j X)=Iy i j X++SS:=NA;(have h2:(Iy i j X++SS).length/64=2:=by rw[AMf,show (Iy i j X).length=64 from rfl,show SS.length=64 from rfl]);(have habs:XU (Iy i j X)=(comp (comp iv (Iy i j X)) SS).out:=by unfold XU;rw[hp,h2];rfl)
 have e1:=fun K=>uN (Iy i j X) 0x05636861 0x696e0000 0 (Nat.add 0x00010000 (Nat.mul i 256)) 0 (Nat.add 0x00000100 j) 0 0x20 (wd X 7) (wd X 6) (wd X 5) (wd X 4) (wd X 3) (wd X 2) (wd X 1) (wd X 0) (nR i j X hi hj) (fun x hx=>by
  have h8:=fun k=>AAf X k;simp only[AM1,ANJ,AN2] at hx
  rcases hx with h|h|h|h|h|h|h|h|h|h|h|h|h|h|h|h<;>rw[h]
  ·decide
  ·decide
  ·decide
  ·show 65536+i*256<4294967296
   omega
  ·decide
  ·show 256+j<4294967296
   omega
  ·decide
  ·decide
  ·exact h8 _
  ·exact h8 _
  ·exact h8 _
  ·exact h8 _
  ·exact h8 _
  ·exact h8 _
  ·exact h8 _
  ·exact h8 _) iv Ty K
 have e2:=fun s hs K=>uN SS 0x80000000 0 0 0 0 0 0 0 0 0 0 0 0 0 0 512 nQ (fun x hx=>by
  simp only[AM1,ANJ,AN2] at hx
  rcases hx with h|h|h|h|h|h|h|h|h|h|h|h|h|h|h|h<;>rw[h]<;>decide) s hs K
 rw[habs,ru _ (QS _ _)];refine ANb b32 ?_;unfold step;refine Eq.trans ?_ (e1 _).symm;exact (e2 _ (QS _ _) pk).symm
def Cd:List UInt8→List Nat
 |a::b::c::d::l=>Nat.add (Nat.add (Nat.add (Nat.mul a.toNat 16777216) (Nat.mul b.toNat 65536)) (Nat.mul c.toNat 256)) d.toNat::Cd l
 |_=>[]
def uh:Nat→List Nat→Nat→Nat→Nat→Nat→Nat→Nat→Nat→Nat→Nat
 |0,_,a,b,c,d,e,f,g,h=>pk a b c d e f g h
 |n+1,l,a,b,c,d,e,f,g,h=>c1 (l.getD 0 0) (l.getD 1 0) (l.getD 2 0) (l.getD 3 0) (l.getD 4 0) (l.getD 5 0) (l.getD 6 0) (l.getD 7 0) (l.getD 8 0) (l.getD 9 0) (l.getD 10 0) (l.getD 11 0) (l.getD 12 0) (l.getD 13 0) (l.getD 14 0) (l.getD 15 0) a b c d e f g h fun a b c d e f g h=>uh n (l.drop 16) a b c d e f g h
theorem Pd:∀(t:Nat) (l:List UInt8),4*t+3<l.length→(Cd l).getD t 0=Af l t
 |0,a::b::c::d::l,_=>rfl
 |t+1,a::b::c::d::l,h=>by
  have ih:=Pd t l (by simp only[AMl] at h;omega);show (Cd l).getD t 0=_
  rw[ih];rfl
 |_,[],h=>absurd h NC
 |_,[_],h=>absurd h YO
 |_,[_,_],h=>absurd h YO
 |_,[_,_,_],h=>absurd h YO
theorem Pe:∀(n:Nat) (l:List UInt8),(Cd l).drop n=Cd (l.drop (4*n))
 |0,_=>rfl
 |n+1,a::b::c::d::l=>by
  show (Cd l).drop n=_
  rw[Pe n l];rfl
 |n+1,[]=>by simp[Cd]
 |n+1,[_]=>by simp[Cd,show 4*(n+1)=(4*n+3)+1 by omega]
 |n+1,[_,_]=>by simp[Cd,show 4*(n+1)=(4*n+2)+1+1 by omega]
 |n+1,[_,_,_]=>by simp[Cd,show 4*(n+1)=(4*n+1)+1+1+1 by omega]
theorem We (l:List UInt8) (t:Nat) (ht:t<16):Af (l.take 64) t=Af l t:=by (have h:∀k,k<64→(l.take 64).getD k 0=l.getD k 0:=fun k hk=>by rw[AMd,AMd,ANL hk]);unfold Af;rw[h _ KA,h _ KA,h _ KA,h _ KA]
theorem OO (l:List UInt8) (t:Nat):Af l t<4294967296:=by unfold Af;have h:=fun k=>(l.getD k 0).toNat_lt;have h0:=h (4*t);have h1:=h (4*t+1);have h2:=h (4*t+2);have h3:=h (4*t+3);omega
theorem jH:∀(n:Nat) (l:List UInt8) (s:S8),s.ok→64*n≤l.length→uh n (Cd l) s.a s.b s.c s.d s.e s.f s.g s.h=(fun u:S8=>pk u.a u.b u.c u.d u.e u.f u.g u.h) (Dx n s l)
 |0,_,_,_,_=>rfl
 |n+1,l,s,hs,h=>by
  have hw:∀t,t<16→(Cd l).getD t 0=Af (l.take 64) t:=fun t ht=>by rw[We l t ht];exact Pd t l KA
  have e:=jD (l.take 64) (Cl (l.take 64)) rfl rfl (fun x hx=>by
   obtain⟨t,_,rfl⟩:=ANU.1 hx;exact OO _ _) s hs fun a b c d e f g h=>uh n ((Cd l).drop 16) a b c d e f g h
  show c1 ((Cd l).getD 0 0) ((Cd l).getD 1 0) ((Cd l).getD 2 0) ((Cd l).getD 3 0) ((Cd l).getD 4 0) ((Cd l).getD 5 0) ((Cd l).getD 6 0) ((Cd l).getD 7 0) ((Cd l).getD 8 0) ((Cd l).getD 9 0) ((Cd l).getD 10 0) ((Cd l).getD 11 0) ((Cd l).getD 12 0) ((Cd l).getD 13 0) ((Cd l).getD 14 0) ((Cd l).getD 15 0) s.a s.b s.c s.d s.e s.f s.g s.h _=_
  rw[hw 0 ND,hw 1 ND,hw 2 ND,hw 3 ND,hw 4 ND,hw 5 ND,hw 6 ND,hw 7 ND,hw 8 ND,hw 9 ND,hw 10 ND,hw 11 ND,hw 12 ND,hw 13 ND,hw 14 ND,hw 15 ND];refine Eq.trans e ?_;show uh n ((Cd l).drop 16) _ _ _ _ _ _ _ _=_
  rw[Pe];exact jH n (l.drop 64) (comp s (l.take 64)) (QS _ _) VD
def jy (l:List UInt8):Nat:=uh ((padded l).length/64) (Cd (padded l)) iv.a iv.b iv.c iv.d iv.e iv.f iv.g iv.h
theorem U3 (l:List UInt8):XU l=b32 (jy l):=by have h:=jH ((padded l).length/64) (padded l) iv Ty (by have:=Nat.div_mul_le_self (padded l).length 64;omega);unfold XU jy;rw[ru _ (JR _ _ Ty)];exact ANb b32 h.symm
end Qk
theorem Mt:∀(n:Nat) (s:S8) (l r:List UInt8),64*n≤l.length→Dx n s (l++r)=Dx n s l
 |0,_,_,_,_=>rfl
 |n+1,s,l,r,h=>by
  rw[Dx,Dx,AOe (by omega),AN7 (by omega)];exact Mt n _ _ _ (by rw[ANc];omega)
theorem Kz:∀(n:Nat) (s:S8) (l:List UInt8),64*(n+1)≤l.length→Dx (n+1) s l=comp (Dx n s l) ((l.drop (64*n)).take 64)
 |0,s,l,h=>by simp only[Dx,Nat.mul_zero,APg]
 |n+1,s,l,h=>by
  rw[Dx,Kz n _ _ (by rw[ANc];omega),API,show 64+64*n=64*(n+1) by omega];rfl
def Hl (l:List UInt8):S8:=Dx (l.length/64) iv l
theorem iG (l:List UInt8):(Hl l).ok:=JR _ _ Ty
def Gs (l:List UInt8):List UInt8:=l.drop (64*(l.length/64))
theorem Sb (l:List UInt8):(Gs l).length=l.length%64:=by unfold Gs;rw[ANc];omega
theorem jf (l t:List UInt8) (h:l.length%64+t.length<64):Hl (l++t)=Hl l∧Gs (l++t)=Gs l++t:=by unfold Hl Gs;rw[AMf,show (l.length+t.length)/64=l.length/64 by omega,Mt _ _ _ _ KA,AN7 KA];exact⟨rfl,rfl⟩
theorem jg (l t:List UInt8) (h:l.length%64+t.length=64):Hl (l++t)=comp (Hl l) (Gs l++t)∧Gs (l++t)=[]:=by unfold Hl Gs;rw[AMf,show (l.length+t.length)/64=l.length/64+1 by omega];refine⟨?_,AOw AB1⟩;rw[Kz _ _ _ AB1,Mt _ _ _ _ KA,AN7 KA,AMp (by rw[AMf,ANc];omega)]
theorem zK (l:List UInt8):XU l=(Hl (padded l)).out:=rfl
open Go.RowKit
def Row (W:J) (t:TypeId) (v:Yu) (xs:List Yu):Prop:=W.ownsRow 0 t 1 v xs.length xs
def Hg (W:J) (t:TypeId) (g c:Nat) (xs:List Yu):Prop:=
 ∃cur:Array Yu,W.heap[g]?=Z (.cells cur t (0,0))∧xs.length≤c∧c≤maxLen∧cur.size=c∧cur.toList.take xs.length=xs
section
variable {W W':J} {t:TypeId} {v:Yu} {g c:Nat} {xs:List Yu}
theorem Row.cases (h:Row W t v xs):(v=.slice Y 0 0∧xs=[])∨∃g c,v=Yh (g:Nat) xs.length c∧Hg W t g c xs:=by rcases h.2 with⟨h1,h2⟩|⟨g,c,cur,h1,_,h2,h3,h4,h5,h6⟩;(exact .inl ⟨h1,List.eq_nil_of_length_eq_zero h2⟩);exact .inr ⟨g,c,h1,cur,h2,h3,h4,by rw[h5,AN0],by rw[AN0] at h6;exact h6⟩
theorem Row.nil (W:J) (t:TypeId):Row W t (.slice Y 0 0) []:=AMy W 0 t 1
theorem Hg.row (h:Hg W t g c xs):Row W t (Yh g xs.length c) xs:=by obtain⟨cur,h1,h2,h3,h4,h5⟩:=h;exact⟨by rw[AN0],.inr ⟨g,c,cur,rfl,AM4 _,h1,h2,h3,by rw[h4,AN0],by rw[AN0];exact h5⟩⟩
theorem Hg.lt (h:Hg W t g c xs):g<W.heap.size:=AKG
theorem Hg.of_block (h:Hg W t g c xs) (hb:W'.heap[g]?=W.heap[g]?):Hg W' t g c xs:=by obtain⟨cur,h1,h2⟩:=h;exact⟨cur,hb.trans h1,h2⟩
theorem Hg.cell (h:Hg W t g c xs) {k:Nat} (hk:k<xs.length):W.cell? ⟨g,k,Y⟩=xs[k]?:=by obtain⟨cur,h1,h2,h3,h4,h5⟩:=h;(have e:xs[k]?=cur[k]?:=by rw[←h5,AQE,AMx hk];simp);rw[e];simp[World.cell?,h1]
theorem Row.of_block (h:Row W t v xs) (hb:∀k,v.ownBlock=Z k→W'.heap[k]?=W.heap[k]?):Row W' t v xs:=by rcases h.cases with⟨rfl,rfl⟩|⟨g,c,rfl,hg⟩;(exact Row.nil _ _);exact (hg.of_block (hb g rfl)).row
theorem Row.lt (h:Row W t v xs) (k:Nat) (hk:v.ownBlock=Z k):k<W.heap.size:=(AOX h k hk).2
theorem Hg.u64 {ns:List Nat} (h:Hg W t g c (ns.map fun (n:Nat)=>Value.int .u64 (n:Int))) {k:Nat} (hk:k<ns.length):W.cell? ⟨g,k,Y⟩=Z (Yg V (ns.getD k 0:Nat)):=ALQ
theorem Hg.bool {bs:List Bool} (h:Hg W t g c (bs.map Value.bool)) {k:Nat} (hk:k<bs.length):W.cell? ⟨g,k,Y⟩=Z (Yl (bs.getD k Yz)):=ALQ
end
abbrev Vw (c:Int):Ending:=.panicked [{v:=Yo 36 (Yg Yj c),recovered:=Yz}]
theorem FU (c:Int) (W:J):Yv Yw 292 #[Yg Yj c] W fun e w'=>e=Vw c∧w'=W:=AHy
def Rd (W:J) (g:Nat) (s:ByteArray) (at_ most:Nat):Prop:=AJ W g #[.string s,Yg Yj at_,Yg Yj most] 274
theorem GI (g at_ most:Nat) (s:ByteArray) (W:J) (h:Rd W g s at_ most) (hle:at_≤s.size):
  Yv Yw 237 #[U g] W fun e w'=>e=Yi (O (s.extract at_ s.size))∧w'=W.drew:=by have h0:=h.cell 0 rfl;have h1:=h.cell 1 rfl;clear h;go_in;go_wp2_with fail;go_region;exact AET
theorem kY (g at_ most:Nat) (s:ByteArray) (W:J) (h:Rd W g s at_ most):
  Yv Yw 310 #[U g] W fun e w'=>e=Yi (Yg Yj at_)∧w'=W:=by have h1:=h.cell 1 rfl;clear h;exact ALn
theorem Mq (g at_ most left:Nat) (s:ByteArray) (W:J) (h:Rd W g s at_ most) (hle:left≤s.size) (hs:s.size<9223372036854775808):
  Yv Yw 238 #[U g,Yg Yj left] W fun e w'=>e=Yi (Ym #[])∧w'=W.setCell ⟨g,1,Y⟩ (Yg Yj ((s.size-left:Nat):Int)):=by have h0:=h.cell 0 rfl;have h1:=h.cell 1 rfl;have hf:=h.frozen 1;have hw:(s.size:Int)-(left:Int)=((s.size-left:Nat):Int):=KA;clear h;exact ALI
theorem Lj (g at_ most n:Nat) (s rest:ByteArray) (W:J) (h:Rd W g s at_ most) (hm:most<9223372036854775808) (hn:n<18446744073709551616):
  Yv Yw 327 #[U g,Yr #[Yg V n,.string rest]] W fun e w'=>But [] W w'∧(n≤most→e=Yi (Yr #[Yg V n,.string rest]))∧(most<n→e=Vw 3):=by have h2':=h.cell 2 rfl;have hlt:=h.lt;have B0:=sq (((APu [] W).alloc (Yk #[Yg V n,.string rest] 302)).alloc (Yk #[Yg V 0,O ⟨#[]⟩] 302));have B0':=sq (((APu [] W).alloc (Yk #[Yg V n,.string rest] 302)).alloc (Yk #[Yg V n,.string rest] 302));clear h;by_cases hc:most<n;(·have hc':((most:Int)<(n:Int)):=KA;go_in;go_wp2_with fail;go_region;go_wp2_with fail;refine (FU _ _).mono ?_;rintro e w1 ⟨rfl,rfl⟩;go_wp2_with fail;refine⟨rfl,B0.out.drew,fun h=>?_,fun _=>rfl⟩;omega);have hc':¬((most:Int)<(n:Int)):=KA;go_in;go_wp2_with fail;go_region;go_wp2_with fail;refine AMo (v:=Yr #[Yg V n,.string rest]) (by simp[results,Tryz.results327,go_sem]) rfl ?_;exact⟨B0'.out.drew,fun _=>rfl,fun h=>KA⟩
theorem zP (a:Nat) (h1:1≤a) (h2:a≤31):bits .and .u64 (IntKind.u64.wrap (-(a:Int))) 31=((32-a:Nat):Int):=by have key:∀k:Fin 32,1≤k.val→bits .and .u64 (IntKind.u64.wrap (-(k.val:Int))) 31=((32-k.val:Nat):Int):=PV;exact key ⟨a,KA⟩ h1
theorem RI (x y:Nat) (hx:x<4294967296) (hy:y<4294967296):bits .or .u32 (x:Int) (y:Int)=((x ||| y:Nat):Int):=by rw[u32_or _ _ KA KA KA KA];rfl
theorem GA (x y:Nat) (hx:x<4294967296) (hy:y<4294967296):bits .xor .u32 (x:Int) (y:Int)=((x^^^y:Nat):Int):=u32_xor_nat x y hx hy
theorem OA (x y:Nat) (hx:x<4294967296) (hy:y<4294967296):bits .and .u32 (x:Int) (y:Int)=((x &&& y:Nat):Int):=by rw[u32_and _ _ KA KA KA KA];rfl
theorem qJ (x k:Nat):IntKind.u32.wrap ((x:Int)*2^k)=(m32 (x*2^k):Nat):=by unfold m32;rw[show ((x:Int)*2^k)=((x*2^k:Nat):Int) by push_cast;rfl];show ((x*2^k:Nat):Int)%4294967296=_;omega
theorem iJ (x k:Nat):(x:Int)/2^k=((x/2^k:Nat):Int):=by push_cast;rfl
theorem Df (x y:Nat):IntKind.u32.wrap ((x:Int)+(y:Int))=(m32 (x+y):Nat):=by unfold m32;show ((x:Int)+y)%4294967296=_;omega
theorem Na (x a:Nat) (hx:x<4294967296) (h1:1≤a) (h2:a≤31) (W:J):Yv Yw 334 #[Yg Yt x,Yg Yj (-(a:Int))] W fun e w'=>e=Yi (Yg Yt (rt x a:Nat))∧w'=W:=by have HA:=zP a h1 h2;obtain⟨s,hs⟩:∃s,s=32-a:=⟨_,rfl⟩;rw[←hs] at HA;have hs1:(s:Int)≤32:=KA;have hs0:1≤(s:Int):=KA;(have hwr:IntKind.u64.wrap (32-(s:Int))=(a:Int):=by rw[show (32-(s:Int))=(a:Int) by omega];show (a:Int)%18446744073709551616=_;omega);have O1:=qJ x s;have O2:(x:Int)/2^min a 32=((x/2^a:Nat):Int):=AB2;have O3:=RI (m32 (x*2^s)) (x/2^a) (El _) (G9 hx _);(have OZ:m32 (x*2^s) ||| x/2^a=rt x a:=by rw[hs];exact Nat.or_comm _ _);rw[OZ] at O3;generalize m32 (x*2^s)=p at*;generalize x/2^a=q at*;clear OZ hs h2;have h1':1≤(a:Int):=KA;have h0:0≤(s:Int):=KA;have h0':0≤(a:Int):=KA;clear hs0;exact ALn
theorem iW (x a b m:Nat) (hx:x<4294967296) (ha:1≤a) (ha':a≤31) (hb:1≤b) (hb':b≤31) (hm:m≤31) (W:J):Yv Yw 333 #[Yg Yt x,Yg Yj a,Yg Yj b,Yg Yj m] W fun e w'=>e=Yi (Yg Yt (((rt x a^^^rt x b)^^^(x/2^m):Nat):Int))∧∃n,w'=W.drewN n:=by have R1:=sq (Na x a hx ha ha');have R2:=sq (Na x b hx hb hb');have O1:=GA (rt x a) (rt x b) (Dm hx) (Dm hx);(have O2:(x:Int)/2^min m 32=((x/2^m:Nat):Int):=by rw[AOD KA];exact iJ x m);have O3:=GA (rt x a^^^rt x b) (x/2^m) (F8 (Dm hx) (Dm hx)) (G9 hx _);generalize (rt x a^^^rt x b)^^^x/2^m=r at*;generalize rt x a^^^rt x b=q at*;generalize x/2^m=p at*;generalize rt x a=ra at*;generalize rt x b=rb at*;have hm0:0≤(m:Int):=KA;obtain⟨N1,N2⟩:=AJN;clear ha ha' hb hb' hm hx;go_in;go_wp2_with fail;go_quiet ((first|(go_at_call_of 334 (Value.int IntKind.i64 (-(a:Int)));exact APC (R1.out _))|(go_at_call_of 334 (Value.int IntKind.i64 (-(b:Int)));exact APC (R2.out _))));exact ALd
theorem Wl (x a b c k:Nat) (hx:x<4294967296) (ha:1≤a) (ha':a≤31) (hb:1≤b) (hb':b≤31) (hc:1≤c) (hc':c≤31) (W:J) (h0:W.cell? k=Z (Yg Yj a)) (h1:W.cell? ⟨k,1,Y⟩=Z (Yg Yj b)) (h2:W.cell? ⟨k,2,Y⟩=Z (Yg Yj c)):
  Yv Yw 335 #[Yg Yt x,Yh k 3 3] W fun e w'=>e=Yi (Yg Yt (((rt x a^^^rt x b)^^^rt x c:Nat):Int))∧∃n,w'=W.drewN n:=by have R1:=sq (Na x a hx ha ha');have R2:=sq (Na x b hx hb hb');have R3:=sq (Na x c hx hc hc');(have O0:bits .xor .u32 0 (rt x a:Nat)=(rt x a:Nat):=by have:=GA 0 (rt x a) ND (Dm hx);rw[Nat.zero_xor] at this;exact this);have O1:=GA (rt x a) (rt x b) (Dm hx) (Dm hx);have O3:=GA (rt x a^^^rt x b) (rt x c) (F8 (Dm hx) (Dm hx)) (Dm hx);generalize (rt x a^^^rt x b)^^^rt x c=r at*;generalize rt x a^^^rt x b=q at*;generalize rt x a=ra at*;generalize rt x b=rb at*;generalize rt x c=rc at*;obtain⟨N1,N2⟩:=AJN;have N3:IntKind.i64.wrap (-(c:Int))= -(c:Int):=IntWalk.i64_in _ KA;clear ha ha' hb hb' hc hc' hx;go_in;go_wp2_with fail;go_loop [4,9] (fun y i=>∃j:Nat,j≤3∧i=Yg Yj j∧y=Yg Yt (([0,ra,q,r].getD j 0:Nat):Int)) (fun _ i=>3-(intOf i).toNat);(case atStart=>exact⟨0,KA,rfl,rfl⟩);case round=>obtain⟨j,hj,rfl,rfl⟩:=hrel;have:j=0∨j=1∨j=2∨j=3:=KA;rcases this with rfl|rfl|rfl|rfl;(·simp only[AOE,AOS,Int.ofNat_zero,Int.natCast_zero,Int.cast_ofNat_Int] at*;go_wp2_with (go_at_call 334;refine (R1.out _).mono ?_;rintro e w' ⟨rfl,rfl⟩);go_round;(case rel=>exact⟨1,KA,rfl,rfl⟩);case measure=>simp[intOf]);(·simp only[AOE,AOS,Int.ofNat_zero,Int.natCast_zero,Int.cast_ofNat_Int] at*;go_wp2_with (go_at_call 334;refine (R2.out _).mono ?_;rintro e w' ⟨rfl,rfl⟩);go_round;(case rel=>exact⟨2,KA,rfl,rfl⟩);case measure=>simp[intOf]);(·simp only[AOE,AOS,Int.ofNat_zero,Int.natCast_zero,Int.cast_ofNat_Int] at*;go_wp2_with (go_at_call 334;refine (R3.out _).mono ?_;rintro e w' ⟨rfl,rfl⟩);go_round;(case rel=>exact⟨3,KA,rfl,rfl⟩);case measure=>simp[intOf]);simp only[AOE,AOS,Int.ofNat_zero,Int.natCast_zero,Int.cast_ofNat_Int] at*;go_wp2_with fail;go_ret;exact⟨rfl,0,rfl⟩
section
variable {P:Program} {ops:Array Oper} {Q:Exit→Act→J→Prop} {md:Region.Mode} {S:J→Prop} {B:List Nat}
def waits (md:Region.Mode) (ops:Array Oper) (B:List Nat) (i:Nat):Bool:=
 B.all fun b=>b !=i&&(match ops[b]? with
  |some o=>o.after.any fun e=>Region.binds md e&&e.on==i
  |none=>Yz)
theorem Qh {i:Nat} (h:waits md ops B i=Yy) (b:Nat) (hb:b∈B):b≠i∧∃o,ops[b]?=Z o∧∃e∈o.after,Region.binds md e=Yy∧e.on=i:=by have h1:=ANd.1 h b hb;rw[ANw,APj] at h1;refine⟨h1.1,?_⟩;have h2:=h1.2;cases hx:ops[b]? with|none=>rw[hx] at h2;simp at h2|some o=>rw[hx] at h2;obtain⟨e,he,h3⟩:=Array.any_eq_true'.1 h2;rw[ANw,AOj] at h3;exact⟨o,rfl,e,he,h3.1,h3.2⟩
end
end Go.Proofs.YtiapejgiinidhaaGreatDoor
