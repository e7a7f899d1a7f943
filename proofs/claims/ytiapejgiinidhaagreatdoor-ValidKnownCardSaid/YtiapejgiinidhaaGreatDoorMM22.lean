import Derived.Maps.RangeWalk
import Derived.Test.YtiapejgiinidhaaGreatDoorMM11
import Derived.LoopN
set_option linter.all false
set_option maxRecDepth 100000
set_option maxHeartbeats 40000000
namespace Go.Proofs.YtiapejgiinidhaaGreatDoor
open Value renaming int→Yg,pointer→U,func→G,slice→Yh,bool→Yl,tuple→Ym
open IntKind renaming u64→V,i64→Yj
open Obj renaming cells→Yk
open Ending renaming returned→Yi
open Fn renaming func→M
open Go renaming World→J,Value→Yu,Calls→Yv,undef→Yx
open Go.Proofs.Tryz renaming prog→Yw
open Option renaming some→Z,none→Y
open Bool renaming true→Yy,false→Yz
open Go Go.RowKit
variable {F:Fence} {n:Nat} {P:Program}
theorem Dn {α:Type} {g:Operand} {ps:Array Tmp} {assign body:Code} {Q:Exit→Act→J→Prop} {a:Act} {w:J}
  (hro:F.round=Y) (h1:1≤n) {gf:Nat} {lb:Array Yu} (hg:a.eval g=G (M gf) #[] lb) (hFg:F.fn gf) (eg:∀args w,(callFunc gf args).run P w=.ok (.enter gf args) w)
  {encs:α→Array Yu} (hps:∀x,(encs x).size=ps.size) {S:List α→Prop}
  (I:List α→J→Prop) (Yf:List α×α→J→Prop) (M':List α×α→Act→J→Prop) (Ix:Code→List α→J→Prop)
  (hI:OwnFrom w.heap.size I) (hM:∀a',Ui w.heap.size (fun s=>M' s a')) (hIx:∀c,Ui w.heap.size (Ix c)) (h0:I [] w)
  (hassign:∀(l:Nat) (pre:List α) (x:α) (W:J) (K:Act→J→Prop),Yf (pre,x) W→(∀a' W',KeepsFrom w.heap.size W W'→M' (pre,x) a' W'→K a' W')→
   assign.wpIn (F.inRound l) (n-1-1) P (Exit.then K (fun _ _ _=>False)) {tmps:=(ps.zip (encs x)).foldl (fun t (p,v)=>t.setIfInBounds p v) a.tmps,defers:=[]} W)
  (hbody:∀(l:Nat) (pre:List α) (x:α) (a':Act) (W:J),M' (pre,x) a' W→body.wpIn (F.inRound l) (n-1-1) P (Vt w.heap.size I Ix (pre++[x]) W) a' W)
  (hiter:∀(l:Nat) (R:J→Prop) (Rx:Code→J→Prop),w.heap.size≤l→(∀W W',R W→KeepsFrom w.heap.size W W'→R W')→
   (∀c W W',Rx c W→KeepsFrom w.heap.size W W'→Rx c W')→(∀W,R W→l<W.heap.size)→
   (∀pre x W,Yf (pre,x) W→R W→YieldAt F (n-1-1) P l (encs x) W fun e W'=>
    (e=Yi (Yl Yy)∧I (pre++[x]) W'∧R W')∨(e=Yi (Yl Yz)∧∃c,Ix c (pre++[x]) W'∧Rx c W'))→
   ∀W,I [] W→R W→CallsIn F (n-1) P gf (#[.func (.yield l) #[] #[]]++lb) W fun e W'=>(∃v,e=Yi v)∧
    ((∃xs,S xs∧I xs W'∧R W')∨(∃c pre,Ix c pre W'∧Rx c W')))
  (hdone:∀(xs:List α) (W:J),S xs→I xs W→W.heap[w.heap.size]?=Z (.deferred (Z []))→Q .normal {a with defers:={target:=.collected w.heap.size,args:=#[]}::a.defers} W)
  (hstop:∀(c:Code) (pre:List α) (W:J),Ix c pre W→W.heap[w.heap.size]?=Z (.deferred (Z []))→c.wpIn F n P Q {a with defers:={target:=.collected w.heap.size,args:=#[]}::a.defers} W):
  (Code.rangeFunc g ps assign body).wpIn F n P Q a w:=by
 refine wpIn_rangeFunc ?_;intro fn hfn;rw[hro];obtain⟨rec,hrec⟩:∃rec:LoopState→Option Code→Loop,rec=fun st pe=>{state:=st,pending:=pe,fn,tmps:=a.tmps,params:=ps,assign,body,defers:=w.heap.size}:=⟨_,rfl⟩;obtain⟨W1,hW1⟩:∃W1,(w.alloc (.deferred (Z []))).alloc (.loop (rec .ready Y))=W1:=⟨_,rfl⟩;obtain⟨hL1,hK1,hI1⟩:=AEu
 refine⟨w.heap.size+1,[{target:=.collected w.heap.size,args:=#[]}],W1,{target:=.fn (.func gf) lb,args:=#[.func (.yield (w.heap.size+1)) #[] #[]]},W1,gf,
  #[.func (.yield (w.heap.size+1)) #[] #[]]++lb,W1,?_,?_,?_,?_,fun _=>h1,?_⟩
 (exact AIx);(exact AKf);(exact AIK);(·simp[invoke,go_sem,eg])
 refine (hiter (w.heap.size+1)
  (fun W=>W.heap[w.heap.size+1]?=Z (.loop (rec .ready Y))∧W.heap[w.heap.size]?=Z (.deferred (Z [])))
  (fun c W=>W.heap[w.heap.size+1]?=Z (.loop (rec .done (Z c)))∧W.heap[w.heap.size]?=Z (.deferred (Z [])))
  (ANr _)
  (fun W W' h hk=>⟨hk.same _ _ (ANr _) h.1 rfl,hk.same _ _ (AMi _) h.2 rfl⟩)
  (fun c W W' h hk=>⟨hk.same _ _ (ANr _) h.1 rfl,hk.same _ _ (AMi _) h.2 rfl⟩)
  (fun W h=>(AMm.1 h.1).1)
  ?_ W1 hI1 ⟨hL1,hK1⟩).mono ?_
 ·rintro pre x W hi ⟨hl,hk⟩;have hy:=run_yield (P:=P) (args:=encs x) hl ADM;rw[hrec] at hy;refine⟨fn,_,assign,body,hy,roundIn_of_wpIn hfn (hassign _ pre x W _ hi fun a' W' hkf hM'=>?_)⟩;have hl:=hkf.same _ _ (ANr _) hl rfl;have hk:=hkf.same _ _ (AMi _) hk rfl;have hlt:w.heap.size+1<W'.heap.size:=(AMm.1 hl).1;refine⟨_,run_beginRound hl (by rw[hrec]),?_⟩;have hl2:(W'.putObj (w.heap.size+1) (.loop {rec .ready Y with state:=.busy})).heap[w.heap.size+1]?=Z (.loop {rec .ready Y with state:=.busy}):=World.putObj_heap_same hlt;have hk2:(W'.putObj (w.heap.size+1) (.loop {rec .ready Y with state:=.busy})).heap[w.heap.size]?=Z (.deferred (Z [])):=(World.putObj_heap_other KA).trans hk;refine wpIn_mono (hbody _ pre x a' _ (hM _ _ _ _ _ _ hM' KA hl rfl)) ?_
  have fin:∀(jump:Option Code) (W3:J),KeepsFrom w.heap.size (W'.putObj (w.heap.size+1) (.loop {rec .ready Y with state:=.busy})) W3→
    (Instr.endRound (w.heap.size+1) jump).run P W3=.ok (Yl jump.isNone) (W3.putObj (w.heap.size+1) (.loop (rec (if jump.isNone then .ready else .done) jump)))∧
    W3.heap[w.heap.size+1]?=Z (.loop {rec .ready Y with state:=.busy})∧
    (W3.putObj (w.heap.size+1) (.loop (rec (if jump.isNone then .ready else .done) jump))).heap[w.heap.size+1]?=Z (.loop (rec (if jump.isNone then .ready else .done) jump))∧
    (W3.putObj (w.heap.size+1) (.loop (rec (if jump.isNone then .ready else .done) jump))).heap[w.heap.size]?=Z (.deferred (Z [])):=fun jump W3 hk3=>by
   have hl3:=hk3.same _ _ (ANr _) hl2 rfl;have:=run_endRound (P:=P) jump hl3;rw[hrec] at this⊢;exact⟨this,ACd,World.putObj_heap_same (AMm.1 hl3).1,(World.putObj_heap_other KA).trans (hk3.same _ _ (AMi _) hk2 rfl)⟩
  exact AEl
 exact AEv
variable {F:Fence} {n:Nat} {P:Program}
structure SH (B l:Nat) (W W':J):Prop where
 size:W.heap.size≤W'.heap.size
 same:∀(k:Nat) (o:Obj),B≤k→k≠l→W.heap[k]?=Z o→o.isCells=Yz→W'.heap[k]?=Z o
theorem GX {α:Type} {g:Operand} {ps:Array Tmp} {assign body:Code} {Q:Exit→Act→J→Prop} {a:Act} {w:J}
  (hro:F.round=Y) (h1:1≤n) {gf:Nat} {lb:Array Yu} (hg:a.eval g=G (M gf) #[] lb) (hFg:F.fn gf) (eg:∀args w,(callFunc gf args).run P w=.ok (.enter gf args) w)
  {encs:α→Array Yu} (hps:∀x,(encs x).size=ps.size) {S:List α→Prop}
  (I:List α→J→Prop) (Yf:List α×α→J→Prop) (Ix:Code→List α→J→Prop)
  (hI:OwnFrom w.heap.size I) (hM:∀s W o o',Yf s W→W.heap[w.heap.size+1]?=Z o→o.isCells=Yz→Yf s (W.putObj (w.heap.size+1) o')) (hIx:∀c,Ui w.heap.size (Ix c)) (h0:I [] w) (a₁:α→Act)
  (hassign:∀(l:Nat) (x:α) (W:J) (K:Act→J→Prop),K (a₁ x) W→
   assign.wpIn (F.inRound l) (n-1-1) P (Exit.then K (fun _ _ _=>False)) {tmps:=(ps.zip (encs x)).foldl (fun t (p,v)=>t.setIfInBounds p v) a.tmps,defers:=[]} W)
  (hbody:∀(l:Nat) (pre:List α) (x:α) (W:J),Yf (pre,x) W→body.wpIn (F.inRound l) (n-1-1) P (Vt w.heap.size I Ix (pre++[x]) W) (a₁ x) W)
  (hiter:∀(l:Nat) (R:J→Prop) (Rx:Code→J→Prop),l=w.heap.size+1→(∀W W',R W→W'.heap[l]?=W.heap[l]?→W'.heap[w.heap.size]?=W.heap[w.heap.size]?→R W')→
   (∀c W W',Rx c W→KeepsFrom w.heap.size W W'→Rx c W')→(∀W,R W→l<W.heap.size)→
   (∀pre x W,Yf (pre,x) W→R W→YieldAt F (n-1-1) P l (encs x) W fun e W'=>
    (e=Yi (Yl Yy)∧I (pre++[x]) W'∧R W'∧SH w.heap.size l W W')∨(e=Yi (Yl Yz)∧∃c,Ix c (pre++[x]) W'∧Rx c W'))→
   ∀W,I [] W→R W→CallsIn F (n-1) P gf (#[.func (.yield l) #[] #[]]++lb) W fun e W'=>(∃v,e=Yi v)∧
    ((∃xs,S xs∧I xs W'∧R W')∨(∃c pre,Ix c pre W'∧Rx c W')))
  (hdone:∀(xs:List α) (W:J),S xs→I xs W→W.heap[w.heap.size]?=Z (.deferred (Z []))→Q .normal {a with defers:={target:=.collected w.heap.size,args:=#[]}::a.defers} W)
  (hstop:∀(c:Code) (pre:List α) (W:J),Ix c pre W→W.heap[w.heap.size]?=Z (.deferred (Z []))→c.wpIn F n P Q {a with defers:={target:=.collected w.heap.size,args:=#[]}::a.defers} W):
  (Code.rangeFunc g ps assign body).wpIn F n P Q a w:=by
 refine wpIn_rangeFunc ?_;intro fn hfn;rw[hro];obtain⟨rec,hrec⟩:∃rec:LoopState→Option Code→Loop,rec=fun st pe=>{state:=st,pending:=pe,fn,tmps:=a.tmps,params:=ps,assign,body,defers:=w.heap.size}:=⟨_,rfl⟩;obtain⟨W1,hW1⟩:∃W1,(w.alloc (.deferred (Z []))).alloc (.loop (rec .ready Y))=W1:=⟨_,rfl⟩;obtain⟨hL1,hK1,hI1⟩:=AEu
 refine⟨w.heap.size+1,[{target:=.collected w.heap.size,args:=#[]}],W1,{target:=.fn (.func gf) lb,args:=#[.func (.yield (w.heap.size+1)) #[] #[]]},W1,gf,
  #[.func (.yield (w.heap.size+1)) #[] #[]]++lb,W1,?_,?_,?_,?_,fun _=>h1,?_⟩
 (exact AIx);(exact AKf);(exact AIK);(·simp[invoke,go_sem,eg])
 refine (hiter (w.heap.size+1)
  (fun W=>W.heap[w.heap.size+1]?=Z (.loop (rec .ready Y))∧W.heap[w.heap.size]?=Z (.deferred (Z [])))
  (fun c W=>W.heap[w.heap.size+1]?=Z (.loop (rec .done (Z c)))∧W.heap[w.heap.size]?=Z (.deferred (Z [])))
  rfl
  (fun W W' h e1 e2=>⟨e1.trans h.1,e2.trans h.2⟩)
  (fun c W W' h hk=>⟨hk.same _ _ (ANr _) h.1 rfl,hk.same _ _ (AMi _) h.2 rfl⟩)
  (fun W h=>(AMm.1 h.1).1)
  ?_ W1 hI1 ⟨hL1,hK1⟩).mono ?_
 ·rintro pre x W hi ⟨hl,hk⟩;obtain⟨hlt,hy⟩:=AKD;rw[hrec] at hy;refine⟨fn,_,assign,body,hy,roundIn_of_wpIn hfn (hassign _ x W _ ⟨_,run_beginRound hl (by rw[hrec]),?_⟩)⟩;obtain⟨hl2,hk2⟩:=AFo;refine wpIn_mono (hbody _ pre x _ (hM _ _ _ _ hi hl rfl)) ?_
  have fin:∀(jump:Option Code) (W3:J),KeepsFrom w.heap.size (W.putObj (w.heap.size+1) (.loop {rec .ready Y with state:=.busy})) W3→
    (Instr.endRound (w.heap.size+1) jump).run P W3=.ok (Yl jump.isNone) (W3.putObj (w.heap.size+1) (.loop (rec (if jump.isNone then .ready else .done) jump)))∧
    W3.heap[w.heap.size+1]?=Z (.loop {rec .ready Y with state:=.busy})∧
    (W3.putObj (w.heap.size+1) (.loop (rec (if jump.isNone then .ready else .done) jump))).heap[w.heap.size+1]?=Z (.loop (rec (if jump.isNone then .ready else .done) jump))∧
    (W3.putObj (w.heap.size+1) (.loop (rec (if jump.isNone then .ready else .done) jump))).heap[w.heap.size]?=Z (.deferred (Z [])):=fun jump W3 hk3=>by
   have hl3:=hk3.same _ _ (ANr _) hl2 rfl;have:=run_endRound (P:=P) jump hl3;rw[hrec] at this⊢;exact⟨this,ACd,World.putObj_heap_same (AMm.1 hl3).1,(World.putObj_heap_other KA).trans (hk3.same _ _ (AMi _) hk2 rfl)⟩
  rintro e a3 W3 hp;cases e with|normal=>(obtain⟨hk3,hi3⟩:=hp;obtain⟨hr,hl3,hl4,hk4⟩:=fin Y W3 hk3;refine⟨_,_,hr,.inl ⟨rfl,hI.putObj _ hi3 KA hl3 rfl,⟨hl4,hk4⟩,?_,fun k o hB hne hk ho=>?_⟩⟩;(have:=hk3.size;simpa [World.putObj] using this);exact (World.putObj_heap_other hne).trans (hk3.same k o hB ((World.putObj_heap_other hne).trans hk) ho))|ret=>exact AFg|exit id=>exact AFY|goto t=>exact AFZ|panic ch=>exact hp.elim|outgrown=>exact hp.elim
 exact AEv
open Go Go.RowKit Go.ChangeMaps
def dU (v:Yu):Option (DataW Yu×List MemPlace):=Z (.held v,[])
def Kl (z:DataW Yu):Option Yu→DataW Yu
 |none=>z
 |some v=>.held v
theorem I8:Maps.Keyed Yw 22:=Maps.int_keyed Tryz.underlying22
theorem iB:IntKind.u64.min=0:=by decide
theorem iC:IntKind.u64.max=18446744073709551615:=by decide+kernel
theorem Om (k:Nat) (hk:k<18446744073709551616):keyOf Yw 22 (.int .u64 (k:Int))=Z (.int .u64 (k:Int)):=
 Maps.keyOf_int_mk Tryz.underlying22 (by
  simp[Lit.wf,iB,iC];omega)
def Reads (D:DataW Yu) (f:Nat→Option Yu):Prop:=
 Maps.IsMap D∧(∀k:Nat,k<18446744073709551616→∀z,D.atKey (.int .u64 (k:Int)) z=Kl z (f k))∧∀k,18446744073709551616≤k→f k=Y
def MapU (W:J) (b n:Nat) (f:Nat→Option Yu):Prop:=
 ∃D:DataW Yu,W.ownsMap Yw 22 dU b n D∧Reads D f
theorem MapU.lt {W:J} {b n:Nat} {f:Nat→Option Yu} (h:MapU W b n f):b<W.heap.size:=by obtain⟨D,h1,_⟩:=h;exact h1.lt
theorem MapU.but {W W':J} {b n:Nat} {f:Nat→Option Yu} {L:List Nat} (h:MapU W b n f) (hb:But L W W') (hm:b∉L):MapU W' b n f:=by obtain⟨D,h1,h2⟩:=h;have hlt:=h1.lt;obtain⟨es,clock,hb1,F,hs,hD⟩:=h1;exact⟨D,⟨es,clock,(hb.block b hlt hm).trans hb1,F,hs,hD⟩,h2⟩
theorem MapU.mono {W:J} {b n n':Nat} {f:Nat→Option Yu} (h:MapU W b n f) (hn:n≤n'):MapU W b n' f:=by obtain⟨D,h1,h2⟩:=h;exact⟨D,h1.mono hn,h2⟩
theorem Tc:Reads (.map []) (fun _=>Y):=
 ⟨Maps.isMap_empty,fun k _ z=>by simp[DataW.atKey,Kl],fun _ _=>rfl⟩
theorem MapU.new (W:J):MapU (W.alloc (.map #[] 0)) W.heap.size 0 (fun _=>Y):=
 ⟨.map [],World.ownsMap_made W _ _ _,Tc⟩
def AQA:=@MapU.new
def upd (f:Nat→Option Yu) (k:Nat) (v:Yu) (j:Nat):Option Yu:=if j=k then Z v else f j
theorem int_inj {a b:Nat} (h:Lit.int .u64 (a:Int)=Lit.int .u64 (b:Int)):a=b:=by injection h with _ h;exact Int.ofNat_inj.1 h
theorem Reads.put {D:DataW Yu} {f:Nat→Option Yu} (h:Reads D f) (k:Nat) (hk:k<18446744073709551616) (v:Yu):Reads (D.put (.int .u64 (k:Int)) (.held v)) (upd f k v):=by refine⟨h.1.put _ _,fun j hj z=>?_,fun j hj=>?_⟩;(unfold upd;by_cases e:j=k;(subst e;rw[Maps.atKey_put_same h.1 ADG,AMx rfl];rfl);rw[Maps.atKey_put_other (fun h=>e (int_inj h)),h.2.1 j hj,AMu e]);unfold upd;rw[AMu KA,h.2.2 j hj]
section
variable {W:J} {b n:Nat} {f:Nat→Option Yu} {t e:TypeId}
theorem MapU.look (h:MapU W b n f) (ht:Tryz.prog.underlying t=Z (.map 22 e)) {z:Yu} (hz:(zeroValue e).run Yw W=.ok z W) (k:Nat) (hk:k<18446744073709551616):
  (Instr.lookup t (.map (Z b)) (Yg V (k:Int)) Yz).run Yw W=.ok ((f k).getD z) W:=by obtain⟨D,h1,h2⟩:=h;obtain⟨v,ps,hrun,hv⟩:=h1.lookup (t:=t) I8 ht hz (zd:=.held z) (zp:=[]) rfl (Om k hk);rw[hrun];rw[h2.2.1 k hk] at hv;cases hf:f k with|none=>rw[hf] at hv;simp[dU,Kl] at hv;rw[hv.1];rfl|some u=>rw[hf] at hv;simp[dU,Kl] at hv;rw[hv.1];rfl
theorem MapU.look_ok (h:MapU W b n f) (ht:Tryz.prog.underlying t=Z (.map 22 e)) {z:Yu} (hz:(zeroValue e).run Yw W=.ok z W) (k:Nat) (hk:k<18446744073709551616):
  (Instr.lookup t (.map (Z b)) (Yg V (k:Int)) Yy).run Yw W=.ok (Ym #[(f k).getD z,Yl (f k).isSome]) W:=by obtain⟨D,h1,h2⟩:=h;obtain⟨v,ps,hrun,hv⟩:=h1.look_ok (t:=t) I8 ht hz (zd:=.held z) (zp:=[]) rfl (Om k hk);rw[hrun];have h3:=h2.2.1 k hk;rw[h3] at hv;cases hf:f k with|none=>rw[hf] at hv h3;simp[dU,Kl] at hv;rw[hv.1,APV (fun z=>h3 z)];rfl|some u=>rw[hf] at hv h3;simp[dU,Kl] at hv;rw[hv.1,APZ (y:=.held u) (fun z=>h3 z)];rfl
theorem MapU.put (h:MapU W b n f) (ht:Tryz.prog.underlying t=Z (.map 22 e)) (k:Nat) (hk:k<18446744073709551616) (v:Yu) (hn:n<1000000):
  ∃w',(Instr.mapUpdate t (.map (Z b)) (Yg V (k:Int)) v).run Yw W=.ok () w'∧MapU w' b (n+1) (upd f k v)∧But [b] W w'∧w'.heap.size=W.heap.size∧W.grownBy w' (Z b):=by (have hml:n<maxLen:=by have:maxLen=9223372036854775807:=PV;omega);obtain⟨D,h1,h2⟩:=h;obtain⟨w',hrun,ho,ht'⟩:=h1.store (t:=t) I8 ht hml (Om k hk) (val:=v) (d:=.held v) (ps:=[]) rfl;(have hsz:w'.heap.size=W.heap.size:=by obtain⟨es,clock,es',clock',hb,rfl⟩:=ht';simp[setBlock]);refine⟨w',hrun,⟨_,ho,h2.put k hk v⟩,?_,hsz,ht'.grown⟩;refine AP1 ht'.grown fun j hj cs t _ hb=>?_;obtain rfl:=ANW hj;exact AJ4
theorem MapU.clear (h:MapU W b n f) (ht:Tryz.prog.underlying t=Z (.map 22 e)) (ty:TypeId):
  ∃w',(Builtin.clear_ #[t] ty #[.map (Z b)]).run Yw W=.ok (Ym #[]) w'∧MapU w' b 0 (fun _=>Y)∧But [b] W w'∧w'.heap.size=W.heap.size∧W.grownBy w' (Z b):=by obtain⟨D,h1,h2⟩:=h;obtain⟨es,clock,hb1,F,hs,hD⟩:=h1;have hturn:W.mapTurned (setBlock W b (.map #[] clock)) b:=⟨es,clock,#[],clock,hb1,rfl⟩;(have hrun:(Builtin.clear_ #[t] ty #[.map (Z b)]).run Yw W=.ok (Ym #[]) (setBlock W b (.map #[] clock)):=by simp[Builtin.clear_,AOk ht,MapKept.run_getObj_map hb1,MapKept.run_setObj_map _ hb1,Result.andThen,setBlock]);refine⟨_,hrun,⟨.map [],⟨#[],clock,heap_setBlock_same hb1 _,⟨NC,MapKept.stamped_empty clock,NC⟩,AMi _,rfl⟩,Tc⟩,?_,by simp[setBlock],hturn.grown⟩;refine AP1 hturn.grown fun j hj cs t _ hb=>?_;obtain rfl:=ANW hj;unfold AJ at hb;rw[hb1] at hb;cases hb
def Gj (W:J) (b r n:Nat) (f:Nat→Option Yu) (left:Nat→Bool):Prop:=
 ∃(D:DataW Yu) (lf:Lit→Bool) (cnt:Nat),W.ranges Yw 22 dU b r n D lf cnt∧Reads D f∧(∀k:Nat,k<18446744073709551616→lf (.int .u64 (k:Int))=left k)∧∀k,18446744073709551616≤k→left k=Yz
theorem Gj.map {r:Nat} {left:Nat→Bool} (h:Gj W b r n f left):MapU W b n f:=by obtain⟨D,lf,cnt,h1,h2,_⟩:=h;exact⟨D,h1.owns,h2⟩
theorem Gj.lt {r:Nat} {left:Nat→Bool} (h:Gj W b r n f left):r<W.heap.size:=by obtain⟨D,lf,cnt,h1,h2,_⟩:=h;exact h1.lt
theorem Gj.but {W':J} {r:Nat} {left:Nat→Bool} {L:List Nat} (h:Gj W b r n f left) (hb:But L W W') (hm:b∉L) (hr:r∉L):Gj W' b r n f left:=by obtain⟨D,lf,cnt,h1,h2⟩:=h;have l1:=h1.owns.lt;have l2:=h1.lt;obtain⟨es,clock,since,seen,c0,hb1,F,hs,hD,hr1,rest⟩:=h1;exact⟨D,lf,cnt,⟨es,clock,since,seen,c0,(hb.block b l1 hm).trans hb1,F,hs,hD,(hb.block r l2 hr).trans hr1,rest⟩,h2⟩
theorem CQ {W':J} {r:Nat} {L:List Nat} (hb:But L W W') (hm:b∉L) (hr:r∉L) (l1:b<W.heap.size) (l2:r<W.heap.size):W'.rangeLeft b r=W.rangeLeft b r:=by unfold World.rangeLeft;rw[hb.block b l1 hm,hb.block r l2 hr]
theorem MapU.range (h:MapU W b n f) (ht:Tryz.prog.underlying t=Z (.map 22 e)):
  ∃w',(Instr.range t (.map (Z b))).run Yw W=.ok (U W.heap.size) w'∧Gj w' b W.heap.size n f (fun k=>(f k).isSome)∧But [] W w'∧w'.heap.size=W.heap.size+1∧W.grownBy w' Y∧w'.rangeLeft b W.heap.size≤n:=by obtain⟨D,h1,h2⟩:=h;obtain⟨w',hrun,r1,r2,r3⟩:=h1.range (t:=t) I8 ht;refine⟨w',hrun,⟨D,_,_,r1,h2,fun k hk=>?_,fun k hk=>by simp only[h2.2.2 k hk];rfl⟩,AP1 r2 (fun j hj=>by cases hj),r3,r2,by rw[r1.left_eq];exact h1.size_le⟩;have h3:=h2.2.1 k hk;show Maps.has D (Lit.int IntKind.u64 ↑k)=(f k).isSome;cases hf:f k with|none=>rw[hf] at h3;exact APV (fun z=>h3 z)|some u=>rw[hf] at h3;exact APZ (y:=.held u) (fun z=>h3 z)
theorem Gj.next {r:Nat} {left:Nat→Bool} (h:Gj W b r n f left) (ty:TypeId):
  ((∀k,left k=Yz)∧(Instr.next (U r) Yz ty).run Yw W=.ok (Ym #[Yl Yz]) W)∨
  ∃(k:Nat) (v:Yu) (w':J),k<18446744073709551616∧left k=Yy∧f k=Z v∧(Instr.next (U r) Yz ty).run Yw W=.ok (Ym #[Yl Yy,.int .u64 (k:Int),v]) w'∧
   Gj w' b r n f (fun j=>left j&& !(j==k))∧w'.rangeLeft b r<W.rangeLeft b r∧But [r] W w'∧w'.heap.size=W.heap.size∧W.grownBy w' (Z r)∧(Instr.entry (U r)).run Yw w'=.ok (Ym #[.int .u64 (k:Int),v]) w':=by obtain⟨D,lf,cnt,h1,h2,h3,h4⟩:=h;rcases h1.next I8 ty with⟨_,hl,hrun⟩|⟨key,v,kl,y,w',cnt',hkey,hlk,hv,hat,hrun,hrg,hlt,hgr,hsz,hen⟩;(refine Or.inl ⟨fun k=>?_,hrun⟩;by_cases hk:k<18446744073709551616;(rw[←h3 k hk];exact hl _);exact h4 k KA);obtain⟨x,rfl,rfl,hw⟩:=Maps.keyOf_int_inv Tryz.underlying22 hkey;(obtain⟨k,rfl,hk⟩:∃k:Nat,x=(k:Int)∧k<18446744073709551616:=by simp[Lit.wf,iB,iC] at hw;exact⟨x.toNat,KA,KA⟩);refine Or.inr ⟨k,v,w',hk,by rw[←h3 k hk];exact hlk,?_,hrun,⟨D,_,cnt',hrg,h2,fun j hj=>?_,fun j hj=>by simp[h4 j hj]⟩,by rw[hrg.left_eq,h1.left_eq];exact hlt,AP1 hgr (fun j hj cs t _ hb=>?_),hsz,hgr,hen⟩;(have e:=h2.2.1 k hk;simp only[dU,ANo] at hv;have e1:=(hat .nil).symm.trans (e .nil);rw[←hv] at e1;cases hf:f k with|none=>rw[hf] at e1;simp[Kl] at e1|some u=>rw[hf] at e1;simp[Kl] at e1;rw[e1]);(show (lf _&& !_)=_;rw[h3 j hj];by_cases ejk:j=k;(subst ejk;rw[WideAt.sameKey_self ADG];simp);rw[Maps.sameKey_ne (fun h=>ejk (int_inj h))];simp[ejk]);obtain rfl:=ANW hj;obtain⟨es,clock,since,seen,c0,_,_,_,_,hr1,_⟩:=h1;unfold AJ at hb;rw[hr1] at hb;cases hb
theorem MapU.same {W':J} (h:MapU W b n f) (hb:W'.heap[b]?=W.heap[b]?):MapU W' b n f:=by obtain⟨D,⟨es,clock,hb1,rest⟩,h2⟩:=h;exact⟨D,⟨es,clock,hb.trans hb1,rest⟩,h2⟩
theorem Gj.same {W':J} {r:Nat} {left:Nat→Bool} (h:Gj W b r n f left) (hb:W'.heap[b]?=W.heap[b]?) (hr:W'.heap[r]?=W.heap[r]?):Gj W' b r n f left:=by obtain⟨D,lf,cnt,⟨es,clock,since,seen,c0,hb1,F,hs,hD,hr1,rest⟩,h2⟩:=h;exact⟨D,lf,cnt,⟨es,clock,since,seen,c0,hb.trans hb1,F,hs,hD,hr.trans hr1,rest⟩,h2⟩
theorem Qy {W':J} {r:Nat} (hb:W'.heap[b]?=W.heap[b]?) (hr:W'.heap[r]?=W.heap[r]?):W'.rangeLeft b r=W.rangeLeft b r:=by unfold World.rangeLeft;rw[hb,hr]
theorem Gj.iter {r:Nat} {left:Nat→Bool} (h:Gj W b r n f left):∃o,W.heap[r]?=Z o∧o.isCells=false:=by obtain⟨D,lf,cnt,⟨es,clock,since,seen,c0,hb1,F,hs,hD,hr1,rest⟩,h2⟩:=h;exact⟨_,hr1,rfl⟩
theorem MapU.obj (h:MapU W b n f):∃o,W.heap[b]?=Z o∧o.isCells=false:=by obtain⟨D,⟨es,clock,hb1,rest⟩,h2⟩:=h;exact⟨_,hb1,rfl⟩
end
open Go Go.RowKit Go.Shelf
attribute [local go_sem] Oper.semAt_some
theorem lM (mb:Nat) (W:J):Yv Yw 278 #[.map (Z mb)] W fun e w'=>
  e=Yi (G (M 326) #[] #[U W.heap.size])∧w'=W.alloc (Yk #[.map (Z mb)] 167):=ALn
theorem mF (bx mb n B:Nat) (f:Nat→Option Yu) (mo:Obj) (I:List Nat→J→Prop) (hI:OwnFrom B I) (hbm:mb<B)
  (hB:∀pre W,I pre W→Boxed W bx 167 (.map (Z mb))∧W.heap[mb]?=Z mo) (hmap:∀W,W.heap[mb]?=Z mo→MapU W mb n f)
  (l:Nat) (R:J→Prop) (Rx:Code→J→Prop) (hBl:B≤l) (hR:∀W W',R W→W'.heap[l]?=W.heap[l]?→W'.heap[B]?=W.heap[B]?→R W') (hlt:∀W,R W→l<W.heap.size)
  (hY:∀(pre:List Nat) (x:Nat) W,(I pre W∧x∉pre∧(f x).isSome∧x<18446744073709551616)→R W→YieldAt Fence.wide 1 Yw l #[Yg V (x:Nat)] W fun e W'=>
    (e=Yi (Yl Yy)∧I (pre++[x]) W'∧R W'∧SH B l W W')∨(e=Yi (Yl Yz)∧∃c:Code,False∧Rx c W'))
  (W:J) (hI0:I [] W) (hRW:R W):
  CallsIn Fence.wide 2 Yw 326 #[.func (.yield l) #[] #[],U bx] W fun e W'=>(∃v,e=Yi v)∧∃pre,I pre W'∧R W'∧pre.Nodup∧∀k,k∈pre↔(f k).isSome:=by refine AOh Tryz.func326 rfl trivial ?_ rfl;simp only[Tryz.ntmps326,List.size_toArray,AMl,AMr,Nat.reduceAdd,Nat.reduceSub,Array.replicate_succ,Array.replicate_zero,ANO,ANH,List.nil_append,List.cons_append];obtain⟨hbx,hmo⟩:=hB [] W hI0;have c0:=hbx.cell;have lx:=hbx.lt;obtain⟨w0,hrun,hr0,hb0,hs0,hg0,_⟩:=(hmap W hmo).range Tryz.underlying167;have hI1:I [] w0:=hI [] W w0 Y hI0 hg0 (fun r e=>by cases e);have hlW:=hlt W hRW;have hR1:R w0:=hR W w0 hRW (hg0.block l hlW NC) (hg0.block B KA NC);obtain⟨r,hr⟩:∃r,r=W.heap.size:=⟨_,rfl⟩;have HH:=sq (AMc hI1 (AMc hR1 hr0));have HL:Shut (l<r):=⟨by rw[hr];exact hlW⟩;clear hI1 hR1 hr0 hb0 hs0 hg0 hmo hbx hlW;rw[←hr] at hrun HH;clear hr;gi_wp2_with fail;gi_loopw [3] (fun z wr=>∃pre left,I pre wr∧R wr∧Gj wr mb r n f left∧pre.Nodup∧(∀k,left k=((f k).isSome&& !(pre.contains k)))∧∀k∈pre,(f k).isSome=Yy) (fun _ wr=>wr.rangeLeft mb r);(case atStart=>exact⟨[],_,HH.o.1,HH.o.2.1,HH.o.2.2,List.nodup_nil,fun k=>NC,NC⟩);case round=>obtain⟨pre,left,hJ,hRw,hMR,hnd,hleft,hin⟩:=hrel;rcases hMR.next 0 with⟨hno,hrn⟩|⟨k,v,w1,hk,hlk,hfk,hrn,hr1,hlt1,hb1,hsz1,hg1,hen⟩;(·have HE:Shut (pre.Nodup∧∀k,k∈pre↔(f k).isSome):=⟨hnd,fun k=>⟨fun h=>hin k h,fun h=>by have:=hno k;rw[hleft k,h] at this;simpa using this⟩⟩;clear hMR hnd hleft hin hno;gi_wp2_with fail;go_end0;exact⟨⟨_,rfl⟩,pre,hJ,hRw,HE.o⟩);(have hni:k∉pre:=by have:=hleft k;rw[hlk] at this;simp at this;exact this.2);(have hfs:(f k).isSome=true:=by rw[hfk];rfl);have hit:=hMR.iter;have hJ1:I pre w1:=hI pre wr w1 (Z r) hJ hg1 (fun r' e=>by cases e;exact⟨AD7,hit⟩);have hlr:=HL.o;have hR1:R w1:=hR wr w1 hRw (hb1.block l (hlt wr hRw) NG) (hb1.block B (by have:=hlt wr hRw;omega) NG);obtain⟨fn,tmps,assign,body,hyl,hRd⟩:=hY pre k w1 ⟨hJ1,hni,hfs,hk⟩ hR1;have HRD:=sq hRd;have HN:Shut ((pre++[k]).Nodup∧(∀j,(left j&& !(j==k))=((f j).isSome&& !((pre++[k]).contains j)))∧∀j∈pre++[k],(f j).isSome=Yy):=⟨by refine⟨?_,fun j=>?_,fun j hj=>?_⟩;(exact AKn);(rw[hleft j];by_cases e:j=k;(subst e;simp);simp[e]);rcases AM3.1 hj with h|h;(exact hin j h);simp at h;subst h;exact hfs⟩;have HMR:=sq (AMc hr1 hlt1);have HK:=sq hk;have HM1:=sq (hB _ _ hJ1).2;clear hMR hnd hleft hin hJ hRw hJ1 hR1 hlk hfk hfs hni hb1 hsz1 hg1 hit hr1 hlt1 hRd hk HH;gi_wp2_with fail;refine HRD.o.mono ?_;rintro e W3 (⟨rfl,hJ3,hR3,hK3⟩|⟨rfl,c,hc,_⟩);(·have hmr:=HMR.o.1;(have hm3:W3.heap[mb]?=w1.heap[mb]?:=by rw[(hB _ _ hJ3).2,HM1.o]);(have hr3:W3.heap[r]?=w1.heap[r]?:=by obtain⟨o,ho,hc⟩:=hmr.iter;rw[ho];exact hK3.same r o KA KA ho hc);have HM3:=sq (AMc (hmr.same hm3 hr3) (Qy hm3 hr3));clear hmr hm3 hr3;gi_wp2_with fail;exact⟨⟨pre++[k],_,hJ3,hR3,HM3.o.1,HN.o⟩,by rw[HM3.o.2];exact HMR.o.2⟩);exact hc.elim
def iU (l:List Nat):List Yu:=l.map fun (i:Nat)=>Yg V i
structure yH (n:Nat) (w:J) (bx mb:Nat) (mo:Obj) (pre:List Nat) (W:J):Prop where
 l:∃v,Boxed W n 24 v∧W.ownsRow (n+1) 22 1 v pre.length (iU pre)
 bx:Boxed W bx 167 (.map (Z mb))
 mb:W.heap[mb]?=Z mo
 but:But [] w W
 sz:n+1≤W.heap.size
theorem yH.own {n:Nat} {w:J} {bx mb:Nat} {mo:Obj} {pre:List Nat} {W W':J} {row:Option Nat} (h:yH n w bx mb mo pre W) (hg:W.grownBy W' row) (hm:mb<w.heap.size)
  (hr:∀r,row=Z r→w.heap.size≤r∧∃o:Obj,W.heap[r]?=Z o∧o.isCells=Yz):yH n w bx mb mo pre W':=by obtain⟨hr2,hb⟩:=AE1;obtain⟨v,hv,ho⟩:=h.l;refine⟨⟨v,APx hv hb (Az hr2 hv),AA ho hb fun j hj e=>?_⟩,APx h.bx hb (Az hr2 h.bx),?_,h.but.trans' hb (fun j hj=>(hr j (AMw.1 hj)).1),AMj h.sz hb.size⟩;(exact AIm);rw[hb.block mb (AMm.1 h.mb).1 (fun hmm=>by have:=(hr mb (AMw.1 hmm)).1;omega)];exact h.mb
theorem La:∀(l ks:List Nat),l.Nodup→(∀x∈l,x∈ks)→l.length≤ks.length
 |[],_,_,_=>AM4 _
 |a::l,ks,h,hs=>by
  obtain⟨h1,h2⟩:=List.nodup_cons.1 h;have ha:a∈ks:=hs a NC;have:=La l (ks.erase a) h2 (fun x hx=>(List.mem_erase_of_ne (fun e=>h1 (by rw[←e];exact hx))).2 (hs x AEI));rw[List.length_erase_of_mem ha] at this;have:=List.length_pos_of_mem ha;simp only[AMl];omega
theorem aX {W W':J} {r:Nat} (hg:W.grownBy W' (Z r)) {k:Nat} (hk:k<W.heap.size) (hne:k≠r):W'.heap[k]?=W.heap[k]?:=hg.block k hk NG
theorem SC (bx mb n:Nat) (f:Nat→Option Yu) (ks:List Nat) (W:J) (hx:Boxed W bx 167 (.map (Z mb))) (hm:MapU W mb n f) (hks:∀k,(f k).isSome→k∈ks) (hl:ks.length≤1000):
  Yv Yw 338 #[.slice Y 0 0,G (M 326) #[] #[U bx]] W fun e w'=>
   ∃v pre,e=Yi v∧But [] W w'∧w'.ownsRow W.heap.size 22 1 v pre.length (iU pre)∧pre.Nodup∧∀k,k∈pre↔(f k).isSome:=by
 obtain⟨mo,hmo,hmc⟩:=hm.obj;have hmap:∀W',W'.heap[mb]?=Z mo→MapU W' mb n f:=fun W' h=>hm.same (h.trans hmo.symm);have hml:=hm.lt;have hxl:=hx.lt;refine (ANE (n:=3)).1 ?_;refine callsIn_of_wp_marks Tryz.func338 rfl trivial ?_ rfl;simp only[Tryz.ntmps338,List.size_toArray,AMl,AMr,Nat.reduceAdd,Nat.reduceSub,Array.replicate_succ,Array.replicate_zero,ANO,ANH,List.nil_append,List.cons_append]
 have hI0:yH W.heap.size W bx mb mo [] (W.alloc (Yk #[.slice Y 0 0] 24)):=
  ⟨⟨_,Boxed.new W _ _,AMy _ _ _ _⟩,hx.alloc _,(AOW _ _ _ hml).trans hmo,(APu [] W).alloc _,NC⟩
 have hs1:(W.alloc (Yk #[.slice Y 0 0] 24)).heap.size=W.heap.size+1:=NC;clear hx hm hmo;gi_wp2_with fail;generalize W.alloc (Yk #[.slice Y 0 0] 24)=w1 at*;have hOw:OwnFrom w1.heap.size (fun (pre:List Nat) W'=>yH W.heap.size W bx mb mo pre W'∧pre.Nodup∧∀k∈pre,(f k).isSome=Yy):=fun s A' B' row hs hg hr=>⟨hs.1.own hg hml (fun r e=>⟨AMj KA (hr r e).1,(hr r e).2⟩),hs.2⟩
 refine GX (w:=w1) rfl KA (gf:=326) (lb:=#[U bx]) rfl trivial
  (enters_of Tryz.func326 NA rfl) (encs:=fun x:Nat=>#[Yg V (x:Nat)]) (fun _=>rfl) (S:=fun pre=>pre.Nodup∧∀k,k∈pre↔(f k).isSome)
  (fun pre W'=>yH W.heap.size W bx mb mo pre W'∧pre.Nodup∧∀k∈pre,(f k).isSome=Yy)
  (fun p W'=>(yH W.heap.size W bx mb mo p.1 W'∧p.1.Nodup∧∀k∈p.1,(f k).isSome=Yy)∧p.2∉p.1∧(f p.2).isSome=Yy∧p.2<18446744073709551616)
  (fun _ _ _=>False) hOw (fun s W' o o' hs hl hc=>⟨hOw.putObj o' (s:=s.1) hs.1 (ANr _) hl hc,hs.2⟩)
  (fun _ _ _ _ _ _ h _ _ _=>h) ⟨hI0,List.nodup_nil,NC⟩
  (fun x:Nat=>{tmps:=#[.slice Y 0 0,G (M 326) #[] #[U bx],U W.heap.size,Yx,.slice Y 0 0,Yg V (x:Nat),
   G (M 326) #[] #[U bx],Yg V (x:Nat),Yx,Yx,Yx,Yx,Yx],defers:=[]}) ?assign ?body ?iter ?done ?stop
 (case assign=>exact AJY);(case body=>rintro l pre x Wr ⟨⟨hJ,hnd,hin⟩,hni,hfx,hx64⟩;dsimp only at hJ hnd hin hni hfx hx64;have hpl:pre.length≤1000:=AMj (La pre ks hnd (fun k hk=>hks k (hin k hk))) hl;(have el:iU (pre++[x])=iU pre++[Yg V (x:Nat)]:=by simp[iU]);have ep:(pre++[x]).length=pre.length+1:=NC;obtain⟨v,hl1,ho1⟩:=hJ.l;have HJ:=sq hJ;have HND:Shut ((pre++[x]).Nodup∧∀k∈pre++[x],(f k).isSome=Yy):=⟨by refine⟨?_,fun j hj=>?_⟩;(exact AKn);rcases AM3.1 hj with h|h;(exact hin j h);simp at h;subst h;exact hfx⟩;have c1:=hl1.cell;have f1:=hl1.frozen;have l1:=hl1.lt;obtain⟨ii,hii,hz,hsz1,hby⟩:=DN;have HI:=AFf;have HE:=sq (AMc el ep);have HO1:=sq (ho1.alloc (Yk #[Yg V (x:Nat)] 22));have HOR:=sq ho1;have HL1:=sq hl1;have HSZ:Shut (W.heap.size+1≤Wr.heap.size):=⟨hJ.sz⟩;have HS1:=sq hs1;have XN:=sq (APw Wr #[Yg V (x:Nat)] 22);have HPL:=sq hpl;clear hJ hl1 ho1 hI0 hmap hOw hii hz hsz1 hby hpl el ep hnd hin hni hfx hx64 hks hl hs1;generalize hpn:pre.length=pn at*;gi_wp2_with (refine wpListIn_append_own _ rfl (.tmp 8) (.tmp 10) 24 rfl (W.heap.size+1) 22 ii _ 1 8 Tryz.underlying24 HI.o.1 HI.o.2.1 HI.o.2.2.1 HI.o.2.2.2 rfl ND _ pn _ rfl HO1.o ⟨Wr.heap.size,0,Y⟩ 1 1 [Yg V (x:Nat)] rfl rfl (fun j u hj=>(by rw[Da,ANC];exact XN.o.cell j TC)) (fun u hu=>SK) (by have:=HPL.o;unfold maxLen;omega) (by have:=HPL.o;omega) AC3 ?_);intro v2 w2 ho2 hg2 _;obtain⟨p2,m2,cc2,rfl⟩:=BH ho2;obtain⟨q1,q2,q3,q4,q5⟩:=Boxed.appended (n₀:=W.heap.size) HL1.o ND (Ad HOR.o (ANr _)) (by have:=HSZ.o;omega) (AMi _) (Ad ho2 (ANr _)) hg2;have hbb:But v.ownBlock.toList (Wr.alloc (Yk #[Yg V (x:Nat)] 22)) w2:=AP1 hg2 (Cw HO1.o ND);have hb3:But [] W (w2.setCell W.heap.size (.slice p2 m2 cc2)):=((HJ.o.but.alloc _).trans' hbb (fun m hm=>ADo)).setCell (Or.inr (AMi _)) _;have nb:∀m cs t,AJ Wr m cs t→t≠22→m∉v.ownBlock.toList:=fun m cs t hb ht hm=>ht ((AL HOR.o _ hm).2 _ _ hb);have hx2:Boxed w2 bx 167 (.map (Z mb)):=APx (Boxed.alloc HJ.o.bx _) hbb (nb _ _ _ HJ.o.bx ND);have hmw:Wr.heap[mb]?=Z mo:=HJ.o.mb;have hm2:w2.heap[mb]?=Z mo:=(hbb.block mb AC3 (fun hm=>ADo)).trans ((AOW _ _ _ (by have:=HSZ.o;omega)).trans hmw);have hbS:But [W.heap.size] w2 (w2.setCell W.heap.size (.slice p2 m2 cc2)):=(APu _ _).setCell (Or.inl NC) _;have ho3:=AA ho2 hbS (fun m hm e=>by have:=(AL ho2 m UH).1;have:=AMh.1 hm;omega);have hxl2:bx<W.heap.size:=hxl;have HF:Shut (KeepsFrom w1.heap.size Wr (w2.setCell W.heap.size (.slice p2 m2 cc2))∧yH W.heap.size W bx mb mo (pre++[x]) (w2.setCell W.heap.size (.slice p2 m2 cc2))):=⟨q4.from _,⟨_,q2,by rw[HE.o.2,HE.o.1];exact ho3⟩,hx2.other KA _,(AOf _ _ _ _ (fun e=>by have e:mb=W.heap.size:=e;omega)).trans hm2,hb3,by have h1:=hbb.size;have h2:=HSZ.o;rw[AMk] at h1;simp only[World.setCell,Array.size_modify];omega⟩;have c2:=q1.cell;have f2:=q1.frozen;have l2:=q1.lt;clear q1 q2 q3 q4 q5 hbb hb3 nb hx2 hmw hm2 hbS ho3 ho2 hg2 XN HO1 HOR HL1 HJ c1 f1 l1;gi_wp2_with fail;exact⟨HF.o.1,HF.o.2,HND.o⟩);(case iter=>intro l R Rx hl2 hR hRx hlt hY W1 hIW hRW;refine (mF bx mb n w1.heap.size f mo (fun pre W'=>yH W.heap.size W bx mb mo pre W'∧pre.Nodup∧∀k∈pre,(f k).isSome=Yy) hOw KA (fun pre W' h=>⟨h.1.bx,h.1.mb⟩) hmap l R Rx KA hR hlt (fun pre x W2 h hr=>hY pre x W2 h hr) W1 hIW hRW).mono ?_;rintro e W2 ⟨hv,pre,hJ,hr,hnd,hin⟩;exact⟨hv,.inl ⟨pre,⟨hnd,hin⟩,hJ,hr⟩⟩);(case stop=>exact AGv);case done=>rintro xs W1 hxs hJ hK;obtain⟨v,hl1,ho1⟩:=hJ.1.l;have c1:=hl1.cell;have l1:=hl1.lt;obtain⟨hg,hr2⟩:=AGD;have hJ2:=hJ.1.own hg hml (fun r e=>⟨Za,hr2 r e⟩);have ho2:=AJV;have hbl:=hJ2.but;gi_wp2;refine⟨NC,.inl ⟨_,_,rfl,run_takeDeferred hK,?_⟩⟩;generalize (World.putObj W1 w1.heap.size (.deferred Y))=W6 at*;exact⟨v,by simp[results,Tryz.results338,go_sem],v,xs,rfl,hbl,Ad ho2 KA,hxs.1,hxs.2⟩
theorem sO (x:Nat) (W:J):Yv Yw 257 #[Yg V x] W fun e w'=>e=Yi (Yl Yz)∧w'=W:=by go_in;go_wp2_with fail;go_ret;exact⟨NC,rfl⟩
theorem lm (x y:Nat) (W:J):Yv Yw 346 #[Yg V x,Yg V y] W fun e w'=>e=Yi (Yl (decide (x<y)))∧w'=W:=by have HN:=sq (sO x W);go_in;go_wp2_with fail;refine HN.o.mono ?_;rintro e w1 ⟨rfl,hw1⟩;rw[hw1];clear hw1;go_wp2_with fail;go_ret;exact⟨NC,rfl⟩
theorem xK (v:Yu) (n:Nat) (hn:n≤1) (W:J):Yv Yw 340 #[v,Yg Yj 0,Yg Yj n] W fun e w'=>(∃u,e=Yi u)∧w'=W:=by go_in;go_wp2_with fail;refine AN9 1 ?_;rw[rounds_succ];have h:¬((1:Int)<(n:Int)):=KA;exact ALD
def pV (a b:Nat) (cur:Array Yu):Array Yu:=if b<a then (cur.setIfInBounds 1 (Yg V a)).setIfInBounds 0 (Yg V b) else cur
theorem ABi (g c a b:Nat) (cur:Array Yu) (W:J) (hc:2≤c) (hg:W.heap[g]?=Z (.cells cur 22 (0,0))) (h0:cur[0]?=Z (Yg V a)) (h1:cur[1]?=Z (Yg V b)):
  Yv Yw 340 #[Yh g 2 c,Yg Yj 0,Yg Yj 2] W fun e w'=>(∃u,e=Yi u)∧
   But [g] W w'∧w'.heap[g]?=Z (Yk (pV a b cur) 22 (0,0)):=by have HX:Shut (∀n,(W.drewN n).cell? g=Z (Yg V a)∧(W.drewN n).cell? ⟨g,1,Y⟩=Z (Yg V b)∧(W.drewN n).frozen? ⟨g,0,Y⟩=Yz∧(W.drewN n).frozen? ⟨g,1,Y⟩=Yz∧g<(W.drewN n).heap.size):=⟨fun n=>by have hB:AJ (W.drewN n) g cur 22:=hg;exact⟨hB.cell 0 h0,hB.cell 1 h1,hB.frozen 0,hB.frozen 1,hB.lt⟩⟩;have HG:Shut (∀n,AJ (W.drewN n) g cur 22):=⟨fun n=>hg⟩;have HA:=sq (AMc h0 h1);clear hg h0 h1;obtain⟨ca,cb,fa,fb,lg⟩:=HX.o 0;change W.cell? g=_ at ca;change W.cell? ⟨g,1,Y⟩=_ at cb;change W.frozen? ⟨g,0,Y⟩=_ at fa;change W.frozen? ⟨g,1,Y⟩=_ at fb;change g<W.heap.size at lg;go_in;go_wp2_with fail;refine AN9 2 ?_;rw[rounds_succ];go_wp2_with fail;refine AN9 2 ?_;rw[rounds_succ];go_wp2_with fail;have HC:Shut (∀W1,But [] W.drew W1→W1.cell? g=Z (Yg V a)∧W1.cell? ⟨g,1,Y⟩=Z (Yg V b)):=⟨fun W1 h=>⟨Ku (W:=W.drew) ca h NC,Ku (W:=W.drew) cb h NC⟩⟩;refine Bh NA [] [] [] ?_;refine Ay 0 ?_;refine Ay 1 ?_;refine Ay 2 ?_;refine Ay 3 ?_;refine Ay 4 ?_;refine Ay 5 ?_;refine Ay 6 ?_;refine Ay 7 (h:=Y8) ?_;refine Ay 8 ?_;refine Ay 9 ?_;refine Ay 10 (h:=by intro W1 hl;have w0:IntKind.i64.wrap 0=0:=ND;go_simp<;>with_reducible rfl) ?_;refine Ay 11 (h:=by intro W1 hl;have w0:IntKind.i64.wrap 0=0:=ND;go_simp<;>with_reducible rfl) ?_;refine Ay 12 (h:=Y8) ?_;refine Qj 13 (fun W1 hl=>(lm b a W1).mono fun e w' h=>⟨h.1,by rw[h.2];exact APu _ _⟩) ?_;refine Ay 14 ?_;refine Dz NA (fun w6 hl6=>?_) _;refine tz ?_;have HB6:Shut (But [] W w6):=⟨(APu [] W).drew.trans hl6⟩;clear hl6 HC ca cb fa fb lg;by_cases hab:b<a;(·have hd:decide (b<a)=true:=ANV hab;have HAB:=sq hab;clear hab;rw[hd];clear hd;have hb6:AJ w6 g cur 22:=APx (HG.o 0) HB6.o NC;have HG6:=sq hb6;have HC:Shut (∀W1,But [g] w6.drew W1→W1.heap[g]?=w6.heap[g]?→W1.cell? g=Z (Yg V a)∧W1.cell? ⟨g,1,Y⟩=Z (Yg V b)):=⟨fun W1 h e=>by have hb:AJ W1 g cur 22:=e.trans HG6.o;exact⟨hb.cell 0 HA.o.1,hb.cell 1 HA.o.2⟩⟩;have w0:IntKind.i64.wrap 0=0:=ND;obtain⟨ca,cb⟩:=HC.o w6.drew ((APu _ _)) rfl;change w6.cell? _=_ at ca;change w6.cell? _=_ at cb;have fa:=HG6.o.frozen 0;have fb:=HG6.o.frozen 1;have lg:=HG6.o.lt;go_wp2_with fail;go_region;go_wp2_with fail;rw[rounds_succ];go_wp2_with fail;refine Bh NA [] [] [] ?_;refine Ay 0 ?_;refine Ay 1 ?_;refine Ay 2 ?_;refine Ay 3 ?_;refine Sa 4 ?_;refine Sa 5 ?_;refine Sa 6 ?_;refine Sa 7 ?_;refine Sa 8 ?_;refine Sa 9 ?_;refine Sa 10 ?_;refine Sa 11 ?_;refine Sa 12 ?_;refine Sa 13 ?_;refine Ay 14 ?_;refine Dz NA (fun w7 hl7=>?_) _;refine tz ?_;have HB7:=sq hl7;clear hl7;go_wp2_with fail;rw[rounds_succ];go_wp2_with fail;go_end0;have HZ:=HB7.o;have e1:AJ (w6.setCell ⟨g,1,Y⟩ (Yg V a)) g (cur.setIfInBounds 1 (Yg V a)) 22:=HG6.o.set 1 _;have e2:=e1.set 0 (Yg V b);have hb:But [g] W _:=((HB6.o.nil.setCell (p:=⟨g,1,Y⟩) (Or.inl NC) (Yg V a)).setCell (p:=g) (Or.inl NC) (Yg V b)).drew.drew;refine⟨⟨_,rfl⟩,hb.trans HZ.nil,?_⟩;rw[pV,AMx HAB.o];exact (HZ.block g e2.lt NC).trans e2);have hd:decide (b<a)=false:=ANT hab;have HAB:=sq hab;clear hab;rw[hd];clear hd;go_wp2_with fail;rw[rounds_succ];go_wp2_with fail;go_end0;refine⟨⟨_,rfl⟩,HB6.o.nil,?_⟩;rw[pV,AMu HAB.o];exact APx (HG.o 0) HB6.o NC
theorem wK (v:Yu) (n:Nat) (lim:Yu) (hn:n≤12) (W:J) (R:J→Prop) (h:Yv Yw 340 #[v,Yg Yj 0,Yg Yj n] W fun e w'=>(∃u,e=Yi u)∧R w'):
  Yv Yw 339 #[v,Yg Yj 0,Yg Yj n,lim] W fun e w'=>(∃u,e=Yi u)∧R w':=by have H:=sq h;have hn':(n:Int)≤12:=KA;clear h hn;go_in;go_wp2_with fail;refine AN9 1 ?_;rw[rounds_succ];go_wp2_with fail;refine H.o.mono ?_;rintro e w1 ⟨⟨u,rfl⟩,hr⟩;go_wp2_with fail;refine AMo (APn rfl _ _ _) rfl ?_;exact⟨⟨_,rfl⟩,hr⟩
theorem Wx (p:Option Addr) (n c:Nat) (hn:n≤12) (W:J) (R:J→Prop) (h:Yv Yw 340 #[.slice p n c,Yg Yj 0,Yg Yj n] W fun e w'=>(∃u,e=Yi u)∧R w'):
  Yv Yw 325 #[.slice p n c] W fun e w'=>(∃u,e=Yi u)∧R w':=by have H:=sq (fun lim=>wK (.slice p n c) n lim hn W R h);have HL:=sq (Tryz.bits_Len (n:Int) W KA KA);have hw:((n:Int))%18446744073709551616=(n:Int):=KA;have hw2:IntKind.u64.wrap (n:Int)=(n:Int):=hw;clear h hn hw;go_in;go_wp2_with fail;refine HL.o.mono ?_;rintro e w1 ⟨rfl,hw1⟩;rw[hw1];clear hw1;go_wp2_with fail;refine (H.o _).mono ?_;rintro e w1 ⟨⟨u,rfl⟩,hr⟩;go_wp2_with fail;go_end0;exact⟨⟨_,rfl⟩,hr⟩
theorem WB (bx mb n:Nat) (f:Nat→Option Yu) (ks:List Nat) (W:J) (hx:Boxed W bx 167 (.map (Z mb))) (hm:MapU W mb n f) (hks:∀k,(f k).isSome→k∈ks) (hl:ks.length≤1000):
  Yv Yw 324 #[G (M 326) #[] #[U bx]] W fun e w'=>
   ∃v pre,e=Yi v∧But [] W w'∧w'.ownsRow W.heap.size 22 1 v pre.length (iU pre)∧pre.Nodup∧∀k,k∈pre↔(f k).isSome:=by have H:=sq (SC bx mb n f ks W hx hm hks hl);clear hx hm hks hl;go_in;go_wp2_with fail;refine H.o.mono ?_;rintro e w1 ⟨v,pre,rfl,h1⟩;have H1:=sq h1;clear h1;go_wp2_with fail;go_ret;exact⟨v,pre,rfl,H1.o⟩
theorem zR {W:J} {base n:Nat} {v:Yu} {l:List Nat} (h:W.ownsRow base 22 1 v n (iU l)) (hn:0<n):∃g cap cur,v=Yh (g:Nat) n cap∧base≤g∧n≤cap∧cap≤maxLen∧cur.size=cap∧W.heap[g]?=Z (.cells cur 22 (0,0))∧cur.toList.take n=iU l:=by rcases h.2 with⟨rfl,h0⟩|⟨g,cap,cur,rfl,hb,hh,hc,hm,hs,ht⟩;(omega);exact⟨g,cap,cur,rfl,hb,hc,hm,KA,hh,by rw[AN0] at ht;exact ht⟩
def Lm (f:Nat→Option Yu) (ks:List Nat):Prop:=ks.length≤2∧ks.Pairwise (·<·)∧∀k,(f k).isSome↔k∈ks
theorem yq {pre:List Nat} {a b:Nat} (hab:a<b) (hnd:pre.Nodup) (h:∀k,k∈pre↔k∈[a,b]):pre=[a,b]∨pre=[b,a]:=by have hlen:pre.length≤2:=La pre [a,b] hnd fun k hk=>(h k).1 hk;have ha:=(h a).2 NC;have hb:=(h b).2 NC;match pre,hlen with|[],_=>simp at ha|[x],_=>simp at ha hb;omega|[x,y],_=>simp at ha hb;rcases ha with rfl|rfl;(rcases hb with rfl|rfl;(omega);exact .inl rfl);rcases hb with rfl|rfl;(exact .inr rfl);omega
theorem pY (l out:List Nat) (base:Nat) (v:Yu) (W:J) (ho:W.ownsRow base 22 1 v l.length (iU l)) (hc:(l.length≤1∧out=l)∨∃a b,a<b∧out=[a,b]∧(l=[a,b]∨l=[b,a])):
  Yv Yw 325 #[v] W fun e w'=>(∃u,e=Yi u)∧But v.ownBlock.toList W w'∧w'.ownsRow base 22 1 v out.length (iU out):=by rcases hc with⟨h1,rfl⟩|⟨a,b,hab,rfl,hl⟩;((obtain⟨p,c,rfl⟩:∃p c,v=.slice p out.length c:=by rcases ho.2 with⟨rfl,h0⟩|⟨g,cap,cur,rfl,_⟩;(exact⟨Y,0,by rw[h0]⟩);exact⟨_,_,rfl⟩);refine (Wx p out.length c KA W (fun w'=>w'=W) (xK _ _ h1 W)).mono ?_;rintro e w' ⟨hu,rfl⟩;exact⟨hu,APu _ _,ho⟩);(have hl2:l.length=2:=by rcases hl with rfl|rfl<;>rfl);rw[hl2] at ho;obtain⟨g,cap,cur,rfl,hb,hcap,hml,hsz,hh,ht⟩:=zR ho KA;(obtain⟨x,y,hxy,rfl⟩:∃x y,(if y<x then[y,x] else[x,y])=[a,b]∧l=[x,y]:=by rcases hl with rfl|rfl;(exact⟨a,b,by rw[AMu KA],rfl⟩);exact⟨b,a,by rw[AMx hab],rfl⟩);(have e0:cur[0]?=Z (Yg V (x:Nat)):=by have e:=ANb (fun l=>l[0]?) ht;simp only[ANL (show 0<2 by omega)] at e;rw[←AN4,e];rfl);(have e1:cur[1]?=Z (Yg V (y:Nat)):=by have e:=ANb (fun l=>l[1]?) ht;simp only[ANL (show 1<2 by omega)] at e;rw[←AN4,e];rfl);refine (Wx (Z ⟨g,0,Y⟩) 2 cap KA W _ (ABi g cap x y cur W hcap hh e0 e1)).mono ?_;rintro e w' ⟨hu,hb',hh'⟩;refine⟨hu,hb',by simp[iU],.inr ⟨g,cap,_,rfl,hb,hh',hcap,hml,?_,?_⟩⟩;(unfold pV;split<;>simp[hsz]);(have h1:cur.toList=Yg V (x:Nat):: Yg V (y:Nat)::cur.toList.drop 2:=by(conv=>lhs;rw[←AN3 2 cur.toList,ht]);rfl);unfold pV;by_cases hyx:y<x;(rw[AMx hyx] at hxy⊢;rw[←hxy];simp only[APM,AMl,AMr,ANC,AN0];rw[h1];rfl);rw[AMu hyx] at hxy⊢;rw[←hxy];simp only[AMl,AMr,ANC,AN0];rw[h1];rfl
theorem Ww (bx mb n:Nat) (f:Nat→Option Yu) (ks:List Nat) (W:J) (hx:Boxed W bx 167 (.map (Z mb))) (hm:MapU W mb n f) (hs:Lm f ks):
  Yv Yw 277 #[G (M 326) #[] #[U bx]] W fun e w'=>
   ∃v,e=Yi v∧But [] W w'∧w'.ownsRow W.heap.size 22 1 v ks.length (iU ks):=by have H:=sq (WB bx mb n f ks W hx hm (fun k h=>(hs.2.2 k).1 h) (by have:=hs.1;omega));have HS:=sq hs;clear hx hm hs;go_in;go_wp2_with fail;refine H.o.mono ?_;rintro e w1 ⟨v,pre,rfl,hb,ho,hnd,hin⟩;(have hc:(pre.length≤1∧ks=pre)∨∃a b,a<b∧ks=[a,b]∧(pre=[a,b]∨pre=[b,a]):=by obtain⟨h1,h2,h3⟩:=HS.o;have hmem:∀k,k∈pre↔k∈ks:=fun k=>(hin k).trans (h3 k);have hle:pre.length≤ks.length:=La pre ks hnd fun k hk=>(hmem k).1 hk;match ks,h1,h2 with|[],_,_=>(refine .inl ⟨by simpa using Nat.le_succ_of_le hle,?_⟩;cases pre with|nil=>rfl|cons x l=>simp at hle)|[a],_,_=>(refine .inl ⟨by simpa using hle,?_⟩;match pre,hle with|[],_=>have:=(hmem a).2 NC;simp at this|[x],_=>have:=(hmem x).1 NC;simp at this;rw[this])|[a,b],_,h2=>have hab:a<b:=ADa;exact .inr ⟨a,b,hab,rfl,yq hab hnd hmem⟩);have HR:=sq (pY pre ks W.heap.size v w1 ho hc);have HB:=sq hb;have HO:Shut (∀k∈v.ownBlock.toList,W.heap.size≤k):=⟨fun k hk=>(AL ho k hk).1⟩;clear hb ho hnd hin hc;go_wp2_with fail;refine HR.o.mono ?_;rintro e w2 ⟨⟨u,rfl⟩,hb2,ho2⟩;have H2:=sq (AMc (HB.o.trans' hb2 HO.o) ho2);clear hb2 ho2;go_wp2_with fail;go_ret;exact⟨v,rfl,H2.o⟩
end Go.Proofs.YtiapejgiinidhaaGreatDoor
