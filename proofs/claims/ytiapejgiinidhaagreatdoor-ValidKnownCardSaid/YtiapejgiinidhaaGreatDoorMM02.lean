import Derived.Test.YtiapejgiinidhaaGreatDoorMM01
import Derived.StillTailTactics
set_option linter.all false
set_option maxRecDepth 100000
set_option maxHeartbeats 40000000
namespace Go.Proofs.YtiapejgiinidhaaGreatDoor
open Value renaming int→Yg,pointer→U,slice→Yh,bool→Yl,tuple→Ym,iface→Yo,agg→Yr
open IntKind renaming u64→V,i64→Yj,u8→Yq,u32→Yt
open Obj renaming cells→Yk
open Ending renaming returned→Yi
open Go renaming World→J,Value→Yu,Calls→Yv,undef→Yx
open Go.Proofs.Tryz renaming prog→Yw
open Option renaming some→Z,none→Y
open Bool renaming true→Yy,false→Yz
open Go Go.RowKit
section
variable {P:Program} {ops:Array Oper} {Q:Exit→Act→J→Prop} {md:Region.Mode} {B:List Nat}
def Later (w w':J):Prop:=Below w.heap.size w w'
theorem Later.refl (w:J):Later w w:=ANF _ _
def AP0:=@Later.refl
theorem Later.trans {a b c:J} (h:Later a b) (h':Later b c):Later a c:=Below.trans h (h'.mono h.size)
def Gives (P:Program) (v:Yu) (w:J):Result Next→Prop
 |.ok (.value u) w'=>u=v∧Later w w'
 |.ok (.enter f args) w'=>Yv P f args w' fun e w''=>e=Yi v∧Later w w''
 |_=>False
def FQ (P:Program) (ops:Array Oper) (o:Oper) (v:Yu) (a:Act) (w:J):Prop:=
 (Region.wanted o (yielded ops a.tmps)=Yy∧∀w1,Later w w1→Gives P v w1 ((execOp a.eval o).run P w1))∨
 (Region.wanted o (yielded ops a.tmps)=Yz∧v=Yx)
theorem FQ.later {o:Oper} {v:Yu} {a:Act} {w w':J} (h:FQ P ops o v a w) (hl:Later w w'):FQ P ops o v a w':=
 h.imp (fun ⟨h1,h2⟩=>⟨h1,fun w1 h'=>h2 w1 (hl.trans h')⟩) id
theorem FQ.of_same {o:Oper} {v:Yu} {a a':Act} {w:J} (hy:FQ P ops o v a w) (he:execOp a'.eval o=execOp a.eval o)
  (hw:Region.wanted o (yielded ops a'.tmps)=Region.wanted o (yielded ops a.tmps)):FQ P ops o v a' w:=by unfold FQ at*;rw[he,hw];exact hy
theorem FQ.wpOp {i:Nat} {o:Oper} {v:Yu} {a:Act} {w:J} (hi:ops[i]?=Z o) (hy:FQ P ops o v a w)
  {K:Act→J→Prop} (h:∀w',Later w w'→K (a.put o.dst v) w'):wpOp P ops Q i K a w:=by unfold Go.wpOp;simp only[hi];rcases hy with⟨hw,hv⟩|⟨hw,rfl⟩;(·simp only[hw,if_true,Oper.wp];have hg:=hv w (AP0 w);generalize (execOp a.eval o).run P w=r at*;refine .inl ?_;cases r with|ok n w'=>(cases n<;>simp only[Oper.upon,Gives] at hg⊢;(case value u=>obtain⟨rfl,hl⟩:=hg;exact h _ hl);case enter f args=>exact AJv)|halt x w'=>exact hg.elim);simp only[hw,ANh,if_false];exact h _ (AP0 w)
theorem OL {j:Nat} {oi oj:Oper} {v:Yu} (hj:ops[j]?=Z oj) (hap:oi.apart ops oj=Yy)
  (hsi:∀cs b,oi.op≠ .select cs b) (hsj:∀cs b,oj.op≠ .select cs b)
  (hQ:∀c a w,Q (.panic c) (a.put oi.dst v) w→Q (.panic c) a w) {K:Act→J→Prop} {a:Act} {w w0:J}
  (hy:FQ P ops oi v a w0) (h:wpOp P ops Q j K (a.put oi.dst v) w):
  wpOp P ops Q j (fun a' w'=>FQ P ops oi v a' w0∧K (a'.put oi.dst v) w') a w:=by
 obtain⟨h1,h2,h3⟩:=APb hap
 have keep:∀(a:Act),FQ P ops oi v a w0→∀u,FQ P ops oi v (a.put oj.dst u) w0:=fun a hy u=>
  hy.of_same (APJ oi hsi a oj.dst u h3) (APW oi a oj.dst u h3)
 have keepD:∀d,FQ P ops oi v {a with defers:=d::a.defers} w0:=fun d=>hy.of_same rfl rfl;exact AEb
def Bf (P:Program) (md:Region.Mode) (ops:Array Oper) (Q:Exit→Act→J→Prop) (B:List Nat):Nat→Array Bool→Act→J→Prop
 |0,listed,a,w=>Region.ready md ops listed=[]∧∀w',Later w w'→Q .normal a w'
 |fuel+1,listed,a,w=>(Region.ready md ops listed=[]→∀w',Later w w'→Q .normal a w')∧
  ∀i∈Region.ready md ops listed,∀w1,Later w w1→wpOp P ops Q i (fun a' w'=>(i∉B→Later w1 w')∧Bf P md ops Q B fuel (listed.setIfInBounds i Yy) a' w') a w1
theorem Qb:∀(fuel:Nat) (listed:Array Bool) (a:Act) (w:J),Bf P md ops Q B fuel listed a w→wpAny P md ops Q fuel listed a w
 |0,_,_,w,h=>⟨h.1,h.2 w (AP0 w)⟩
 |fuel+1,_,_,w,h=>⟨fun e=>h.1 e w (AP0 w),fun i hi=>APH (fun a' w' h'=>Qb fuel _ a' w' h'.2) (h.2 i hi w (AP0 w))⟩
theorem Bf.later:∀{fuel:Nat} {listed:Array Bool} {a:Act} {w w':J},Bf P md ops Q B fuel listed a w→Later w w'→Bf P md ops Q B fuel listed a w'
 |0,_,_,_,_,h,hl=>⟨h.1,fun w1 h1=>h.2 w1 (hl.trans h1)⟩
 |fuel+1,_,_,_,_,h,hl=>⟨fun e w1 h1=>h.1 e w1 (hl.trans h1),fun i hi w1 h1=>h.2 i hi w1 (hl.trans h1)⟩
theorem Ur {i:Nat} {oi:Oper} {v:Yu} (hi:ops[i]?=Z oi) (hsel:∀(j:Nat) (o:Oper) cs b,ops[j]?=Z o→o.op≠ .select cs b)
  (hQ:∀c a w,Q (.panic c) (a.put oi.dst v) w→Q (.panic c) a w) (hW:waits md ops B i=Yy):
  ∀(fuel:Nat) (listed:Array Bool) (a:Act) (w:J),
   (∀j oj,ops[j]?=Z oj→j≠i→listed.getD j Yy=Yz→(∀e∈oj.after,Region.binds md e=Yy→e.on≠i)→oi.apart ops oj=Yy)→
   i∈Region.ready md ops listed→FQ P ops oi v a w→
   Bf P md ops Q B fuel (listed.setIfInBounds i Yy) (a.put oi.dst v) w→Bf P md ops Q B (fuel+1) listed a w:=by intro fuel;induction fuel with|zero=>exact AFA|succ fuel ih=>intro listed a w hfree hr hy H;refine⟨fun h=>UF,fun j hj w1 hl=>?_⟩;by_cases hji:j=i;(exact AG0);have h1:=AHl;obtain⟨hjun,oj,hoj,hall⟩:=AOn.1 hj;obtain⟨hun,hnot⟩:=AES;have h2:=AFz;refine APH (fun a' w' h3=>?_) h2;have hjB:=AJE;have hlt:=h3.2.1 hjB;refine⟨fun _=>hlt,ih (listed.setIfInBounds j Yy) a' w' (fun k ok hk hki hku hno=>?_) (AOr hr (AOP hji)) (h3.1.later hlt) ?_⟩;(exact AE0);exact AGR
theorem FI {i:Nat} {oi:Oper} {v:Yu} {fuel:Nat} {listed:Array Bool} {a:Act} {w:J} (hi:ops[i]?=Z oi)
  (hs:Region.noSelect ops=Yy) (hf:Region.free md ops listed i=Yy) (hr:(Region.ready md ops listed).contains i=Yy)
  (hQ:∀c a w,Q (.panic c) (a.put oi.dst v) w→Q (.panic c) a w) (hW:waits md ops B i=Yy) (hy:FQ P ops oi v a w)
  (h:Bf P md ops Q B fuel (listed.setIfInBounds i Yy) (a.put oi.dst v) w):Bf P md ops Q B (fuel+1) listed a w:=
 Ur hi (AN8 hs) hQ hW fuel listed a w (AOY hi hf) AAc hy h
theorem Fv {o:Oper} {v:Yu} {a:Act} {w:J} (hw:Region.wanted o (yielded ops a.tmps)=Yy)
  (h:∀w1,Later w w1→(execOp a.eval o).run P w1=.ok (.value v) w1):FQ P ops o v a w:=
 .inl ⟨hw,fun w1 hl=>by rw[h w1 hl];exact⟨rfl,AP0 _⟩⟩
theorem AY (i:Nat) {oi:Oper} {v:Yu} {fuel:Nat} {listed:Array Bool} {a a2:Act} {w:J} (hn:Bf P md ops Q B fuel (listed.setIfInBounds i Yy) a2 w) (hi:ops[i]?=Z oi:=by rfl)
  (hs:Region.noSelect ops=true:=by kernel_rfl) (hf:Region.free md ops listed i=true:=by kernel_rfl) (hr:(Region.ready md ops listed).contains i=true:=by kernel_rfl)
  (hQ:∀c a w,Q (.panic c) (a.put oi.dst v) w→Q (.panic c) a w:=by exact fun _ _ _ h=>h) (hW:waits md ops B i=true:=by kernel_rfl)
  (hw:Region.wanted oi (yielded ops a.tmps)=true:=by rfl)
  (h:∀w1,Later w w1→(execOp a.eval oi).run P w1=.ok (.value v) w1:=by intro W1 hl;go_simp<;>with_reducible rfl)
  (h3:a.put oi.dst v=a2:=by simp only[gA9,gB9,gC9,Act.put,gD9,gE9,gF9]<;>rfl):
  Bf P md ops Q B (fuel+1) listed a w:=by subst h3;exact FI hi hs hf hr hQ hW (Fv hw h) hn
theorem Ud {o:Oper} {v:Yu} {a:Act} {w:J} {f:FuncId} {args:Array Yu} (hw:Region.wanted o (yielded ops a.tmps)=Yy)
  (hc:∀w1,Later w w1→Yv P f args w1 fun e w'=>e=Yi v∧Later w1 w')
  (h:∀w1,Later w w1→(execOp a.eval o).run P w1=.ok (.enter f args) w1):FQ P ops o v a w:=
 .inl ⟨hw,fun w1 hl=>AD6⟩
theorem Eb (i:Nat) {oi:Oper} {v:Yu} {fuel:Nat} {listed:Array Bool} {a a2:Act} {w:J} {f:FuncId} {args:Array Yu} (hc:∀w1,Later w w1→Yv P f args w1 fun e w'=>e=Yi v∧Later w1 w') (hn:Bf P md ops Q B fuel (listed.setIfInBounds i Yy) a2 w) (hi:ops[i]?=Z oi:=by rfl)
  (hs:Region.noSelect ops=true:=by kernel_rfl) (hf:Region.free md ops listed i=true:=by kernel_rfl) (hr:(Region.ready md ops listed).contains i=true:=by kernel_rfl)
  (hQ:∀c a w,Q (.panic c) (a.put oi.dst v) w→Q (.panic c) a w:=by exact fun _ _ _ h=>h) (hW:waits md ops B i=true:=by kernel_rfl)
  (hw:Region.wanted oi (yielded ops a.tmps)=true:=by rfl) (h:∀w1,Later w w1→(execOp a.eval oi).run P w1=.ok (.enter f args) w1:=by intro W1 hl;go_simp<;>with_reducible rfl)
  (h3:a.put oi.dst v=a2:=by simp only[gA9,gB9,gC9,Act.put,gD9,gE9,gF9]<;>rfl):Bf P md ops Q B (fuel+1) listed a w:=by subst h3;exact FI hi hs hf hr hQ hW (Ud hw hc h) hn
theorem KQ {i:Nat} {o:Oper} {fuel:Nat} {listed:Array Bool} {a:Act} {w:J} {f:FuncId} {args:Array Yu} {R:J→Yu→J→Prop} (hi:ops[i]?=Z o)
  (hr:Region.ready md ops listed=[i]) (hw:Region.wanted o (yielded ops a.tmps)=Yy)
  (hc:∀w1,Later w w1→Yv P f args w1 fun e w'=>∃v,e=Yi v∧Later w1 w'∧R w1 v w')
  (h:∀w1,Later w w1→(execOp a.eval o).run P w1=.ok (.enter f args) w1)
  (hk:∀w1 v w',Later w w1→Later w1 w'→R w1 v w'→Bf P md ops Q B fuel (listed.setIfInBounds i Yy) (a.put o.dst v) w'):Bf P md ops Q B (fuel+1) listed a w:=by refine⟨fun e=>Zv,fun j hj w1 hl=>?_⟩;rw[hr] at hj;obtain rfl:j=i:=TC;unfold Go.wpOp;simp only[hi,hw,if_true,Oper.wp,h w1 hl,Oper.upon];refine .inl (AOR (hc w1 hl) fun e w' he=>?_);obtain⟨v,rfl,h1,h2⟩:=he;exact⟨fun _=>h1,hk w1 v w' hl h1 h2⟩
theorem DF {i:Nat} {fuel:Nat} {listed:Array Bool} {a:Act} {w:J} (hr:Region.ready md ops listed=[i])
  (hk:∀w1,Later w w1→wpOp P ops Q i (fun a' w'=>(i∉B→Later w1 w')∧Bf P md ops Q B fuel (listed.setIfInBounds i Yy) a' w') a w1):Bf P md ops Q B (fuel+1) listed a w:=AJG
theorem Us {i:Nat} {o:Oper} {fuel:Nat} {listed:Array Bool} {a:Act} {w:J} {ob:Obj} (hi:ops[i]?=Z o)
  (hr:Region.ready md ops listed=[i]) (hw:Region.wanted o (yielded ops a.tmps)=Yy)
  (h:∀w1,Later w w1→(execOp a.eval o).run P w1=.ok (.value (U w1.heap.size)) (w1.alloc ob))
  (hk:∀w1,Later w w1→Bf P md ops Q B fuel (listed.setIfInBounds i Yy) (a.put o.dst (U w1.heap.size)) (w1.alloc ob)):Bf P md ops Q B (fuel+1) listed a w:=AGw
theorem DJ {i:Nat} {o:Oper} {fuel:Nat} {listed:Array Bool} {a:Act} {w:J} {f:J→J} (hi:ops[i]?=Z o)
  (hr:Region.ready md ops listed=[i]) (hr2:Region.ready md ops (listed.setIfInBounds i Yy)=[]) (hB:B.contains i=Yy) (hw:Region.wanted o (yielded ops a.tmps)=Yy)
  (h:∀w1,Later w w1→(execOp a.eval o).run P w1=.ok .skip (f w1))
  (hk:∀w1 w2,Later w w1→Later (f w1) w2→Q .normal (a.put o.dst Yx) w2):Bf P md ops Q B (fuel+1) listed a w:=by refine DF hr fun w1 hl=>?_;exact AF1
theorem Uq {i k:Nat} {oi ok:Oper} {fuel:Nat} {listed:Array Bool} {a:Act} {w:J} {f:FuncId} {args:Array Yu} {ob:Obj} {S:List PanicEntry→J→Prop} (hi:ops[i]?=Z oi) (hk:ops[k]?=Z ok)
  (hr:Region.ready md ops listed=[i,k]) (hr2:Region.ready md ops (listed.setIfInBounds k Yy)=[i])
  (hwi:Region.wanted oi (yielded ops a.tmps)=Yy) (hwk:Region.wanted ok (yielded ops a.tmps)=Yy)
  (hwi2:∀p,Region.wanted oi (yielded ops (a.put ok.dst p).tmps)=Yy)
  (hci:∀w1,Later w w1→(execOp a.eval oi).run P w1=.ok (.enter f args) w1)
  (hci2:∀p w1,Later w w1→(execOp (a.put ok.dst p).eval oi).run P w1=.ok (.enter f args) w1)
  (hck:∀w1,Later w w1→(execOp a.eval ok).run P w1=.ok (.value (U w1.heap.size)) (w1.alloc ob))
  (hc:∀w1,Later w w1→Yv P f args w1 fun e w'=>∃c,e=.panicked c∧S c w')
  (hQ1:∀c w',S c w'→Q (.panic c) a w') (hQ2:∀c w' p,S c w'→Q (.panic c) (a.put ok.dst p) w'):Bf P md ops Q B (fuel+2) listed a w:=by refine⟨fun e=>Zv,fun j hj w1 hl=>?_⟩;rw[hr] at hj;rcases AM1.1 hj with rfl|hj;(unfold Go.wpOp;simp only[hi,hwi,if_true,Oper.wp,hci w1 hl,Oper.upon];refine .inl (AOR (hc w1 hl) fun e w' he=>?_);obtain⟨c,rfl,hs⟩:=he;exact hQ1 c w' hs);obtain rfl:j=k:=TC;unfold Go.wpOp;simp only[hk,hwk,if_true,Oper.wp,hck w1 hl,Oper.upon];refine .inl ⟨fun _=>(ANF _ _).alloc (AMi _) ob,fun e=>(by rw[hr2] at e;cases e),fun j' hj' w2 hl2=>?_⟩;rw[hr2] at hj';(obtain rfl:j'=i:=by simpa using hj');have hl3:Later w w2:=hl.trans (Later.trans ((ANF _ _).alloc (AMi _) ob) hl2);unfold Go.wpOp;simp only[hi,hwi2,if_true,Oper.wp,hci2 _ w2 hl3,Oper.upon];refine .inl (AOR (hc w2 hl3) fun e w' he=>?_);obtain⟨c,rfl,hs⟩:=he;exact hQ2 c w' _ hs
theorem Bl {listed:Array Bool} {a:Act} {w:J} (hr:Region.ready md ops listed=[]) (h:∀w',Later w w'→Q .normal a w'):∀fuel,Bf P md ops Q B fuel listed a w
 |0=>⟨hr,h⟩
 |_+1=>⟨fun _=>h,by rw[hr];simp⟩
theorem AX {id:Nat} {a:Act} {w:J} (hm:P.follows .mixedOrders=Yy)
  (B:List Nat) (h:Bf P .any ops Q B ops.size (Array.replicate ops.size Yz) a w.drew):(Code.region id ops Yy).wp P Q a w:=
 APR hm (Qb _ _ _ _ h)
def K7 (Q:Exit→Act→J→Prop):Exit→Act→J→Prop
 |.normal,a,w=>Q .normal a w
 |_,_,_=>False
theorem K7.imp:∀{e:Exit} {a:Act} {w:J},K7 Q e a w→Q e a w
 |.normal,_,_,h=>h
theorem K7.normal {a:Act} {w:J} (h:Q .normal a w):K7 Q .normal a w:=h
theorem Mv {id:Nat} {a:Act} {w:J} (hm:P.follows .mixedOrders=Yy)
  (B:List Nat) (h:Bf P .any ops (K7 Q) B ops.size (Array.replicate ops.size Yz) a w.drew):(Code.region id ops Yy).wp P Q a w:=
 wp_mono (AX hm B h) (fun _ _ _ h=>K7.imp h)
theorem Jp {fn:Func} {t1 t2:Array Yu} {R:Ending→J→Prop} (h:results fn t1=results fn t2):∀{ds:List Deferred} {u:FrameMode} {w:J},Leaves P fn t1 R ds u w→Leaves P fn t2 R ds u w
 |[],.returning,w,hl=>by
  unfold Leaves at hl⊢;rw[←h];exact hl
 |[],.panicking _,_,hl=>hl
 |[],.run,_,hl=>hl
 |d::ds,u,w,hl=>by
  obtain⟨hu,fv,cap,f,args,h1,h2,h3⟩:=hl;refine⟨hu,fv,cap,f,args,h1,h2,h3.mono ?_⟩;intro e u' w' he;cases e with
  |returned v=>exact Jp h he
  |panicked c=>exact Jp h he
  |outgrown=>exact he
theorem Rh {fn:Func} {R:Ending→J→Prop} {k:Tmp} {v:Yu} (hk:∀t:Array Yu,results fn (t.setIfInBounds k v)=results fn t) (c:List PanicEntry) (a:Act) (w:J)
  (h:bodyPostD P fn R (.panic c) (a.put (Z k) v) w):bodyPostD P fn R (.panic c) a w:=
 Jp (hk a.tmps) h
end
theorem AJ.later {W W':J} {g:Nat} {cs:Array Yu} {t:TypeId} (h:AJ W g cs t) (hl:Later W W'):AJ W' g cs t:=(hl.block g h.lt).trans h
def Uu (n:Nat):Yu:=Yg Yt n
theorem GM {P:Program} {ops:Array Oper} {rest:List Oper} {o:Oper} {a:Act} {w:J} {Q:Exit→Act→J→Prop} (hg:o.guard=Y) (t:TypeId) (parts:Array (Nat×Operand)) (ho:o.op=.build t parts)
  (d:Option Tmp) (hd:o.dst=d) (cells:Array Yu) (hf:P.built t (parts.map fun (i,x)=>(i,a.eval x)).toList=Z cells)
  (h:wpList P ops Q rest (a.put d (Yr cells)) w):wpList P ops Q (o::rest) a w:=by subst hd;refine wpList_build hg t parts ho (by rw[hf];rfl) ?_;rw[hf];exact h
theorem AJ.setRow {W:J} {g:Nat} {cs:Array Yu} {t:TypeId} (h:AJ W g cs t) (ks:Array Yu):AJ (W.setRow g ks) g ks t:=by unfold AJ at h⊢;simp[World.setRow,ANj,h]
theorem Later.alloc' (W:J) (o:Obj):Later W (W.alloc o):=(ANF _ _).alloc (AMi _) o
def AP6:=@Later.alloc'
theorem AJ.farRow {W:J} {g g':Nat} {cs:Array Yu} {t:TypeId} (h:AJ W g cs t) (hg:g'≠g) (ks:Array Yu):AJ (W.setRow g' ks) g cs t:=by unfold AJ at h⊢;simp[World.setRow,ANj,hg,h]
theorem But.setRow {L:List Nat} {a w:J} (h:But L a w) {g:Nat} (ks:Array Yu) (hp:a.heap.size≤g):But L a (w.setRow g ks) where
 os:=h.os
 tape:=h.tape
 output:=h.output
 size:=by simpa [World.setRow] using h.size
 block:=fun k hk hn=>by
  rw[←h.block k hk hn];simp[World.setRow,ANj,show ¬g=k by omega]
 shape:=fun k cs t hr hb=>by
  obtain⟨cs',h1,h2⟩:=h.shape k cs t hr hb;refine⟨cs',h1,?_⟩;have:k<a.heap.size:=hb.lt0;unfold AJ at h2⊢;simp[World.setRow,ANj,show ¬g=k by omega,h2]
theorem EP {P:Program} {ops:Array Oper} {Q:Exit→Act→J→Prop} {md:Region.Mode} {B:List Nat} {i:Nat} {o:Oper} {fuel:Nat} {listed:Array Bool} {a:Act} {w:J} {ob:Obj} (Ya:Nat→Yu) (hi:ops[i]?=Z o)
  (hr:Region.ready md ops listed=[i]) (hw:Region.wanted o (yielded ops a.tmps)=Yy)
  (h:∀w1,Later w w1→(execOp a.eval o).run P w1=.ok (.value (Ya w1.heap.size)) (w1.alloc ob))
  (hk:∀w1,Later w w1→Bf P md ops Q B fuel (listed.setIfInBounds i Yy) (a.put o.dst (Ya w1.heap.size)) (w1.alloc ob)):Bf P md ops Q B (fuel+1) listed a w:=AGw
theorem EO {P:Program} {ops:Array Oper} {Q:Exit→Act→J→Prop} {md:Region.Mode} {B:List Nat} {i:Nat} {o:Oper} {v:Yu} {fuel:Nat} {listed:Array Bool} {a:Act} {w:J} (hi:ops[i]?=Z o)
  (hr:Region.ready md ops listed=[i]) (hw:Region.wanted o (yielded ops a.tmps)=Yy)
  (h:∀w1,Later w w1→(execOp a.eval o).run P w1=.ok (.value v) w1)
  (hk:Bf P md ops Q B fuel (listed.setIfInBounds i Yy) (a.put o.dst v) w):Bf P md ops Q B (fuel+1) listed a w:=by refine DF hr fun w1 hl=>?_;unfold Go.wpOp;simp only[hi,hw,if_true,Oper.wp,h w1 hl,Oper.upon];exact .inl ⟨fun _=>AP0 _,hk.later hl⟩
theorem Ic {P:Program} (t e n:Nat) (cs:Array Yu) (k:IntKind) (i:Nat) (v:Yu) (h:P.underlying t=Z (.array n e)) (hs:(P.info? e).map (·.size)=Z 1) (ha:∀w,(isAgg e).run P w=.ok Yz w) (hi:i<n) (hv:cs[i]?=Z v) (w:J):
  (Instr.index t (Yr cs) (.int k i)).run P w=.ok v w:=by have hin:(0:Int)≤(i:Int)∧(i:Int)<(n:Int):=KA;cases hq:P.info? e with|none=>simp[hq] at hs|some it=>have h1:it.size=1:=ACV;simp[Instr.index,AOk h,asIntOf,hin,sizeOf,typeInfo,hq,h1,part,ha,hv,go_sem];omega
def vC (v:S8):Array Yu:=#[Yg Yt (v.a:Nat),Yg Yt (v.b:Nat),Yg Yt (v.c:Nat),Yg Yt (v.d:Nat),Yg Yt (v.e:Nat),Yg Yt (v.f:Nat),Yg Yt (v.g:Nat),Yg Yt (v.h:Nat)]
def CR:Array Yu:=(EL.map Uu).toArray
theorem Tx (t:Nat) (h:t<64):CR[t]?=Z (Yg Yt (EL.getD t 0:Nat)):=by have hl:EL.length=64:=ND;simp only[CR,ANs,ANI];rw[AMe KA];simp[Uu,AMd,AMe (show t<EL.length by omega)]
theorem aQ:∀x∈EL,x<4294967296:=by decide
def z64:Array Yu:=#[Value.int .u32 0,Value.int .u32 0,Value.int .u32 0,Value.int .u32 0,Value.int .u32 0,Value.int .u32 0,Value.int .u32 0,Value.int .u32 0,Value.int .u32 0,Value.int .u32 0,Value.int .u32 0,Value.int .u32 0,Value.int .u32 0,Value.int .u32 0,Value.int .u32 0,Value.int .u32 0,Value.int .u32 0,Value.int .u32 0,Value.int .u32 0,Value.int .u32 0,Value.int .u32 0,Value.int .u32 0,Value.int .u32 0,Value.int .u32 0,Value.int .u32 0,Value.int .u32 0,Value.int .u32 0,Value.int .u32 0,Value.int .u32 0,Value.int .u32 0,Value.int .u32 0,Value.int .u32 0,Value.int .u32 0,Value.int .u32 0,Value.int .u32 0,Value.int .u32 0,Value.int .u32 0,Value.int .u32 0,Value.int .u32 0,Value.int .u32 0,Value.int .u32 0,Value.int .u32 0,Value.int .u32 0,Value.int .u32 0,Value.int .u32 0,Value.int .u32 0,Value.int .u32 0,Value.int .u32 0,Value.int .u32 0,Value.int .u32 0,Value.int .u32 0,Value.int .u32 0,Value.int .u32 0,Value.int .u32 0,Value.int .u32 0,Value.int .u32 0,Value.int .u32 0,Value.int .u32 0,Value.int .u32 0,Value.int .u32 0,Value.int .u32 0,Value.int .u32 0,Value.int .u32 0,Value.int .u32 0]
theorem gL (W:J):Yv Yw 336 #[] W fun e w'=>e=Yi (Yr CR)∧Later W w':=by go_in;go_wp2_with (first|(refine GM rfl 269 _ rfl (some 1) rfl CR NA ?_)|(refine AOI rfl 269 (.tmp 0) (.tmp 1) rfl W.heap.size CR rfl rfl 269 z64 (APw W z64 269) NA PE NA ?_));change bodyPost _ _ _ _ _ ((W.alloc (.cells z64 269)).setRow W.heap.size CR);obtain⟨X,B⟩:=AJL;generalize (W.alloc (.cells z64 269)).setRow W.heap.size CR=w1 at*;have hr:=AJy;refine AMo (v:=Yr CR) ?_ rfl ⟨rfl,B.later⟩;simp[results,Tryz.results336,Act.put,asAddr];exact hr
def S8.l (s:S8):List Nat:=[s.a,s.b,s.c,s.d,s.e,s.f,s.g,s.h]
theorem S8.l_lt {s:S8} (h:s.ok):∀k,s.l.getD k 0<4294967296
 |0=>h.a
 |1=>h.b
 |2=>h.c
 |3=>h.d
 |4=>h.e
 |5=>h.f
 |6=>h.g
 |7=>h.h
 |_+8=>by simp[S8.l]
def jY (b:UInt8):Yu:=Yg Yq (b.toNat:Nat)
def Bg (s:S8) (r:List UInt8) (n:Nat):Array Yu:=(s.l.map Uu++r.map jY++[Value.int .u64 (n:Nat)]).toArray
theorem GJ {s:S8} {r:List UInt8} {n:Nat} (hr:r.length=64):(Bg s r n).size=73:=by simp[Bg,S8.l,hr]
theorem Cu {s:S8} {r:List UInt8} {n:Nat} (k:Nat) (hk:k<8):(Bg s r n)[k]?=Z (Yg Yt (s.l.getD k 0:Nat)):=by have hl:s.l.length=8:=rfl;simp only[Bg,ANs];rw[ANA,ANB ACe,ANI,AMe KA];simp[Uu,AMd,AMe (show k<s.l.length by omega)]
theorem Nr {s:S8} {r:List UInt8} {n:Nat} (hr:r.length=64) (k:Nat) (hk:k<64):(Bg s r n)[8+k]?=Z (Yg Yq ((r.getD k 0).toNat:Nat)):=by have hl:s.l.length=8:=rfl;simp only[Bg,ANs];rw[ANA,AM9 ACe,AM8,hl,Nat.add_sub_cancel_left,ANB ACe,ANI,AMe KA];simp[jY,AMd,AMe (show k<r.length by omega)]
theorem Km {s:S8} {r:List UInt8} {n:Nat} (hr:r.length=64):(Bg s r n)[72]?=Z (Yg V n):=by have hl:s.l.length=8:=rfl;simp only[Bg,ANs];rw[AM9 (by simp[hl,hr]),AMf,AM8,AM8,hl,hr];rfl
theorem OO (l:List UInt8) (t:Nat):Af l t<4294967296:=by unfold Af;have a:=(l.getD (4*t) 0).toNat_lt;have b:=(l.getD (4*t+1) 0).toNat_lt;have c:=(l.getD (4*t+2) 0).toNat_lt;have d:=(l.getD (4*t+3) 0).toNat_lt;omega
theorem gu (a b c d:Nat) (ha:a<256) (hb:b<256) (hc:c<256) (hd:d<256):((a*2^24 ||| b*2^16) ||| c*2^8) ||| d=a*2^24+b*2^16+c*2^8+d:=by rw[show a*2^24 ||| b*2^16=a*2^24+b*2^16 by rw[APm a];exact (ANy KA a).symm];rw[show (a*2^24+b*2^16) ||| c*2^8=a*2^24+b*2^16+c*2^8 by rw[show a*2^24+b*2^16=2^16*(a*256+b) by omega];exact AHz];rw[show a*2^24+b*2^16+c*2^8=2^8*(a*65536+b*256+c) by omega];exact AHz
theorem P7 (l:List UInt8) (t:Nat) (h:t<16):(Cl l).getD t 0=Af l t:=by unfold Cl;rw[AMd,ANI,AOp h];rfl
theorem F4 (l:List UInt8):(Cl l).length=16:=by unfold Cl;rw[AM8,List.length_range]
theorem Ll (l:List UInt8):∀x∈Cl l,x<4294967296:=fun x hx=>by
 obtain⟨t,_,rfl⟩:=ANU.1 hx;exact OO l t
theorem DZ {l:List Nat} (h:∀x∈l,x<4294967296) (k:Nat):l.getD k 0<4294967296:=by rw[AMd];by_cases hk:k<l.length;(rw[AMe hk];exact h _ (ANZ hk));rw[AO2 KA];decide
theorem iL (b:List Nat) (hb:b.length=16) (m j:Nat) (h:j<16+m):(Gu b (m+1)).getD j 0=(Gu b m).getD j 0:=by rw[Gu,AMd,ANB (by rw[Ey hb];exact h),←AMd]
theorem iM (b:List Nat) (hb:b.length=16) (m:Nat):(Gu b (m+1)).getD (16+m) 0=m32 ((Gu b m).getD m 0+Pi ((Gu b m).getD (m+1) 0)+(Gu b m).getD (m+9) 0+WU ((Gu b m).getD (m+14) 0)):=by rw[Gu,AMd,AM9 (by rw[Ey hb];omega),Ey hb,AN6];rfl
theorem aV (s s':S8) (r:List UInt8) (n k:Nat) (hk:8≤k):(Bg s r n)[k]?=(Bg s' r n)[k]?:=by have hl:∀s:S8,(s.l.map Uu).length=8:=fun _=>rfl;(have key:∀s:S8,(s.l.map Uu++(r.map jY++[Value.int .u64 (n:Nat)]))[k]?=(r.map jY++[Value.int .u64 (n:Nat)])[k-8]?:=fun s=>by rw[AM9 (by rw[hl];exact hk),hl]);simp only[Bg,ANs];rw[ANA,ANA,key,key]
theorem ABp (s v:S8):∀k,k<8→(s.add v).l.getD k 0=m32 (s.l.getD k 0+v.l.getD k 0)
 |0,_=>rfl
 |1,_=>rfl
 |2,_=>rfl
 |3,_=>rfl
 |4,_=>rfl
 |5,_=>rfl
 |6,_=>rfl
 |7,_=>rfl
 |k+8,h=>absurd h (by omega)
theorem pI (v:S8):∀k,k<8→(vC v)[k]?=Z (Yg Yt (v.l.getD k 0:Nat))
 |0,_=>rfl
 |1,_=>rfl
 |2,_=>rfl
 |3,_=>rfl
 |4,_=>rfl
 |5,_=>rfl
 |6,_=>rfl
 |7,_=>rfl
 |k+8,h=>absurd h (by omega)
theorem Ut (v:S8):(vC v).size=8:=rfl
theorem AAB (s:S8) (hs:s.ok) (bl:List UInt8) (hbl:bl.length=64) (n g:Nat) (W:J) (h:AJ W g (Bg s bl n) 383):
  Yv Yw 315 #[U g,.slice (Z ⟨g,8,Y⟩) 64 64] W fun e w'=>e=Yi (Ym #[])∧But [g] W w'∧AJ w' g (Bg (comp s bl) bl n) 383:=by
 have B0:=sq (APu [] W);go_in;go_wp2_with fail;change Code.wp _ _ _ _ (W.alloc (.cells z64 269));have X1:=sq (APw W z64 269);have B1:=sq (B0.out.alloc (.cells z64 269));have H0:=sq h;have GL:=sq h.lt;obtain⟨b1,hb1⟩:∃b,b=W.heap.size:=⟨_,rfl⟩;have HZ:Shut (z64.size=64):=⟨rfl⟩;have HB:=sq hb1;rw[←hb1] at X1⊢;clear h hb1;generalize z64=z at*;generalize W.alloc (.cells z 269)=w1 at*;go_loopw [22] (fun i wr=>∃t:Nat,i=Yg Yj t∧t≤16∧But [] W wr∧∃cs:Array Yu,AJ wr b1 cs 269∧cs.size=64∧∀j,j<t→cs[j]?=Z (Yg Yt (Af bl j:Nat))) (fun i _=>16-(intOf i).toNat);(case atStart=>exact⟨0,rfl,KA,B1.out,z,X1.out,HZ.out,fun j hj=>absurd hj KA⟩)
 case round=>
  obtain⟨t,rfl,ht,hb,cs,hx,hs,hcs⟩:=hrel;by_cases ht1:t<16;(·have hlt:(t:Int)<16:=KA;obtain⟨HBB,HX,HS⟩:=AIp;have HC:=sq hcs;have HG:=H0.out.but hb NC;obtain⟨q,hq⟩:∃q,q=8+4*t:=⟨_,rfl⟩;obtain⟨a0,ha0,hw⟩:∃a0,a0=(bl.getD (4*t) 0).toNat∧a0<256:=⟨_,rfl,(bl.getD (4*t) 0).toNat_lt⟩;obtain⟨a1,ha1,hw1⟩:∃a0,a0=(bl.getD (4*t+1) 0).toNat∧a0<256:=⟨_,rfl,(bl.getD (4*t+1) 0).toNat_lt⟩;obtain⟨a2,ha2,hw2⟩:∃a0,a0=(bl.getD (4*t+2) 0).toNat∧a0<256:=⟨_,rfl,(bl.getD (4*t+2) 0).toNat_lt⟩;obtain⟨a3,ha3,hw3⟩:∃a0,a0=(bl.getD (4*t+3) 0).toNat∧a0<256:=⟨_,rfl,(bl.getD (4*t+3) 0).toNat_lt⟩;(have c0:wr.cell? ⟨g,q,Y⟩=Z (Yg Yq (a0:Nat)):=by rw[hq,ha0];exact HG.cell (8+(4*t)) (Nr hbl (4*t) KA));(have c1:wr.cell? ⟨g,q+1,Y⟩=Z (Yg Yq a1):=by rw[hq,ha1];exact HG.cell (8+(4*t+1)) (Nr hbl (4*t+1) KA));(have c2:wr.cell? ⟨g,q+2,Y⟩=Z (Yg Yq a2):=by rw[hq,ha2];exact HG.cell (8+(4*t+2)) (Nr hbl (4*t+2) KA));(have c3:wr.cell? ⟨g,q+3,Y⟩=Z (Yg Yq a3):=by rw[hq,ha3];exact HG.cell (8+(4*t+3)) (Nr hbl (4*t+3) KA));obtain⟨wv,hwv⟩:∃wv,wv=a0*2^24+a1*2^16+a2*2^8+a3:=⟨_,rfl⟩;have HWV:Shut (Af bl t=wv):=⟨by unfold Af;rw[hwv,ha0,ha1,ha2,ha3]⟩;obtain⟨p0,hp0⟩:∃p0,p0=a0*2^24:=⟨_,rfl⟩;obtain⟨p1,hp1⟩:∃p0,p0=a1*2^16:=⟨_,rfl⟩;obtain⟨p2,hp2⟩:∃p0,p0=a2*2^8:=⟨_,rfl⟩;obtain⟨V0,V1,V2,V3,S0,S1,S2,O1,O2,O3,hwo⟩:=AFW;rw[←hwv,←hp0,←hp1,←hp2] at hwo;rw[hwo] at O3;clear hwo hwv hp0 hp1 hp2;generalize (p0 ||| p1) ||| p2=o2 at*;generalize p0 ||| p1=o1 at*;have f0:=hx.frozen t;have l0:=hx.lt;obtain⟨v0,hv0⟩:∃v,cs[t]?=Z v:=⟨cs[t]'KA,AMq KA⟩;have cD:wr.drew.cell? ⟨b1,t,Y⟩=Z v0:=hx.drew.cell t hv0;have fD:wr.drew.frozen? ⟨b1,t,Y⟩=false:=hx.drew.frozen t;clear hb hx hs hcs HG ha0 ha1 ha2 ha3 hv0;go_wp2_with fail;rw[show 4*t+4-4*t=4 by omega,←hq];clear hq;go_still_tail 23,NA;change wpList _ _ _ _ _ wr.drew;have HXD:=sq HX.out.drew;have HBD:=sq HBB.out.drew;clear HX HBB c0 c1 c2 c3 f0 l0 V0 V1 V2 V3 S0 S1 S2 O1 O2 O3 hw hw1 hw2 hw3;generalize wr.drew=wd at*;go_wp2_with fail;refine⟨⟨t+1,NC,KA,HBD.out.setCell (p:=⟨b1,t,Y⟩) (Or.inr Z7) _,_,HXD.out.set t _,VN,fun i hi=>?_⟩,NF⟩;exact AHS);have hlt:¬((t:Int)<16):=KA;have hte:t=16:=KA;subst hte;obtain⟨HBB,HX,HS⟩:=AIp;have HC0:=sq hcs;have HG:=sq (H0.out.but hb NC);clear hb hx hs hcs B0 B1 X1 HZ;clear w1 z;clear hlt;go_wp2_with fail;rw[show ((16:Nat):Int)=16 from rfl];have HC:Shut (∀j,j<16+0→cs[j]?=Z (Yg Yt ((Gu (Cl bl) 0).getD j 0:Nat))):=⟨fun j hj=>by rw[show (Gu (Cl bl) 0).getD j 0=Af bl j from P7 bl j KA];exact HC0.out j hj⟩;clear HC0;go_loopw [8] (fun i wr=>∃m t:Nat,i=Yg Yj t∧t=16+m∧m≤48∧But [] W wr∧∃cs:Array Yu,AJ wr b1 cs 269∧cs.size=64∧∀j,j<16+m→cs[j]?=Z (Yg Yt ((Gu (Cl bl) m).getD j 0:Nat))) (fun i _=>64-(intOf i).toNat);(case atStart=>exact⟨0,16,rfl,rfl,KA,HBB.out,cs,HX.out,HS.out,HC.out⟩)
  case round=>
   clear HBB HX HS HC HG;obtain⟨m,t,rfl,htm,hm,hb,cs,hx,hs,hcs⟩:=hrel;by_cases hm1:m<48
   ·have hlt:(t:Int)<64:=KA;obtain⟨HBB,HX,HS⟩:=AIp;have HC:=sq hcs;have hS:=OX (Ll bl) m;obtain⟨ws,hws⟩:∃ws,ws=Gu (Cl bl) m:=⟨_,rfl⟩;rw[←hws] at hcs hS;obtain⟨x0,hx0,y0⟩:∃x,x=ws.getD m 0∧x<4294967296:=⟨_,rfl,DZ hS m⟩;obtain⟨x1,hx1,y1⟩:∃x,x=ws.getD (m+1) 0∧x<4294967296:=⟨_,rfl,DZ hS (m+1)⟩;obtain⟨x9,hx9,y9⟩:∃x,x=ws.getD (m+9) 0∧x<4294967296:=⟨_,rfl,DZ hS (m+9)⟩;obtain⟨x14,hx14,y14⟩:∃x,x=ws.getD (m+14) 0∧x<4294967296:=⟨_,rfl,DZ hS (m+14)⟩;obtain⟨m1,hm1'⟩:∃k,k=m+1:=⟨_,rfl⟩;obtain⟨m9,hm9⟩:∃k,k=m+9:=⟨_,rfl⟩;obtain⟨m14,hm14⟩:∃k,k=m+14:=⟨_,rfl⟩;have e0:=hcs m KA;have e1:=hcs (m+1) KA;have e9:=hcs (m+9) KA;have e14:=hcs (m+14) KA;rw[←hx0] at e0;rw[←hx1,←hm1'] at e1;rw[←hx9,←hm9] at e9;rw[←hx14,←hm14] at e14;have XD:=sq hx.drew;obtain⟨v0,hv0⟩:∃v,cs[t]?=Z v:=⟨cs[t]'KA,AMq KA⟩
    have CE:Shut (∀W1,Later wr.drew W1→W1.cell? ⟨b1,m,Y⟩=Z (Yg Yt x0)∧W1.cell? ⟨b1,m1,Y⟩=Z (Yg Yt x1)∧W1.cell? ⟨b1,m9,Y⟩=Z (Yg Yt x9)∧W1.cell? ⟨b1,m14,Y⟩=Z (Yg Yt x14)∧W1.cell? ⟨b1,t,Y⟩=Z v0∧W1.frozen? ⟨b1,t,Y⟩=Yz):=⟨fun W1 hl=>
     have h:=XD.out.later hl
     ⟨h.cell m e0,h.cell m1 e1,h.cell m9 e9,h.cell m14 e14,h.cell t hv0,h.frozen t⟩⟩
    have M1:=sq (iW x1 7 18 3 y1 ND ND ND ND ND);have M2:=sq (iW x14 17 19 10 y14 ND ND ND ND ND);obtain⟨A1,A2,A3,HW,HOLD⟩:=AFV;have HTM:=sq htm;change Shut (∀W,Yv _ _ _ W fun e w'=>e=Yi (Yg Yt (Pi x1:Nat))∧∃n,w'=W.drewN n) at M1;change Shut (∀W,Yv _ _ _ W fun e w'=>e=Yi (Yg Yt (WU x14:Nat))∧∃n,w'=W.drewN n) at M2;generalize m32 (m32 (m32 (x0+Pi x1)+x9)+WU x14)=r3 at*;generalize m32 (m32 (x0+Pi x1)+x9)=r2 at*;generalize m32 (x0+Pi x1)=r1 at*;generalize Pi x1=q1 at*;generalize WU x14=q2 at*;obtain⟨I16,I15,I7,I2,l0,l1,l9,l14,k1,k9⟩:=AHL;have k14:m14<64:=KA;clear hb hx hs hcs hS hws hx0 hx1 hx9 hx14 y0 y1 y9 y14 e0 e1 e9 e14 XD hv0 htm hm1' hm9 hm14;go_wp2_with fail;refine AX NA [25] ?_;have M1':Shut (∀W,Yv Yw 333 #[Yg Yt x1,Yg Yj 7,Yg Yj 18,Yg Yj 3] W fun e w'=>e=Yi (Yg Yt q1)∧Later W w'):=⟨fun W=>(M1.out W).mono fun e w' h=>⟨h.1,PH⟩⟩;have M2':Shut (∀W,Yv Yw 333 #[Yg Yt x14,Yg Yj 17,Yg Yj 19,Yg Yj 10] W fun e w'=>e=Yi (Yg Yt q2)∧Later W w'):=⟨fun W=>(M2.out W).mono fun e w' h=>⟨h.1,PH⟩⟩;refine AY 0 ?_;refine AY 1 ?_;refine AY 2 ?_;refine AY 3 ?_;refine AY 4 (h:=QD) ?_;refine AY 5 ?_;refine AY 6 ?_;refine AY 7 ?_;refine AY 8 ?_;refine AY 9 (h:=QD) ?_;refine Eb 10 (fun W1 hl=>M1'.out W1) ?_;refine AY 11 ?_;refine AY 12 ?_;refine AY 13 ?_;refine AY 14 ?_;refine AY 15 (h:=QD) ?_;refine AY 16 ?_;refine AY 17 ?_;refine AY 18 ?_;refine AY 19 ?_;refine AY 20 ?_;refine AY 21 (h:=QD) ?_;refine Eb 22 (fun W1 hl=>M2'.out W1) ?_;refine AY 23 ?_;refine AY 24 ?_;refine DJ (i:=25) (f:=?_) rfl NA NA NA PE ?_ ?_;rotate_left;(·(intro W1 hl;obtain⟨p0,p1,p9,p14,p5,f5⟩:=CE.out W1 hl;go_simp<;>with_reducible rfl));intro w1 w2 hl1 hl2;refine tz ?_;have HX2:=sq (((HX.out.drew.later hl1).set t (Yg Yt r3)).later hl2);have HB2:Shut (But [] W w2):=⟨(((HBB.out.drew).trans (APv hl1)).setCell (p:=⟨b1,t,Y⟩) (Or.inr Z7) _).trans (APv hl2)⟩;clear hl1 hl2 HX HBB CE M1 M2 M1' M2' I16 I15 I7 I2 A1 A2 A3 l0 l1 l9 l14 k1 k9 k14;go_wp2_with fail;refine⟨⟨m+1,t+1,NC,ZO,KA,HB2.out,_,HX2.out,VN,fun j hj=>?_⟩,NF⟩;exact AHB
   have hm2:m=48:=KA;subst hm2;have ht2:t=64:=KA;subst ht2;obtain⟨HBB,HX,HS⟩:=AIp;have HC:=AKT;have HG:=H0.out.but hb NC;have d0:=HG.cell 0 (Cu 0 KA);have d1:=HG.cell 1 (Cu 1 KA);have d2:=HG.cell 2 (Cu 2 KA);have d3:=HG.cell 3 (Cu 3 KA);have d4:=HG.cell 4 (Cu 4 KA);have d5:=HG.cell 5 (Cu 5 KA);have d6:=HG.cell 6 (Cu 6 KA);have d7:=HG.cell 7 (Cu 7 KA);simp only[S8.l,AOE,AOS] at d0 d1 d2 d3 d4 d5 d6 d7;clear hb hx hs hcs HG hm1;go_wp2_with fail;change Yv _ _ _ (wr.alloc (Yk (vC s) 379)) _;have XV:=sq (APw wr (vC s) 379);have XW:=sq (HX.out.alloc (Yk (vC s) 379));have BV:=sq (HBB.out.alloc (Yk (vC s) 379));have HVB:Shut (W.heap.size≤wr.heap.size∧b1<wr.heap.size):=⟨⟨HBB.out.size,HX.out.lt⟩⟩;generalize wr.alloc (Yk (vC s) 379)=wv at*;generalize wr.heap.size=bv at*;refine (gL _).mono ?_;rintro e w2 ⟨rfl,hl⟩;have XV2:=sq (XV.out.later hl);have XW2:=sq (XW.out.later hl);have BV2:=sq (BV.out.trans (APv hl));have HKA:=sq Tx;clear hl XV XW BV HBB HX;generalize CR=ka at*;clear d0 d1 d2 d3 d4 d5 d6 d7;obtain⟨ws,hws⟩:∃ws,ws=Gu (Cl bl) 48:=⟨_,rfl⟩;rw[←hws] at HC;have HWL:Shut (∀k,ws.getD k 0<4294967296):=⟨fun k=>DZ AD0 k⟩;have HWS:=sq hws;clear hws;go_wp2_with fail;go_loopw [90] (fun i wr=>∃t:Nat,i=Yg Yj t∧t≤64∧But [] W wr∧AJ wr b1 cs 269∧AJ wr bv (vC (Cg ws s t)) 379) (fun i _=>64-(intOf i).toNat);(case atStart=>exact⟨0,rfl,KA,BV2.out,XW2.out,XV2.out⟩)
   case round=>
    clear XV2 XW2 BV2;obtain⟨t,rfl,ht5,hb,hx,hv⟩:=hrel;by_cases ht6:t<64
    ·have hlt:(t:Int)<64:=KA;have HBB:=sq hb;have HX:=sq hx;have HV:=sq hv;have HVO:=sq (LQ (w:=ws) hs t);obtain⟨kt,hkt,ykt⟩:∃k,k=EL.getD t 0∧k<4294967296:=⟨_,rfl,DZ aQ t⟩;obtain⟨wt,hwt,ywt⟩:∃k,k=ws.getD t 0∧k<4294967296:=⟨_,rfl,HWL.out t⟩;have hka:ka[t]?=Z (Yg Yt kt):=ACz;have hca:cs[t]?=Z (Yg Yt wt):=AC8;have HR:Shut (Cg ws s (t+1)=KI kt wt (Cg ws s t)):=⟨by rw[hkt,hwt];rfl⟩;generalize Cg ws s t=v at*;obtain⟨va,vb,vc,vd,ve,vf,vg,vh⟩:=v;obtain⟨y0,y1,y2,y3,y4,y5,y6,y7⟩:=HVO.out;have d0:wr.cell? bv=Z (Yg Yt va):=hv.cell 0 rfl;have d1:wr.cell? ⟨bv,1,Y⟩=Z (Yg Yt vb):=hv.cell 1 rfl;have d2:wr.cell? ⟨bv,2,Y⟩=Z (Yg Yt vc):=hv.cell 2 rfl;have d3:wr.cell? ⟨bv,3,Y⟩=Z (Yg Yt vd):=hv.cell 3 rfl;have d4:wr.cell? ⟨bv,4,Y⟩=Z (Yg Yt ve):=hv.cell 4 rfl;have d5:wr.cell? ⟨bv,5,Y⟩=Z (Yg Yt vf):=hv.cell 5 rfl;have d6:wr.cell? ⟨bv,6,Y⟩=Z (Yg Yt vg):=hv.cell 6 rfl;have d7:wr.cell? ⟨bv,7,Y⟩=Z (Yg Yt vh):=hv.cell 7 rfl;clear hb hx hv hkt hwt;have IX:∀w,(Instr.index 269 (Yr ka) (Yg Yj (t:Int))).run Yw w=.ok (Yg Yt kt) w:=fun w=>Ic 269 196 64 ka .i64 t _ Tryz.underlying269 NA (fun w=>NA) ht6 hka w
     have CE:Shut (∀n W1,Later (wr.drewN n).drew W1→W1.cell? ⟨bv,7,Y⟩=Z (Yg Yt vh)∧W1.cell? ⟨b1,t,Y⟩=Z (Yg Yt wt)):=⟨fun n W1 hl=>
      have hv':AJ (wr.drewN n).drew bv _ 379:=HV.out;have hx':AJ (wr.drewN n).drew b1 cs 269:=HX.out
      ⟨(hv'.later hl).cell 7 rfl,(hx'.later hl).cell t hca⟩⟩
     have TE:Shut (∀k W,AJ W k #[Yg Yj 6,Yg Yj 11,Yg Yj 25] 3→Yv Yw 335 #[Yg Yt ve,Yh (k:Nat) 3 3] W fun e w'=>e=Yi (Yg Yt (Pb ve:Nat))∧Later W w'):=⟨fun k W h=>(Wl ve 6 11 25 k y4 ND ND ND ND ND ND W (h.cell 0 rfl) (h.cell 1 rfl) (h.cell 2 rfl)).mono fun e w' hh=>⟨hh.1,ZT⟩⟩;have TA:Shut (∀k W,AJ W k #[Yg Yj 2,Yg Yj 13,Yg Yj 22] 3→Yv Yw 335 #[Yg Yt va,Yh (k:Nat) 3 3] W fun e w'=>e=Yi (Yg Yt (nk va:Nat))∧Later W w'):=⟨fun k W h=>(Wl va 2 13 22 k y0 ND ND ND ND ND ND W (h.cell 0 rfl) (h.cell 1 rfl) (h.cell 2 rfl)).mono fun e w' hh=>⟨hh.1,ZT⟩⟩;have A1:=Df vh kt;have A2:=Df (m32 (vh+kt)) wt;have A3:=Df (m32 (m32 (vh+kt)+wt)) (Pb ve);have P1:=GA vf vg y5 y6;have P2:=OA ve (vf^^^vg) y4 (F8 y5 y6);have P3:=GA vg (ve &&& (vf^^^vg)) y6 (Dw y4 _);have A4:=Df (m32 (m32 (m32 (vh+kt)+wt)+Pb ve)) (vg^^^(ve &&& (vf^^^vg)));have Q1:=OA va vb y0 y1;have Q2:=OA va vc y0 y2;have Q3:=GA (va &&& vb) (va &&& vc) (Dw y0 _) (Dw y0 _);have Q4:=OA vb vc y1 y2;have Q5:=GA ((va &&& vb)^^^(va &&& vc)) (vb &&& vc) (F8 (Dw y0 _) (Dw y0 _)) (Dw y1 _);have A5:=Df (nk va) (((va &&& vb)^^^(va &&& vc))^^^(vb &&& vc));obtain⟨xx,hxx⟩:∃xx,xx=rx kt wt ⟨va,vb,vc,vd,ve,vf,vg,vh⟩:=⟨_,rfl⟩;obtain⟨yy,hyy⟩:∃yy,yy=ry ⟨va,vb,vc,vd,ve,vf,vg,vh⟩:=⟨_,rfl⟩;(have hX:m32 (m32 (m32 (m32 (vh+kt)+wt)+Pb ve)+(vg^^^(ve &&& (vf^^^vg))))=xx:=by rw[hxx];show _=m32 (vh+kt+wt+Pb ve+(vg^^^(ve &&& (vf^^^vg))));generalize Pb ve=u1;generalize vg^^^(ve &&& (vf^^^vg))=u2;unfold m32;omega);(have hY:m32 (nk va+(((va &&& vb)^^^(va &&& vc))^^^(vb &&& vc)))=yy:=by rw[hyy];rfl);have A6:=Df xx yy;have A7:=Df vd xx;rw[hX] at A4;rw[hY] at A5;have HN:Shut (vC (KI kt wt ⟨va,vb,vc,vd,ve,vf,vg,vh⟩)=#[Yg Yt (m32 (xx+yy):Nat),Yg Yt va,Yg Yt vb,Yg Yt vc,Yg Yt (m32 (vd+xx):Nat),Yg Yt ve,Yg Yt vf,Yg Yt vg]):=⟨by rw[hxx,hyy];rfl⟩;clear hX hY hxx hyy;generalize m32 (xx+yy)=na at*;generalize m32 (vd+xx)=ne at*;generalize ((va &&& vb)^^^(va &&& vc))^^^(vb &&& vc)=q5 at*;generalize (va &&& vb)^^^(va &&& vc)=q3 at*;generalize va &&& vb=q1 at*;generalize va &&& vc=q2 at*;generalize vb &&& vc=q4 at*;generalize vg^^^(ve &&& (vf^^^vg))=p3 at*;generalize ve &&& (vf^^^vg)=p2 at*;generalize vf^^^vg=p1 at*;generalize m32 (m32 (m32 (vh+kt)+wt)+Pb ve)=s3 at*;generalize m32 (m32 (vh+kt)+wt)=s2 at*;generalize m32 (vh+kt)=s1 at*;generalize Pb ve=b1e at*;generalize nk va=b0a at*;clear y0 y1 y2 y3 y4 y5 y6 y7 ykt ywt hca hka;go_wp2_with fail;clear IX;go_quiet (fail);go_wp2_with fail;refine AX NA [] ?_;refine AY 0 ?_;refine AY 1 (h:=YP) ?_;refine AY 2 ?_;refine AY 3 ?_;refine AY 4 ?_;refine AY 5 ?_;refine AY 6 (h:=YP) ?_;refine AY 7 ?_;refine AY 8 ?_;refine AY 9 ?_;refine AY 13 ?_;refine AY 14 ?_;refine AY 15 ?_;refine AY 16 ?_;refine AY 17 ?_;refine AY 18 ?_;refine AY 19 ?_;refine EP (i:=10) (ob:=Yk #[Yg Yj 6,Yg Yj 11,Yg Yj 25] 3) (fun n=>Yh (n:Nat) 3 3) rfl NA PE ?_ ?_;(exact AEV);intro W1 hl;refine tz ?_;have XN:=sq (APw W1 #[Yg Yj 6,Yg Yj 11,Yg Yj 25] 3);refine Eb 11 (fun W2 hl2=>TE.out _ W2 (XN.out.later hl2)) ?_;refine AY 12 ?_;refine AY 20 ?_;refine AY 21 ?_;refine Bl NA (fun w2 hl2=>?_) _;refine tz ?_;have hla:Later W1 w2:=(AP6 W1 _).trans hl2;have HVD:Shut (AJ w2 bv (vC ⟨va,vb,vc,vd,ve,vf,vg,vh⟩) 379):=⟨((show AJ (World.drewN wr _).drew bv _ 379 from HV.out).later hl).later hla⟩;have HXD:Shut (AJ w2 b1 cs 269):=⟨((show AJ (World.drewN wr _).drew b1 cs 269 from HX.out).later hl).later hla⟩;have HBD:Shut (But [] W w2):=⟨((show But [] W (World.drewN wr _).drew from ⟨HBB.out.os,HBB.out.tape,HBB.out.output,HBB.out.size,HBB.out.block,HBB.out.shape⟩).trans (APv hl)).trans (APv hla)⟩;clear hla hl2 XN hl TE CE HV HX HBB d0 d1 d2 d3 d4 d5 d6 d7 A1 A2 A3 A4 P1 P2 P3;go_wp2_with fail;have XN:=sq (APw w2 #[Yg Yj 2,Yg Yj 13,Yg Yj 22] 3);have la:=AP6 w2 (Yk #[Yg Yj 2,Yg Yj 13,Yg Yj 22] 3);refine (TA.out _ _ XN.out).mono ?_;rintro e w3 ⟨rfl,hl3⟩;have la2:=la.trans hl3;have HV3:=sq (HVD.out.later la2);have HX3:=sq (HXD.out.later la2);have HB3:=sq (HBD.out.trans (APv la2));have d3:w3.cell? ⟨bv,3,Y⟩=Z (Yg Yt vd):=HV3.out.cell 3 rfl;clear la la2 hl3 XN HVD HXD HBD TA;go_wp2_with (refine AOI rfl 379 (.tmp 10) (.tmp 156) rfl bv _ rfl rfl 379 _ HV3.out NA rfl NA ?_);have HV4:=sq (HV3.out.setRow #[Yg Yt na,Yg Yt va,Yg Yt vb,Yg Yt vc,Yg Yt ne,Yg Yt ve,Yg Yt vf,Yg Yt vg]);have HX4:=sq (HX3.out.farRow (g':=bv) (by have:=HVB.out.2;omega) #[Yg Yt na,Yg Yt va,Yg Yt vb,Yg Yt vc,Yg Yt ne,Yg Yt ve,Yg Yt vf,Yg Yt vg]);have HB4:=sq (HB3.out.setRow (g:=bv) #[Yg Yt na,Yg Yt va,Yg Yt vb,Yg Yt vc,Yg Yt ne,Yg Yt ve,Yg Yt vf,Yg Yt vg] HVB.out.1);refine⟨⟨t+1,NC,KA,HB4.out,HX4.out,by rw[HR.out,HN.out];exact HV4.out⟩,NF⟩
    have ht7:t=64:=KA;subst ht7;have HBB:=sq hb;have HX:=sq hx;have HV:=sq hv;clear hb hx hv ht6 ht5 HX HC HKA HWL;have HFIN:Shut (comp s bl=s.add (Cg ws s 64)):=⟨by rw[HWS.out];rfl⟩;generalize Cg ws s 64=v at*;go_wp2_with fail;go_loopw [158] (fun i wr=>∃t:Nat,i=Yg Yj t∧t≤8∧But [g] W wr∧AJ wr bv (vC v) 379∧∃ch:Array Yu,AJ wr g ch 383∧ch.size=73∧(∀k,8≤k→ch[k]?=(Bg s bl n)[k]?)∧∀k,k<8→ch[k]?=Z (Yg Yt ((if k<t then m32 (s.l.getD k 0+v.l.getD k 0) else s.l.getD k 0:Nat):Int))) (fun i _=>8-(intOf i).toNat);(case atStart=>exact⟨0,rfl,KA,HBB.out.nil,HV.out,_,H0.out.but HBB.out NC,GJ hbl,fun k hk=>rfl,fun k hk=>by rw[AMu KA];exact Cu k hk⟩)
    case round=>
     clear HBB HV;obtain⟨t,rfl,ht8,hb,hv,ch,hg,hgs,hc1,hc2⟩:=hrel;by_cases ht9:t<8
     ·have hlt:(t:Int)<8:=KA;have HBB:=sq hb;have HV:=sq hv;have HG:=sq hg;have HGS:=sq hgs;have HC1:=sq hc1;have HC2:=sq hc2;obtain⟨x,hx⟩:∃x,x=s.l.getD t 0:=⟨_,rfl⟩;obtain⟨y,hy⟩:∃y,y=v.l.getD t 0:=⟨_,rfl⟩;have e0:=hc2 t ht9;rw[AMu KA,←hx] at e0;have e1:=pI v t ht9;rw[←hy] at e1;have A1:=Df x y;have HZ:Shut (m32 (s.l.getD t 0+v.l.getD t 0)=m32 (x+y)):=⟨by rw[hx,hy]⟩
      have CE:Shut (∀W1,Later wr.drew W1→W1.cell? ⟨g,t,Y⟩=Z (Yg Yt (x:Nat))∧W1.cell? ⟨bv,t,Y⟩=Z (Yg Yt (y:Nat))∧W1.frozen? ⟨g,t,Y⟩=Yz):=⟨fun W1 hl=>
       have h1:=HG.out.drew.later hl
       ⟨h1.cell t e0,(HV.out.drew.later hl).cell t e1,h1.frozen t⟩⟩
      generalize m32 (x+y)=z at*;clear hb hv hg hgs hc1 hc2 hx hy e0 e1;go_wp2_with fail;refine AX NA [11] ?_;refine AY 0 ?_;refine AY 1 ?_;refine AY 2 ?_;refine AY 3 ?_;refine AY 4 (h:=YK) ?_;refine AY 5 ?_;refine AY 6 ?_;refine AY 7 (h:=YK) ?_;refine AY 8 ?_;refine EO (i:=9) (v:=?_) rfl NA PE ?_ ?_;rotate_left;(exact AEV);refine tz ?_;refine AY 10 ?_;refine DJ (i:=11) (f:=?_) rfl NA NA NA PE ?_ ?_;rotate_left;(·(intro W1 hl;obtain⟨p0,p1,p2⟩:=CE.out W1 hl;go_simp<;>with_reducible rfl));intro w1 w2 hl1 hl2;refine tz ?_;have HG2:=sq (((HG.out.drew.later hl1).set t (Yg Yt z)).later hl2);have HV2:=sq (((HV.out.drew.later hl1).far (p:=⟨g,t,Y⟩) (by have:=HVB.out.1;have:=GL.out;simp;omega) (Yg Yt z)).later hl2);have HB2:Shut (But [g] W w2):=⟨(((HBB.out.drew).trans (APv hl1).nil).setCell (p:=⟨g,t,Y⟩) (Or.inl NC) _).trans (APv hl2).nil⟩;clear hl1 hl2 HG HV HBB CE A1;go_wp2_with fail;refine⟨⟨t+1,NC,KA,HB2.out,HV2.out,_,HG2.out,by rw[ANM];exact HGS.out,fun k hk=>?_,fun k hk=>?_⟩,NF⟩;(rw[AMv KA];exact HC1.out k hk);by_cases e:k=t;(subst e;rw[ANG (by have:=HGS.out;omega),AMx KA,HZ.out]);rw[AMv KA,HC2.out k hk];by_cases h2:k<t;(rw[AMx h2,AMx KA]);rw[AMu h2,AMu KA]
     have ht10:t=8:=KA;subst ht10;have HB2:=sq hb;have HG2:Shut (AJ wr g (Bg (comp s bl) bl n) 383):=⟨by(have:ch=Bg (comp s bl) bl n:=by apply ANp;intro k;by_cases hk:k<8;(rw[hc2 k hk,AMx hk,HFIN.out,Cu k hk,ABp _ _ k hk]);rw[hc1 k KA];exact aV _ _ _ _ k KA);rw[←this];exact hg⟩;clear hb hv hg hgs hc1 hc2;go_wp2_with fail;go_end0;exact⟨rfl,HB2.out,HG2.out⟩
theorem nC (v:Yu) (W:J):(Instr.typeAssert (Yo 36 v) 20 36 Yy).run Yw W=.ok (Ym #[v,Yl Yy]) W:=by kernel_rfl
theorem Rf (r p x:Yu):#[r,p]++((Array.replicate 24 Yx).setIfInBounds 5 x).setIfInBounds 2 x=#[r,p,Yx,Yx,x,Yx,Yx,x,Yx,Yx,Yx,Yx,Yx,Yx,Yx,Yx,Yx,Yx,Yx,Yx,Yx,Yx,Yx,Yx,Yx,Yx]:=by apply Array.ext';simp[List.replicate]
theorem Jt (r p:Yu) (W:J):
  CallsD Yw 235 #[r,p] .returning W fun e u' w'=>e=Yi (Ym #[])∧u'=.returning∧w'=W:=by refine APS Tryz.func235 rfl fun c₀ cs hu=>?_;apply wpS_seq;apply APk;simp[wpOpsS,go_sem,recoverD,hu,Tryz.ntmps235,Exit.thenS];refine APq ?_;rw[Rf];go_wp2_with fail;cases c₀;refine⟨rfl,.returning,?_,_,ADi,rfl,rfl,rfl⟩;simp_all
theorem Px (g at_ most:Nat) (s:ByteArray) (c:Int) (older:List PanicEntry) (p:Nat) (v:Yu) (W:J) (h:Rd W g s at_ most) (hv:AJ W p #[v] 129):
  CallsD Yw 235 #[U g,U p] (.panicking ({v:=Yo 36 (Yg Yj c),recovered:=Yz}::older)) W fun e u' w'=>
   e=Yi (Ym #[])∧u'=.panicking ({v:=Yo 36 (Yg Yj c),recovered:=Yy}::older)∧w'=(W.setCell p (Yo 286 (U W.heap.size))).alloc (Yk #[Yg Yj c,Yg Yj at_] 348):=by have HY:=nC;have he:=hv.cell 0 rfl;have hz:=hv.frozen 0;have hp:=hv.lt;clear hv;refine APS Tryz.func235 rfl fun c₀ cs hu=>?_;apply wpS_seq;apply APk;simp[wpOpsS,go_sem,recoverD,hu,Tryz.ntmps235,Exit.thenS];refine APq ?_;rw[Rf];go_wp2_with fail;refine (kY g at_ most s W h).mono ?_;rintro e w1 ⟨rfl,rfl⟩;go_wp2_with fail;exact⟨rfl,_,rfl,_,ADi,rfl,rfl,rfl⟩
end Go.Proofs.YtiapejgiinidhaaGreatDoor
