import Derived.Test.YtiapejgiinidhaaGreatDoorMM05
set_option linter.all false
set_option maxRecDepth 100000
set_option maxHeartbeats 40000000
namespace Go.Proofs.YtiapejgiinidhaaGreatDoor
open Value renaming int→Yg,pointer→U,string→O,func→G,slice→Yh,bool→Yl,tuple→Ym,nilIface→Yn,iface→Yo,nilFunc→Yp,agg→Yr
open IntKind renaming u64→V,i64→Yj,u8→Yq
open Obj renaming cells→Yk
open Ending renaming returned→Yi
open Fn renaming func→M
open Go renaming World→J,Value→Yu,Calls→Yv,undef→Yx
open Go.Proofs.Tryz renaming prog→Yw
open Option renaming some→Z,none→Y
open Bool renaming true→Yy,false→Yz
open Go Go.RowKit Go.Extern.Stop Go.Stop Go.Extern
theorem tM (v:Yu) (w:J):(Extern.ReflectliteType.typeOf #[Yo 36 v]).run Yw w=.ok (Yo 393 (Yr #[.pointer (Z ⟨7,36,Y⟩)])) w:=by kernel_rfl
theorem Vs (w:J):(callFunc 384 #[Yr #[.pointer (Z ⟨7,36,Y⟩)]]).run Yw w=.ok (.value (Yl Yy)) w:=by rw[@ANN Yw 384 _ (Extern.ReflectliteType.method fun t=>do Rtype.noPackHeld "Comparable" t;pure (Yl (←typeInfo t).comparable)) Tryz.func384 NA NA NA NA];kernel_rfl
theorem Mg (v:Yu) (w:J):(Go.method 555 393 v "Comparable").run Yw w=.ok (384,v) w:=by kernel_rfl
theorem ABS (v:Yu) (xT:TypeId) (w:J):(Instr.typeAssert (Yo 36 v) xT 395 Yy).run Yw w=.ok (Ym #[Yn,Yl Yz]) w:=run_typeAssert_lacksB Tryz.underlying395 NA NA v xT w
theorem lG (v:Yu) (xT:TypeId) (w:J):(Instr.typeAssert (Yo 36 v) xT 398 Yy).run Yw w=.ok (Ym #[Yn,Yl Yz]) w:=run_typeAssert_lacksB Tryz.underlying398 NA NA v xT w
theorem eZ (v:Yu) (xT:TypeId) (w:J):(Instr.typeAssert (Yo 36 v) xT 399 Yy).run Yw w=.ok (Ym #[Yn,Yl Yz]) w:=run_typeAssert_lacksB Tryz.underlying399 NA NA v xT w
theorem ABR (v:Yu) (xT:TypeId) (w:J):(Instr.typeAssert (Yo 286 v) xT 395 Yy).run Yw w=.ok (Ym #[Yn,Yl Yz]) w:=run_typeAssert_lacksB Tryz.underlying395 NA NA v xT w
theorem fV (v:Yu) (xT:TypeId) (w:J):(Instr.typeAssert (Yo 286 v) xT 398 Yy).run Yw w=.ok (Ym #[Yo 286 v,Yl Yy]) w:=run_typeAssert_hasB Tryz.underlying398 NA v xT w
theorem Vj (v:Yu) (w:J):(Go.method 555 286 v "Unwrap").run Yw w=.ok (376,v) w:=by kernel_rfl
theorem ACI (w:J):(binOp .eql 129 (Yo 36 (Yg Yj 5)) (Yo 36 (Yg Yj 1))).run Yw w=.ok (Yl Yz) w:=by kernel_rfl
theorem tL (p:Nat) (at_:Int) (w:J) (h:AJ w p #[Yg Yj 5,Yg Yj at_] 348):
  Yv Yw 214 #[Yo 286 (U p),Yo 36 (Yg Yj 1)] w fun e w'=>e=Yi (Yl Yz)∧w'=w:=by have h8:= @ANN Yw 293 _ Extern.ReflectliteType.typeOf Tryz.func293 NA NA NA NA;have tT:=tM;have cT:=Vs;have mR:=Mg;have nE:=ABS;have uE:=lG;have vE:=eZ;have nW:=ABR;have uW:=fV;have mU:=Vj;have q51:=ACI;have c0:=h.cell 0 rfl;clear h;have hty:=run_eql_iface_types (P:=Yw) 286 36 (U p) (Yg Yj 1) Tryz.underlying129 ND w;go_in;go_wp2;refine AN9 2 ?_;rw[rounds_succ];go_wp2;rw[rounds_succ];exact ALw
theorem oC (t:Addr) (w:J):(ReflectliteValue.unpack (Yo 289 (.pointer (Z t)))).run Yw w
  =.ok (Yr #[.pointer (Z ⟨7,289,Y⟩),U w.heap.size,Yg V 150]) (w.alloc (Yk #[.pointer (Z t)] 289)):=by kernel_rfl
theorem AAW (a:Addr) (w:J):(ReflectliteValue.methodAny (ReflectliteValue.valueError "reflectlite.Value.Type" 0) (fun t _ _ _=>ReflectliteType.toType t) #[Yr #[.pointer (Z ⟨7,289,Y⟩),.pointer (Z a),Yg V 150]]).run Yw w
  =.ok (Yo 393 (Yr #[.pointer (Z ⟨7,289,Y⟩)])) w:=by kernel_rfl
theorem WI (h:Yu) (w:J):(Go.method 555 393 (Yr #[h]) "Kind").run Yw w=.ok (369,h) w:=by kernel_rfl
theorem yA (w:J):((ReflectliteType.abiMethod fun t=>(fun a:Nat=>Value.int IntKind.u8 (a:Int)) <$>Rtype.kind t) #[.pointer (Z ⟨7,289,Y⟩)]).run Yw w=.ok (Yg Yq 22) w:=by kernel_rfl
theorem yB (w:J):((ReflectliteType.abiMethod fun t=>(fun a:Nat=>Value.int IntKind.u8 (a:Int)) <$>Rtype.kind t) #[.pointer (Z ⟨7,286,Y⟩)]).run Yw w=.ok (Yg Yq 22) w:=by kernel_rfl
theorem rlm (z:Sem Yu) (f:TypeId→Addr→Nat→Nat→Sem Yu) (v:Yu):
  ReflectliteValue.method z f #[v]=(do match ←ReflectliteValue.parts v with|none=>z|some (t,a,fl)=>f t a fl (fl%32)):=rfl
theorem bJ (a:Addr) (w:J):(ReflectliteValue.parts (Yr #[.pointer (Z ⟨7,289,Y⟩),.pointer (Z a),Yg V 150])).run Yw w=.ok (Z (289,a,150)) w:=by kernel_rfl
theorem yC (a p:Addr) (W:J) (ha:W.cell? a=Z (.pointer (Z p))):
  (ReflectliteValue.method (ReflectliteValue.valueError "reflectlite.Value.IsNil" 0) ReflectliteValue.isNil #[Yr #[.pointer (Z ⟨7,289,Y⟩),.pointer (Z a),Yg V 150]]).run Yw W=.ok (Yl Yz) W:=by rw[rlm];simp only[APD,bJ,Result.andThen];simp[ReflectliteValue.isNil,loadVar,isAgg,underlying,Tryz.underlying289,ha,Result.andThen]
theorem WJ (h:Yu) (w:J):(Go.method 555 393 (Yr #[h]) "Elem").run Yw w=.ok (385,Yr #[h]) w:=by kernel_rfl
theorem Mr (h:Yu) (w:J):(Go.method 555 393 (Yr #[h]) "Implements").run Yw w=.ok (386,Yr #[h]) w:=by kernel_rfl
theorem Kx (h:Yu) (w:J):(Go.method 555 393 (Yr #[h]) "AssignableTo").run Yw w=.ok (383,Yr #[h]) w:=by kernel_rfl
theorem yE (w:J):(ReflectliteType.method ReflectliteType.elem #[Yr #[.pointer (Z ⟨7,289,Y⟩)]]).run Yw w=.ok (Yo 393 (Yr #[.pointer (Z ⟨7,286,Y⟩)])) w:=by kernel_rfl
theorem WM (w:J):(ReflectliteType.relation "Implements" ReflectliteType.implements_ #[Yr #[.pointer (Z ⟨7,286,Y⟩)],Yo 393 (Yr #[.pointer (Z ⟨7,129,Y⟩)])]).run Yw w=.ok (Yl Yy) w:=by kernel_rfl
theorem uX (v:Yu) (w:J):(ReflectliteType.typeOf #[Yo 286 v]).run Yw w=.ok (Yo 393 (Yr #[.pointer (Z ⟨7,286,Y⟩)])) w:=by kernel_rfl
theorem WN (w:J):(ReflectliteType.relation "AssignableTo" ReflectliteType.assignableTo #[Yr #[.pointer (Z ⟨7,286,Y⟩)],Yo 393 (Yr #[.pointer (Z ⟨7,286,Y⟩)])]).run Yw w=.ok (Yl Yy) w:=by kernel_rfl
theorem gX (e:Addr) (w:J):(ReflectliteValue.unpack (Yo 286 (.pointer (Z e)))).run Yw w
  =.ok (Yr #[.pointer (Z ⟨7,286,Y⟩),U w.heap.size,Yg V 150]) (w.alloc (Yk #[.pointer (Z e)] 286)):=by kernel_rfl
theorem uZ (w:J):(Rtype.elem? 289).run Yw w=.ok (Z 286) w:=by kernel_rfl
theorem ACO (p:Addr) (w:J):(ReflectliteValue.mk 286 p ReflectliteValue.flagAddr).run Yw w=.ok (Yr #[.pointer (Z ⟨7,286,Y⟩),.pointer (Z p),Yg V 406]) w:=by kernel_rfl
theorem yD (a p:Addr) (W:J) (ha:W.cell? a=Z (.pointer (Z p))):
  (ReflectliteValue.method (ReflectliteValue.valueError "reflectlite.Value.Elem" 0) ReflectliteValue.elem #[Yr #[.pointer (Z ⟨7,289,Y⟩),.pointer (Z a),Yg V 150]]).run Yw W
   =.ok (Yr #[.pointer (Z ⟨7,286,Y⟩),.pointer (Z p),Yg V 406]) W:=by rw[rlm];simp only[APD,bJ,Result.andThen];simp[ReflectliteValue.elem,loadVar,isAgg,underlying,Tryz.underlying289,ha,Result.andThen,uZ,ACO]
theorem rls (v x:Yu):ReflectliteValue.set #[v,x]=(do
  let (Z (dst,a,fl),Z (src,b,_)):=(←ReflectliteValue.parts v,←ReflectliteValue.parts x)
   |unsupported (.noEntry "extern/(internal/reflectlite.Value).Set.zeroValue")
  if fl/ReflectliteValue.flagAddr%2==0 then unsupported (.noEntry "extern/(internal/reflectlite.Value).Set.unaddressable")
  let val ←loadVar src b
  if ←Rtype.directlyAssignable dst src then storeVar dst a val
  else if ←Rtype.implements dst src then
   if (←Rtype.kind src)==20 then
    match val with
    |.nilIface=>unsupported (.noEntry "extern/reflectlite: a nil value of one interface type handed on as a value of another")
    |_=>storeVar dst a val
   else storeVar dst a (Yo src val)
  else panicString ("reflectlite.Set: value of type "++(←Rtype.spelt src)++" is not assignable to type "++(←Rtype.spelt dst))
  pure (Ym #[])):=rfl
theorem oD (a:Addr) (w:J):(ReflectliteValue.parts (Yr #[.pointer (Z ⟨7,286,Y⟩),.pointer (Z a),Yg V 406])).run Yw w=.ok (Z (286,a,406)) w:=by kernel_rfl
theorem uY (a:Addr) (w:J):(ReflectliteValue.parts (Yr #[.pointer (Z ⟨7,286,Y⟩),.pointer (Z a),Yg V 150])).run Yw w=.ok (Z (286,a,150)) w:=by kernel_rfl
theorem ue (w:J):(Rtype.directlyAssignable 286 286).run Yw w=.ok Yy w:=by kernel_rfl
theorem ABo (ta b e:Addr) (old:Yu) (W:J) (hb:W.cell? b=Z (.pointer (Z e))) (ht:W.cell? ta=Z old) (hf:W.frozen? ta=Yz):
  (ReflectliteValue.set #[Yr #[.pointer (Z ⟨7,286,Y⟩),.pointer (Z ta),Yg V 406],Yr #[.pointer (Z ⟨7,286,Y⟩),.pointer (Z b),Yg V 150]]).run Yw W
   =.ok (Ym #[]) (W.setCell ta (.pointer (Z e))):=by rw[rls];simp only[APD,oD,uY,Result.andThen];simp[ReflectliteValue.flagAddr,loadVar,isAgg,underlying,Tryz.underlying286,hb,Result.andThen,ue,storeVar,Value.cells,storeCells,Addr.add];rw[APr Yw W ta _ _ PE];simp[ht,hf]
def asW (w:J) (t e:Addr):J:=((((w.alloc (Yk #[.pointer (Z t)] 289)).alloc (Yk #[.pointer (Z ⟨7,289,Y⟩),U w.heap.size,Yg V 150] 357)).alloc (Yk #[.pointer (Z ⟨7,289,Y⟩),U w.heap.size,Yg V 150] 357)).alloc (Yk #[.pointer (Z e)] 286)).setCell t (.pointer (Z e))
theorem AAU (e t:Addr) (old:Yu) (w:J) (hg:w.cell? (3:Nat)=Z (Yo 393 (Yr #[.pointer (Z ⟨7,129,Y⟩)]))) (ht0:w.cell? t=Z old) (hf0:w.frozen? t=Yz):
  Yv Yw 215 #[Yo 286 (.pointer (Z e)),Yo 289 (.pointer (Z t))] w fun ev w'=>ev=Yi (Yl Yy)∧w'=asW w t e:=by
 have h6:= @ANN Yw 295 _ (fun args=>ReflectliteValue.unpack (args.getD 0 (Ym #[]))) Tryz.func295 NA NA NA NA;have h7:= @ANN Yw 296 _ (ReflectliteValue.methodAny (ReflectliteValue.valueError "reflectlite.Value.Type" 0) (fun t _ _ _=>ReflectliteType.toType t)) Tryz.func296 NA NA NA NA;have h8:= @ANN Yw 297 _ (ReflectliteValue.method (ReflectliteValue.valueError "reflectlite.Value.IsNil" 0) ReflectliteValue.isNil) Tryz.func297 NA NA NA NA;have h27:= @ANN Yw 369 _ (ReflectliteType.abiMethod fun t=>do pure (Yg Yq (←Rtype.kind t))) Tryz.func369 NA NA NA NA;have h37:= @ANN Yw 385 _ (ReflectliteType.method ReflectliteType.elem) Tryz.func385 NA NA NA NA;have h38:= @ANN Yw 386 _ (ReflectliteType.relation "Implements" ReflectliteType.implements_) Tryz.func386 NA NA NA NA;have h10:= @ANN Yw 293 _ ReflectliteType.typeOf Tryz.func293 NA NA NA NA;have h35:= @ANN Yw 383 _ (ReflectliteType.relation "AssignableTo" ReflectliteType.assignableTo) Tryz.func383 NA NA NA NA;have h11:= @ANN Yw 328 _ (ReflectliteValue.method (ReflectliteValue.valueError "reflectlite.Value.Elem" 0) ReflectliteValue.elem) Tryz.func328 NA NA NA NA;have h12:= @ANN Yw 329 _ ReflectliteValue.set Tryz.func329 NA NA NA NA;have tO:=uX;have mA:=Kx;have a25:=WN;have v25:=gX;have f6:=oC;have f7:=AAW;have mK:=WI;have mE:=WJ;have mI:=Mr;have k27:=yA;have k25:=yB;have e27:=yE;have i25:=WM;have n8:=yC ⟨w.heap.size,0,Y⟩ t ((w.alloc (Yk #[.pointer (Z t)] 289)).alloc (Yk #[.pointer (Z ⟨7,289,Y⟩),U w.heap.size,Yg V 150] 357)) NC;(have hlt:3<w.heap.size:=by rcases AM7 3 w.heap.size with h|h;(exact h);simp[World.cell?,AMz h] at hg);(have hg2:((w.alloc (Yk #[.pointer (Z t)] 289)).alloc (Yk #[.pointer (Z ⟨7,289,Y⟩),U w.heap.size,Yg V 150] 357)).cell? (3:Nat)=Z (Yo 393 (Yr #[.pointer (Z ⟨7,129,Y⟩)])):=by rw[ANx _ _ ⟨3,0,Y⟩ NG,ANx _ _ ⟨3,0,Y⟩ hlt];exact hg);(have htl:t.block<w.heap.size:=by rcases AM7 t.block w.heap.size with h|h;(exact h);simp[World.cell?,AMz h] at ht0);have el:=yD ⟨w.heap.size,0,Y⟩ t (((w.alloc (Yk #[.pointer (Z t)] 289)).alloc (Yk #[.pointer (Z ⟨7,289,Y⟩),U w.heap.size,Yg V 150] 357)).alloc (Yk #[.pointer (Z ⟨7,289,Y⟩),U w.heap.size,Yg V 150] 357)) (by rw[ANx _ _ ⟨w.heap.size,0,Y⟩ NG];simp)
 have st:=ABo t ⟨w.heap.size+1+1+1,0,Y⟩ e old ((((w.alloc (Yk #[.pointer (Z t)] 289)).alloc (Yk #[.pointer (Z ⟨7,289,Y⟩),U w.heap.size,Yg V 150] 357)).alloc (Yk #[.pointer (Z ⟨7,289,Y⟩),U w.heap.size,Yg V 150] 357)).alloc (Yk #[.pointer (Z e)] 286))
  (by rw[World.cell?_alloc_at _ _ _ _ NC];rfl)
  (by rw[ANx _ _ t NG,ANx _ _ t NG,ANx _ _ t NG,ANx _ _ t htl];exact ht0)
  (by rw[AOa _ _ t NG,AOa _ _ t NG,AOa _ _ t NG,AOa _ _ t (Nat.ne_of_lt htl)];exact hf0)
 go_in;go_wp2;refine AN9 1 ?_;rw[rounds_succ];exact ALw
theorem AAV (w:J) (t e:Addr) {L:List Nat} (h:t.block∈L∨w.heap.size≤t.block):But L w (asW w t e):=by unfold asW;exact (((((APu L w).alloc _).alloc _).alloc _).alloc _).setCell h _
def KH (W:J):Prop:=W.cell? (3:Nat)=Z (Yo 393 (Yr #[.pointer (Z ⟨7,129,Y⟩)]))
theorem KH.but {W W':J} {L:List Nat} (h:KH W) (hb:But L W W') (hn:3∉L):KH W':=by have hlt:3<W.heap.size:=AIM;exact (AMg (hb.block _ hlt hn)).trans h
theorem AAN (g at_ most:Nat) (S:List UInt8) (W:J) (h:Rd W g (AB S) at_ most) (hat:at_≤S.length) (hn:S.drop at_=[]):
  Yv Yw 155 #[U g] W fun e w'=>e=Yi Yn∧But [] W w':=by have HL:=sq (xD g at_ most S W h hat hn);clear h hn;go_in;go_wp2_with fail;refine HL.o.mono ?_;rintro e w1 ⟨rfl,hb1⟩;have B1:=sq (hb1.alloc (Yk #[.pointer Y] 286));clear hb1;go_wp2_with fail;refine (AAA _ _).mono ?_;rintro e w2 ⟨rfl,rfl⟩;go_wp2_with fail;refine (AAT _ _).mono ?_;rintro e w3 ⟨rfl,rfl⟩;exact AID
theorem xY (g at_ most:Nat) (S:List UInt8) (W:J) (hE:KH W) (h:Rd W g (AB S) at_ most) (hat:at_≤S.length) (b:UInt8) (r:List UInt8) (hn:S.drop at_=b::r):
  Yv Yw 155 #[U g] W fun e w'=>(∃p,e=Yi (Yo 286 (U (p:Nat))))∧But [] W w':=by have HL:=sq (sV g at_ most S W h hat b r hn);have HE:=sq hE;clear h hn hE;go_in;go_wp2_with fail;refine HL.o.mono ?_;rintro e w1 ⟨p,rfl,hp,hb1⟩;have B1:=sq (hb1.alloc (Yk #[.pointer Y] 286));have F1:=sq (hp.alloc (Yk #[.pointer Y] 286));have T1:=sq (APw w1 #[.pointer Y] 286);have HZ:Shut (W.heap.size≤w1.heap.size):=⟨hb1.size⟩;clear hb1 hp;go_upto_region 3 with fail;generalize w1.alloc (Yk #[.pointer Y] 286)=w2 at*;generalize w1.heap.size=t at*;go_wp2_with fail;refine (tL p at_ w2 F1.o).mono ?_;rintro e w3 ⟨rfl,rfl⟩;go_wp2_with fail;refine (AAU ⟨p,0,Y⟩ ⟨t,0,Y⟩ (.pointer Y) w3 (HE.o.but B1.o NC) (T1.o.cell 0 rfl) (T1.o.frozen 0)).mono ?_;rintro e w4 ⟨rfl,hw⟩;have B4:=sq (B1.o.trans2 (AAV w3 ⟨t,0,Y⟩ ⟨p,0,Y⟩ (L:=[t]) (Or.inl NC)) (by have:=HZ.o;simp;omega));rw[←hw] at B4;clear hw;go_wp2_with fail;go_ret;exact⟨⟨p,rfl⟩,B4.o⟩
open Go Go.RowKit
theorem pU (v:Yu) (W:J):(Instr.typeAssert (Yo 207 v) 20 207 Yy).run Yw W=.ok (Ym #[v,Yl Yy]) W:=by kernel_rfl
theorem Ru (r p x:Yu):#[r,p]++((Array.replicate 18 Yx).setIfInBounds 4 x).setIfInBounds 0 x=#[r,p,x,Yx,Yx,Yx,x,Yx,Yx,Yx,Yx,Yx,Yx,Yx,Yx,Yx,Yx,Yx,Yx,Yx]:=by apply Array.ext';simp[List.replicate]
theorem iH {a b c d e f:Yu} (cs:Array Yu) (h:cs.size=6):(((((cs.setIfInBounds 0 a).setIfInBounds 1 b).setIfInBounds 2 c).setIfInBounds 3 d).setIfInBounds 4 e).setIfInBounds 5 f=#[a,b,c,d,e,f]:=by obtain⟨l⟩:=cs;match l,h with|[_,_,_,_,_,_],_=>rfl
def ABs:List UInt8→Yu→Prop
 |[],v=>v=Yn
 |_::_,v=>∃p,v=Yo 286 (U (p:Nat))
theorem KH.lt {W:J} (h:KH W):3<W.heap.size:=AIM
section
variable {P:Program} {ops:Array Oper} {Q:Exit→Act→J→Prop} {md:Region.Mode} {B:List Nat}
theorem Uo {i:Nat} {o:Oper} {fuel:Nat} {listed:Array Bool} {a:Act} {w:J} {f:J→J} (hi:ops[i]?=Z o)
  (hr:Region.ready md ops listed=[i]) (hB:B.contains i=Yy) (hw:Region.wanted o (yielded ops a.tmps)=Yy)
  (h:∀w1,Later w w1→(execOp a.eval o).run P w1=.ok .skip (f w1))
  (hk:∀w1,Later w w1→Bf P md ops Q B fuel (listed.setIfInBounds i Yy) (a.put o.dst Yx) (f w1)):Bf P md ops Q B (fuel+1) listed a w:=by refine DF hr fun w1 hl=>?_;exact AGI
end
section
variable {P:Program} {ops:Array Oper} {Q:Exit→Act→J→Prop} {md:Region.Mode} {B:List Nat}
theorem JT {i:Nat} {o:Oper} {fuel:Nat} {listed:Array Bool} {a:Act} {w:J} {v:Yu} (hi:ops[i]?=Z o)
  (hr:Region.ready md ops listed=[i]) (hw:Region.wanted o (yielded ops a.tmps)=Yy)
  (h:∀w1,Later w w1→(execOp a.eval o).run P w1=.ok (.value v) w1)
  (hk:∀w1,Later w w1→Bf P md ops Q B fuel (listed.setIfInBounds i Yy) (a.put o.dst v) w1):Bf P md ops Q B (fuel+1) listed a w:=by refine DF hr fun w1 hl=>?_;unfold Go.wpOp;simp only[hi,hw,if_true,Oper.wp,h w1 hl,Oper.upon];exact .inl ⟨fun _=>AP0 _,hk w1 hl⟩
end
theorem KU {a W:J} {xb:Nat} {v0 v1 v2 v3 v4 v5:Yu} (h:But [] a W) (hm:a.heap.size≤xb):But [] a ((((((W.setCell xb v0).setCell ⟨xb,1,Y⟩ v1).setCell ⟨xb,2,Y⟩ v2).setCell ⟨xb,3,Y⟩ v3).setCell ⟨xb,4,Y⟩ v4).setCell ⟨xb,5,Y⟩ v5):=
 (((((h.setCell (p:=xb) (Or.inr hm) _).setCell (p:=⟨xb,1,Y⟩) (Or.inr hm) _).setCell (p:=⟨xb,2,Y⟩) (Or.inr hm) _).setCell (p:=⟨xb,3,Y⟩) (Or.inr hm) _).setCell (p:=⟨xb,4,Y⟩) (Or.inr hm) _).setCell (p:=⟨xb,5,Y⟩) (Or.inr hm) _
def Same (lo hi:Nat) (cs cs':Array Yu):Prop:=∀k,(k<lo∨hi≤k)→cs'[k]?=cs[k]?
theorem Same.refl (lo hi:Nat) (cs:Array Yu):Same lo hi cs cs:=fun _ _=>rfl
theorem Same.trans {lo hi:Nat} {a b c:Array Yu} (h:Same lo hi a b) (h':Same lo hi b c):Same lo hi a c:=fun k hk=>(h' k hk).trans (h k hk)
theorem Same.mono {lo hi lo' hi':Nat} {a b:Array Yu} (h:Same lo hi a b) (h1:lo'≤lo) (h2:hi≤hi'):Same lo' hi' a b:=fun k hk=>h k KA
theorem Same.set (cs:Array Yu) (k:Nat) (v:Yu):Same k (k+1) cs (cs.setIfInBounds k v):=fun j hj=>by
 rw[AM0,AMu KA]
def AQB:=@Same.set
section
variable {B gR g gx:Nat} {S:List UInt8} {W:J} {tx:TypeId}
theorem OW {cs:Array Yu} {k:Nat} {old:Yu} (h:cs[k]?=Z old) (v:Yu):(cs.setIfInBounds k v)[k]?=Z v:=by have hlt:=(AMm.1 h).1;rw[AM0,AMx rfl,AMx hlt]
theorem rz (n:Nat):((n:Int)==1)=(n==1):=AHq
def CK (key:List UInt8) (b1 b2 b3 b4 b5:Nat):FD:=⟨key,Yz,G (M 299) #[] #[U b1],G (M 300) #[] #[U b1,U b2,U b3],G (M 302) #[] #[U b1,U b4],G (M 303) #[] #[U b2,U b5,U b1]⟩
def Vf (key:List UInt8) (b1 b2 b3 b4 b5:Nat):FD:=⟨key,Yz,G (M 226) #[] #[U b1],G (M 227) #[] #[U b1,U b2,U b3],G (M 230) #[] #[U b1,U b4],G (M 232) #[] #[U b2,U b5,U b1]⟩
structure Bnd (g gx:Nat) (W:J) (b2 b5 m:Nat) (fn:FuncId) (tf:TypeId):Prop where
 h2:AJ W b2 #[Yg Yj m] 3
 h5:AJ W b5 #[G (M fn) #[] #[]] tf
 n1:b2≠g
 n2:b2≠gx
 n3:b5≠g
 n4:b5≠gx
 hm:m<100000
theorem Bnd.step {W':J} {b2 b5 m:Nat} {fn:FuncId} {tf:TypeId} (h:Bnd g gx W b2 b5 m fn tf) (hb:But (g::[gx]) W W'):AJ W' b2 #[Yg Yj m] 3∧AJ W' b5 #[G (M fn) #[] #[]] tf:=
 ⟨h.h2.but hb (by simp[h.n1,h.n2]),h.h5.but hb (by simp[h.n3,h.n4])⟩
end
theorem ACM {n:Nat} (h:¬n=0):((n:Int)==0)=false:=beq_false_of_ne KA
theorem Bd:¬Root 9:=by decide
theorem ABk (W:J) (n:Nat) (h:n<256):(convert 32 9 (Yh W.heap.size 1 1)).run Yw (W.alloc (Yk #[Yg Yq n] 5))=.ok (O ⟨#[UInt8.ofNat n]⟩) (W.alloc (Yk #[Yg Yq n] 5)):=by refine ANq _ 32 9 5 ⟨W.heap.size,0,Y⟩ 1 [UInt8.ofNat n] Tryz.underlying32 Tryz.underlying5 Tryz.underlying9 ?_;intro j hj;obtain rfl:j=0:=YC;have:=(APw W #[Yg Yq n] 5).cell 0 rfl;rw[show (⟨W.heap.size,0,Y⟩:Addr).add 0=⟨W.heap.size,0,Y⟩ from rfl,this];simp;omega
theorem wP (n:Nat) (W:J) (h:n<256):Yv Yw 102 #[Yg V n] W fun e w'=>e=Yi (O ⟨#[UInt8.ofNat n]⟩)∧But [] W w':=by (have hu:IntKind.u8.wrap (n:Int)=(n:Int):=by rw[APc];omega);have HB:=sq ((APu [] W).alloc (Yk #[Yg Yq n] 5));have HC:=sq (ABk W n h);clear h;go_in;go_wp2_with (rw[HC.o]);go_ret;exact⟨rfl,HB.o⟩
def Ly (W:J) (o n:Nat) (s:ByteArray):Prop:=AJ W o #[Yg V n,.string s] 78
theorem jl (t:ByteArray) (W:J):Yv Yw 66 #[.string t] W fun e w'=>e=Yi (O (if (t.toList==[128])=Yy then⟨#[]⟩ else t))∧w'=W:=by rcases ht:(t.toList==[128]) with _|_;(exact ALn);exact ALn
def JI (key:List UInt8) (must:Bool) (lb:Nat):FD:=⟨key,must,G (M 281) #[] #[U lb],G (M 283) #[] #[U lb],G (M 284) #[] #[U lb],G (M 285) #[] #[U lb]⟩
theorem SA (f:FD) (k:Bool) (fn:FuncId) (caps:Array Yu) (mf pf gf:FuncId) (mc pc gc:Array Yu) (W:J) (h:f.emp=G (M fn) #[] caps) (hm:f.may=G (M mf) #[] mc) (hp:f.put=G (M pf) #[] pc) (hg:f.get=G (M gf) #[] gc)
  (hcf:∀args W',(callFunc fn args).run Yw W'=.ok (.enter fn args) W')
  (hc:∀W',But [] W W'→Yv Yw fn caps W' fun e w'=>e=Yi (Yl k)∧But [] W' w'):
  Yv Yw 282 #[f.agg] W fun e w'=>e=Yi (Yl (!k))∧But [] W w':=by obtain⟨key,must,emp,may,put,get⟩:=f;simp only at h hm hp hg;subst h hm hp hg;simp only[FD.agg];generalize AB key=ky;have HSF:=AG3;have B0:=AIH;have HC:=sq hc;clear hc;go_in;go_wp2_with fail;refine (HC.o _ B0.o).mono ?_;rintro e w1 ⟨rfl,hb⟩;have B1:=AJr;clear hb;exact AID
theorem oI (n:Nat) (e:Nat→Bool):(!(decide (0≤firstIdx (fun i=> !(e i)) n 0)))=(List.range n).all e:=by by_cases h:∃j,j<n∧e j=Yz;(obtain⟨j,h1,h2⟩:=h;rw[ANV (Ik ⟨j,KA,KA,by simp[h2]⟩)];symm;rw[Bool.not_true,List.all_eq_false];exact⟨j,ANa.2 h1,by simp[h2]⟩);(have h':∀j,j<n→e j=true:=fun j hj=>by cases he:e j;(exact absurd ⟨j,hj,he⟩ h);rfl);rw[firstIdx_none (fun j _ h2=>by simp[h' j KA])];symm;rw[show (!decide ((0:Int)≤ -1))=Yy by decide,ANd];intro j hj;exact h' j (ANa.1 hj)
section
variable {B gR g gx:Nat} {S:List UInt8} {W:J} {tx:TypeId}
theorem eY (gl lb n c:Nat) (hlb:AJ W lb #[Yh gl n c] 191) (R:Ending→J→Prop)
  (h:Yv Yw 154 #[U gR,Yh gl n c] W fun e w'=>(e=Yi (Ym #[])∨∃p,e=stopped p)∧R e w'):
  Yv Yw 285 #[U gR,U lb] W R:=by have c0:=hlb.cell 0 rfl;have HC:=sq h;clear hlb h;go_in;go_wp2_with fail;refine HC.o.mono ?_;rintro e w1 ⟨rfl|⟨p,rfl⟩,hr⟩;(·have H1:=sq hr;clear hr;go_wp2_with fail;go_end0;exact H1.o);have H1:=sq hr;clear hr;go_wp2_with fail;exact⟨rfl,H1.o⟩
end
theorem Di (a:Addr) (md:Mode) (w:J):(store a Yp md).run Yw w=stored Yw w a Yp md:=APr Yw w a _ md rfl
def VW (key:List UInt8) (b1 b2 b3 b4 b5:Nat):FD:=⟨key,Yz,G (M 239) #[] #[U b1],G (M 240) #[] #[U b1,U b2,U b3],G (M 242) #[] #[U b1,U b4],G (M 243) #[] #[U b2,U b5,U b1]⟩
def OG (SZ:Nat) (FDf:List UInt8→Nat→Nat→Nat→Nat→Nat→FD) (key:List UInt8) (tgt:Addr) (m:Nat) (fn:FuncId) (tp tf:TypeId) (v:Yu) (w:J):Prop:=
 ∃b1 b2 b3 b4 b5,v=(FDf key b1 b2 b3 b4 b5).agg∧AJ w b1 #[.pointer (Z tgt)] tp∧AJ w b2 #[Yg Yj m] 3∧AJ w b5 #[G (M fn) #[] #[]] tf∧SZ≤b1∧SZ≤b2∧SZ≤b5
theorem lT (key:List UInt8) (tgt:Addr) (m:Nat) (f1 f2 f3:FuncId) (W:J):Yv Yw 216 #[O (AB key),.pointer (Z tgt),Yg Yj m,G (M f1) #[] #[],G (M f2) #[] #[],G (M f3) #[] #[]] W fun e w'=>∃v,e=Yi v∧OG W.heap.size CK key tgt m f3 222 294 v w'∧Later W w':=by have HSF:=AG3;have HSN:=Di;have hmf:=Ch;have B0:=AHM;go_in;go_wp2_with fail;refine AMo (v:=(CK key W.heap.size (W.heap.size+1) (W.heap.size+1+1) (W.heap.size+1+1+1) (W.heap.size+1+1+1+1)).agg) AAd rfl ?_;refine⟨_,rfl,⟨W.heap.size,W.heap.size+1,W.heap.size+1+1,W.heap.size+1+1+1,W.heap.size+1+1+1+1,rfl,?_,?_,?_,KA,KA,KA⟩,?_⟩;(exact AIl);(exact AF2);(have:=APw ((((W.alloc (Yk #[.pointer (Z tgt)] 222)).alloc (Yk #[Yg Yj m] 3)).alloc (Yk #[G (M f1) #[] #[]] 291)).alloc (Yk #[G (M f2) #[] #[]] 293)) #[G (M f3) #[] #[]] 294;exact AGU);exact AHv
theorem lV (key:List UInt8) (tgt:Addr) (m:Nat) (f1 f2 f3:FuncId) (W:J):Yv Yw 158 #[O (AB key),.pointer (Z tgt),Yg Yj m,G (M f1) #[] #[],G (M f2) #[] #[],G (M f3) #[] #[]] W fun e w'=>∃v,e=Yi v∧OG W.heap.size Vf key tgt m f3 226 235 v w'∧Later W w':=by have HSF:=AG3;have HSN:=Di;have hmf:=Ch;have B0:=sq (((((APu [] W).alloc (Yk #[.pointer (Z tgt)] 226)).alloc (Yk #[Yg Yj m] 3)).alloc (Yk #[G (M f1) #[] #[]] 228)).alloc (Yk #[G (M f2) #[] #[]] 231));go_in;go_wp2_with fail;refine AMo (v:=(Vf key W.heap.size (W.heap.size+1) (W.heap.size+1+1) (W.heap.size+1+1+1) (W.heap.size+1+1+1+1)).agg) (by simp[results,Tryz.results158,go_sem,Vf,FD.agg]) rfl ?_;refine⟨_,rfl,⟨W.heap.size,W.heap.size+1,W.heap.size+1+1,W.heap.size+1+1+1,W.heap.size+1+1+1+1,rfl,?_,?_,?_,KA,KA,KA⟩,?_⟩;(exact ((((((APw W #[.pointer (Z tgt)] 226).alloc _).alloc _).alloc _).alloc _).alloc _).alloc _);(have:=(((APw (W.alloc (Yk #[.pointer (Z tgt)] 226)) #[Yg Yj m] 3).alloc (Yk #[G (M f1) #[] #[]] 228)).alloc (Yk #[G (M f2) #[] #[]] 231)).alloc (Yk #[G (M f3) #[] #[]] 235);rw[AMk] at this;exact AGk);(have:=APw ((((W.alloc (Yk #[.pointer (Z tgt)] 226)).alloc (Yk #[Yg Yj m] 3)).alloc (Yk #[G (M f1) #[] #[]] 228)).alloc (Yk #[G (M f2) #[] #[]] 231)) #[G (M f3) #[] #[]] 235;exact AGU);exact AHv
theorem lU (key:List UInt8) (tgt:Addr) (m:Nat) (f1 f2 f3:FuncId) (W:J):Yv Yw 165 #[O (AB key),.pointer (Z tgt),Yg Yj m,G (M f1) #[] #[],G (M f2) #[] #[],G (M f3) #[] #[]] W fun e w'=>∃v,e=Yi v∧OG W.heap.size VW key tgt m f3 237 244 v w'∧Later W w':=by have HSF:=AG3;have HSN:=Di;have hmf:=Ch;have B0:=sq (((((APu [] W).alloc (Yk #[.pointer (Z tgt)] 237)).alloc (Yk #[Yg Yj m] 3)).alloc (Yk #[G (M f1) #[] #[]] 241)).alloc (Yk #[G (M f2) #[] #[]] 243));go_in;go_wp2_with fail;refine AMo (v:=(VW key W.heap.size (W.heap.size+1) (W.heap.size+1+1) (W.heap.size+1+1+1) (W.heap.size+1+1+1+1)).agg) (by simp[results,Tryz.results165,go_sem,VW,FD.agg]) rfl ?_;refine⟨_,rfl,⟨W.heap.size,W.heap.size+1,W.heap.size+1+1,W.heap.size+1+1+1,W.heap.size+1+1+1+1,rfl,?_,?_,?_,KA,KA,KA⟩,?_⟩;(exact ((((((APw W #[.pointer (Z tgt)] 237).alloc _).alloc _).alloc _).alloc _).alloc _).alloc _);(have:=(((APw (W.alloc (Yk #[.pointer (Z tgt)] 237)) #[Yg Yj m] 3).alloc (Yk #[G (M f1) #[] #[]] 241)).alloc (Yk #[G (M f2) #[] #[]] 243)).alloc (Yk #[G (M f3) #[] #[]] 244);rw[AMk] at this;exact AGk);(have:=APw ((((W.alloc (Yk #[.pointer (Z tgt)] 237)).alloc (Yk #[Yg Yj m] 3)).alloc (Yk #[G (M f1) #[] #[]] 241)).alloc (Yk #[G (M f2) #[] #[]] 243)) #[G (M f3) #[] #[]] 244;exact AGU);exact AHv
theorem aq (key:List UInt8) (tgt:Addr) (m:Nat) (W:J):Yv Yw 156 #[O (AB key),.pointer (Z tgt),Yg Yj m] W fun e w'=>∃v,e=Yi v∧OG W.heap.size CK key tgt m 220 222 294 v w'∧Later W w':=by have HSF:=AG3;have HSN:=Di;obtain⟨HA,B0⟩:=AGx;go_in;go_wp2_with fail;generalize W.alloc (Yk #[O ⟨#[]⟩,Yl Yz,Yp,Yp,Yp,Yp] 220)=W0 at*;refine (lT key tgt m 217 218 220 W0).mono ?_;rintro e w1 ⟨v,rfl,⟨b1,b2,b3,b4,b5,rfl,h1,h2,h3,z1,z2,z3⟩,hl⟩;obtain⟨r,hr⟩:∃r,r=W.heap.size:=⟨_,rfl⟩;rw[←hr] at HA;have HR:=sq hr;have A1:=sq (HA.o.later hl);have M1:=sq (AMc h1 (AMc h2 (AMc h3 (AMc z1 (AMc z2 z3)))));have B1:=sq (B0.o.trans (APv hl));obtain⟨c0,c1,c2,c3,c4,c5,f0,f1,f2,f3,f4,f5,hsz,hlt⟩:=AJg;clear h1 h2 h3 z1 z2 z3 hl;rw[←hr];clear hr;simp only[CK,FD.agg];generalize hk:AB key=ky;go_wp2_with fail;refine AMo (v:=(CK key b1 b2 b3 b4 b5).agg) ?_ rfl ?_;(exact AKB);obtain⟨h1,h2,h3,z1,z2,z3⟩:=M1.o;have hb:W.heap.size≤r:=AC0;refine⟨_,rfl,⟨b1,b2,b3,b4,b5,rfl,?_,?_,?_,?_,?_,?_⟩,(KU B1.o hb).later⟩;(exact AGq);(exact AGr);(exact AGs);(omega);(omega);omega
theorem ny (f:FD) (fn:FuncId) (caps:Array Yu) (mf pf gf:FuncId) (mc pc gc:Array Yu) (W:J) (h:f.emp=G (M fn) #[] caps) (hm:f.may=G (M mf) #[] mc) (hp:f.put=G (M pf) #[] pc) (hg:f.get=G (M gf) #[] gc):
  Yv Yw 280 #[f.agg] W fun e w'=>e=Yi (Yl f.must)∧But [] W w':=by obtain⟨key,must,emp,may,put,get⟩:=f;simp only at h hm hp hg;subst h hm hp hg;simp only[FD.agg];generalize AB key=ky;have HSF:=AG3;have B0:=AIH;go_in;exact AHI
def Bo (F:List FD):Bool:=decide (0≤firstIdx (fun i=>(F.getD i fd0).must) F.length 0)
theorem RM (key:List UInt8) (F:List FD) (gl:Nat) (W:J) (hF:Em W gl F) (hn:F.length<100)
  (hfun:∀i,i<F.length→(∃fn caps,(F.getD i fd0).emp=G (M fn) #[] caps)∧(∃fn caps,(F.getD i fd0).may=G (M fn) #[] caps)∧(∃fn caps,(F.getD i fd0).put=G (M fn) #[] caps)∧∃fn caps,(F.getD i fd0).get=G (M fn) #[] caps):
  Yv Yw 198 #[O (AB key),Yh gl F.length F.length] W fun e w'=>∃v,e=Yi v∧(∃lb,v=(JI key (Bo F) lb).agg∧AJ w' lb #[Yh gl F.length F.length] 191∧W.heap.size≤lb)∧Later W w':=by
 have HSF:=AG3;have HSN:=Di;have hmf:=Ch
 have HC:Shut (∀W',But [] W W'→Yv Yw 211 #[Yh gl F.length F.length,G (M 280) #[] #[]] W' fun e w'=>e=Yi (Yl (Bo F))∧But [] W' w'):=⟨fun W' hb=>
  Li F gl F.length (fun i=>(F.getD i fd0).must) 280 W' (hF.but hb NC) (AMi _) KA (fun _ _=>rfl) (fun i W'' hi hb'=>by
   obtain⟨⟨f1,c1,h1⟩,⟨f2,c2,h2⟩,⟨f3,c3,h3⟩,⟨f4,c4,h4⟩⟩:=hfun i hi;exact ny (F.getD i fd0) f1 c1 f2 f3 f4 c2 c3 c4 W'' h1 h2 h3 h4)⟩
 have HL:=sq hn;clear hF hfun hn;generalize Bo F=q at*;generalize F.length=n at*;have S0:=sq ((APw W #[Yh gl n n] 191).alloc (Yk #[O ⟨#[]⟩,Yl Yz,Yp,Yp,Yp,Yp] 220));have R0':=APw (W.alloc (Yk #[Yh gl n n] 191)) #[O ⟨#[]⟩,Yl Yz,Yp,Yp,Yp,Yp] 220;rw[AMk] at R0';have R0:=sq R0';have B0:=sq (((APu [] W).alloc (Yk #[Yh gl n n] 191)).alloc (Yk #[O ⟨#[]⟩,Yl Yz,Yp,Yp,Yp,Yp] 220));clear R0';go_in;go_wp2_with fail;generalize (W.alloc (Yk #[Yh gl n n] 191)).alloc (Yk #[O ⟨#[]⟩,Yl Yz,Yp,Yp,Yp,Yp] 220)=W0 at*;refine (HC.o _ B0.o).mono ?_;rintro e w1 ⟨rfl,hb⟩;obtain⟨r,hr⟩:∃r,r=W.heap.size:=⟨_,rfl⟩;rw[←hr] at S0 R0;have HR:=sq hr;have S1:=sq (S0.o.but hb NC);have R1:=sq (R0.o.but hb NC);have B1:=AJr;have c0:=R1.o.cell 0 rfl;have c1:=R1.o.cell 1 rfl;have c2:=R1.o.cell 2 rfl;have c3:=R1.o.cell 3 rfl;have c4:=R1.o.cell 4 rfl;have c5:=R1.o.cell 5 rfl;have f0:=R1.o.frozen 0;have f1:=R1.o.frozen 1;have f2:=R1.o.frozen 2;have f3:=R1.o.frozen 3;have f4:=R1.o.frozen 4;have f5:=R1.o.frozen 5;rw[←hr];clear hr hb S0 R0 B0 HC;generalize hk:AB key=ky;go_wp2_with fail;refine AMo (v:=(JI key q r).agg) ?_ rfl ?_;(·simp[results,Tryz.results198,go_sem,JI,FD.agg,c0,c1,c2,c3,c4,c5,hk]);have h1:=S1.o;have hz:W.heap.size≤r+1:=AC0;refine⟨_,rfl,⟨r,rfl,?_,AC0⟩,(KU B1.o hz).later⟩;exact (((((h1.far (p:=(r+1:Nat)) NC _).far (p:=⟨r+1,1,Y⟩) NC _).far (p:=⟨r+1,2,Y⟩) NC _).far (p:=⟨r+1,3,Y⟩) NC _).far (p:=⟨r+1,4,Y⟩) NC _).far (p:=⟨r+1,5,Y⟩) NC _
theorem TN {F F':List FD} (hl:F.length=F'.length) (hm:∀i,(F.getD i fd0).must=(F'.getD i fd0).must):Bo F=Bo F':=by unfold Bo;rw[hl,show (fun i=>(F.getD i fd0).must)=fun i=>(F'.getD i fd0).must from funext hm]
def EB (p l:Nat) (y:Bool) (i:Nat) (A1:Option Addr) (n1 c1:Nat) (A2:Option Addr) (n2 c2:Nat) (r:ByteArray) (wt fi li ke:Nat):Array Yu:=
 #[Yg V p,Yg V l,Yl y,Yg V i,.slice A1 n1 c1,.slice A2 n2 c2,.string r,Yg V wt,Yg V fi,Yg V li,Yg V ke]
def wB:Array Yu:=#[Yg V 0,Yg V 0,Yl Yz,Yg V 0,.slice Y 0 0,.slice Y 0 0,O ⟨#[]⟩,Yg V 0,Yg V 0,Yg V 0,Yg V 0]
theorem DS.cases {α:Type} {B gR g:Nat} {S:List UInt8} {X:List Nat} {W:J} {o:Option (α×List UInt8)} {P:α→J→Prop} {e:Ending} {w':J} (h:DS B gR g S X W o P e w'):e=Yi (Ym #[])∨∃p,e=stopped p:=by obtain⟨_,h2⟩:=h;cases o with|none=>exact .inr h2|some p=>exact .inl h2.1
theorem DS.from {α:Type} {B gR g:Nat} {S:List UInt8} {X:List Nat} {W0 W:J} {o:Option (α×List UInt8)} {P:α→J→Prop} {e:Ending} {w':J} (h:DS B gR g S X W o P e w') (hb:But (g::X) W0 W):DS B gR g S X W0 o P e w':=⟨hb.trans h.1,h.2⟩
theorem aR:∃i,Tryz.prog.info? 70=Z i∧i.zero=Z (Yr #[Yg V 0,Yg V 0,Yl Yz,Yg V 0,.slice Y 0 0,.slice Y 0 0,O ⟨#[]⟩,Yg V 0,Yg V 0,Yg V 0,Yg V 0])∧i.size=11∧i.bytes=128:=by have h:=AG1;exact AGE
theorem Rw (r p:Yu) (W:J):
  CallsD Yw 152 #[r,p] .returning W fun e u' w'=>e=Yi (Ym #[])∧u'=.returning∧w'=W:=by refine APS Tryz.func152 rfl fun c₀ cs hu=>?_;apply wpS_seq;apply APk;simp[wpOpsS,go_sem,recoverD,hu,Tryz.ntmps152,Exit.thenS];refine APq ?_;rw[Ru];go_wp2_with fail;cases c₀;refine⟨rfl,.returning,?_,_,ADl,rfl,rfl,rfl⟩;simp_all
def DR:Array Yu:=#[O ⟨#[]⟩,Yg V 0,.slice Y 0 0,.slice Y 0 0,.slice Y 0 0,.slice Y 0 0]
theorem QK (g p:Nat) (cs0:Array Yu) (he:cs0.size=6) (older:List PanicEntry) (f:Nat) (W:J) (h:AJ W g cs0 27) (hv:AJ W p #[Yn] 129) (hne:g≠p):
  CallsD Yw 152 #[U g,U p] (.panicking ({v:=Yo 207 (Yr #[Yo 286 (U f)]),recovered:=Yz}::older)) W fun e u' w'=>
   e=Yi (Ym #[])∧u'=.panicking ({v:=Yo 207 (Yr #[Yo 286 (U f)]),recovered:=Yy}::older)∧AJ w' g DR 27∧AJ w' p #[Yo 286 (U f)] 129∧But [g,p] W w':=by have HY:=pU;have HV:=sq hv;have HG:=sq h;have hgl:=h.lt;have hpl:=hv.lt;clear hv h;refine APS Tryz.func152 rfl fun c₀ cs hu=>?_;apply wpS_seq;apply APk;simp[wpOpsS,go_sem,recoverD,hu,Tryz.ntmps152,Exit.thenS];refine APq ?_;rw[Ru];have B2:=sq (((APu [] W).alloc (Yk #[Yo 286 (U f)] 207)).alloc (.cells DR 27));have S1:=sq ((APw W #[Yo 286 (U f)] 207).alloc (.cells DR 27));have M1:=sq (APw (W.alloc (Yk #[Yo 286 (U f)] 207)) DR 27);rw[DR] at B2 S1 M1;have G1:=sq (HG.o.but B2.o NC);have P1:=sq (HV.o.but B2.o NC);go_upto_region 6 with fail;generalize (W.alloc (Yk #[Yo 286 (U f)] 207)).alloc (Yk #[O ⟨#[]⟩,Yg V 0,.slice Y 0 0,.slice Y 0 0,.slice Y 0 0,.slice Y 0 0] 27)=W2 at*;rw[AMk] at M1;generalize hs:W.heap.size=sb at*;have s0:=S1.o.cell 0 rfl;have m0:=M1.o.cell 0 rfl;have m1:=M1.o.cell 1 rfl;have m2:=M1.o.cell 2 rfl;have m3:=M1.o.cell 3 rfl;have m4:=M1.o.cell 4 rfl;have m5:=M1.o.cell 5 rfl;have f0:=G1.o.frozen 0;have f1:=G1.o.frozen 1;have f2:=G1.o.frozen 2;have f3:=G1.o.frozen 3;have f4:=G1.o.frozen 4;have f5:=G1.o.frozen 5;have q0:=P1.o.frozen 0;have p0:=P1.o.cell 0 rfl;obtain⟨v0,hv0⟩:∃v,cs0[0]?=Z v:=⟨cs0[0],ADs⟩;obtain⟨v1,hv1⟩:∃v,cs0[1]?=Z v:=⟨cs0[1],ADs⟩;obtain⟨v2,hv2⟩:∃v,cs0[2]?=Z v:=⟨cs0[2],ADs⟩;obtain⟨v3,hv3⟩:∃v,cs0[3]?=Z v:=⟨cs0[3],ADs⟩;obtain⟨v4,hv4⟩:∃v,cs0[4]?=Z v:=⟨cs0[4],ADs⟩;obtain⟨v5,hv5⟩:∃v,cs0[5]?=Z v:=⟨cs0[5],ADs⟩;have g0:=G1.o.cell 0 hv0;have g1:=G1.o.cell 1 hv1;have g2:=G1.o.cell 2 hv2;have g3:=G1.o.cell 3 hv3;have g4:=G1.o.cell 4 hv4;have g5:=G1.o.cell 5 hv5;have hgs:g≠sb:=KA;have hgm:g≠sb+1:=KA;have hps:p≠sb:=KA;have hpm:p≠sb+1:=KA;go_region;(have GG:AJ ((((((W2.setCell g (O ⟨#[]⟩)).setCell ⟨g,1,Y⟩ (Yg V 0)).setCell ⟨g,2,Y⟩ (.slice Y 0 0)).setCell ⟨g,3,Y⟩ (.slice Y 0 0)).setCell ⟨g,4,Y⟩ (.slice Y 0 0)).setCell ⟨g,5,Y⟩ (.slice Y 0 0)) g DR 27:=by have:=(((((G1.o.set 0 (O ⟨#[]⟩)).set 1 (Yg V 0)).set 2 (.slice Y 0 0)).set 3 (.slice Y 0 0)).set 4 (.slice Y 0 0)).set 5 (.slice Y 0 0);rwa [iH cs0 he] at this);have BB:=((((((B2.o.nil (L:=[g,p])).setCell (p:=g) (Or.inl NC) (O ⟨#[]⟩)).setCell (p:=⟨g,1,Y⟩) (Or.inl NC) (Yg V 0)).setCell (p:=⟨g,2,Y⟩) (Or.inl NC) (.slice Y 0 0)).setCell (p:=⟨g,3,Y⟩) (Or.inl NC) (.slice Y 0 0)).setCell (p:=⟨g,4,Y⟩) (Or.inl NC) (.slice Y 0 0)).setCell (p:=⟨g,5,Y⟩) (Or.inl NC) (.slice Y 0 0);have PP:=((((((P1.o.far (p:=g) hne (O ⟨#[]⟩)).far (p:=⟨g,1,Y⟩) hne (Yg V 0)).far (p:=⟨g,2,Y⟩) hne (.slice Y 0 0)).far (p:=⟨g,3,Y⟩) hne (.slice Y 0 0)).far (p:=⟨g,4,Y⟩) hne (.slice Y 0 0)).far (p:=⟨g,5,Y⟩) hne (.slice Y 0 0)).set 0 (Yo 286 (U f));exact⟨rfl,_,rfl,_,ADl,rfl,rfl,(GG.far (p:=p) (AOP hne) _).drew,PP.drew,(BB.setCell (p:=p) (Or.inl NC) _).drew⟩
def Bz (r:ByteArray) (n:Nat) (A2:Option Addr) (n2 c2:Nat) (A3:Option Addr) (n3 c3:Nat) (A4:Option Addr) (n4 c4:Nat) (A5:Option Addr) (n5 c5:Nat):Array Yu:=
 #[.string r,Yg V n,.slice A2 n2 c2,.slice A3 n3 c3,.slice A4 n4 c4,.slice A5 n5 c5]
def Gd (W:J) (xb:Nat) (r:ByteArray) (n:Nat) (A2:Option Addr) (n2 c2:Nat) (A3:Option Addr) (n3 c3:Nat) (A4:Option Addr) (n4 c4:Nat) (A5:Option Addr) (n5 c5:Nat):J:=(((((W.setCell xb (.string r)).setCell ⟨xb,1,Y⟩ (Yg V n)).setCell ⟨xb,2,Y⟩ (.slice A2 n2 c2)).setCell ⟨xb,3,Y⟩ (.slice A3 n3 c3)).setCell ⟨xb,4,Y⟩ (.slice A4 n4 c4)).setCell ⟨xb,5,Y⟩ (.slice A5 n5 c5)
theorem qH (W:J) (xb:Nat) (r:ByteArray) (n:Nat) (A2:Option Addr) (n2 c2:Nat) (A3:Option Addr) (n3 c3:Nat) (A4:Option Addr) (n4 c4:Nat) (A5:Option Addr) (n5 c5:Nat) (cs:Array Yu) (h:AJ W xb cs 27) (hc:cs.size=6):AJ (Gd W xb r n A2 n2 c2 A3 n3 c3 A4 n4 c4 A5 n5 c5) xb (Bz r n A2 n2 c2 A3 n3 c3 A4 n4 c4 A5 n5 c5) 27:=by have:=(((((h.set 0 (.string r)).set 1 (Yg V n)).set 2 (.slice A2 n2 c2)).set 3 (.slice A3 n3 c3)).set 4 (.slice A4 n4 c4)).set 5 (.slice A5 n5 c5);rwa [iH cs hc] at this
theorem qF {W:J} {xb e:Nat} {r:ByteArray} {n:Nat} {A2:Option Addr} {n2 c2:Nat} {A3:Option Addr} {n3 c3:Nat} {A4:Option Addr} {n4 c4:Nat} {A5:Option Addr} {n5 c5:Nat} {cs:Array Yu} {t:TypeId} (h:AJ W e cs t) (hne:xb≠e):AJ (Gd W xb r n A2 n2 c2 A3 n3 c3 A4 n4 c4 A5 n5 c5) e cs t:=
 (((((h.far (p:=xb) hne _).far (p:=⟨xb,1,Y⟩) hne _).far (p:=⟨xb,2,Y⟩) hne _).far (p:=⟨xb,3,Y⟩) hne _).far (p:=⟨xb,4,Y⟩) hne _).far (p:=⟨xb,5,Y⟩) hne _
theorem XH {a W:J} {xb:Nat} {r:ByteArray} {n:Nat} {A2:Option Addr} {n2 c2:Nat} {A3:Option Addr} {n3 c3:Nat} {A4:Option Addr} {n4 c4:Nat} {A5:Option Addr} {n5 c5:Nat} {L:List Nat} (h:But L a W) (hm:xb∈L):But L a (Gd W xb r n A2 n2 c2 A3 n3 c3 A4 n4 c4 A5 n5 c5):=
 (((((h.setCell (p:=xb) (Or.inl hm) _).setCell (p:=⟨xb,1,Y⟩) (Or.inl hm) _).setCell (p:=⟨xb,2,Y⟩) (Or.inl hm) _).setCell (p:=⟨xb,3,Y⟩) (Or.inl hm) _).setCell (p:=⟨xb,4,Y⟩) (Or.inl hm) _).setCell (p:=⟨xb,5,Y⟩) (Or.inl hm) _
theorem aB (r:ByteArray) (n:Nat) (A2:Option Addr) (n2 c2:Nat) (A3:Option Addr) (n3 c3:Nat) (A4:Option Addr) (n4 c4:Nat) (A5:Option Addr) (n5 c5:Nat) (W:J):Yv Yw 105 #[Yr (Bz r n A2 n2 c2 A3 n3 c3 A4 n4 c4 A5 n5 c5),Yn] W fun e w'=>e=Yi (Ym #[Yr (Bz r n A2 n2 c2 A3 n3 c3 A4 n4 c4 A5 n5 c5),Yn])∧But [] W w':=by rw[Bz];have B0:=sq (((APu [] W).alloc (Yk #[.string r,Yg V n,.slice A2 n2 c2,.slice A3 n3 c3,.slice A4 n4 c4,.slice A5 n5 c5] 27)).alloc (Yk #[.string r,Yg V n,.slice A2 n2 c2,.slice A3 n3 c3,.slice A4 n4 c4,.slice A5 n5 c5] 27));go_in;go_wp2_with fail;refine AMo (v:=Ym #[Yr #[.string r,Yg V n,.slice A2 n2 c2,.slice A3 n3 c3,.slice A4 n4 c4,.slice A5 n5 c5],Yn]) ACs rfl ?_;exact⟨rfl,B0.o⟩
theorem Ve (r:ByteArray) (n:Nat) (A2:Option Addr) (n2 c2:Nat) (A3:Option Addr) (n3 c3:Nat) (A4:Option Addr) (n4 c4:Nat) (A5:Option Addr) (n5 c5:Nat) (p:Nat) (W:J):Yv Yw 105 #[Yr (Bz r n A2 n2 c2 A3 n3 c3 A4 n4 c4 A5 n5 c5),Yo 286 (U p)] W fun e w'=>e=Yi (Ym #[Yr (DR),Yo 286 (U p)])∧But [] W w':=by rw[DR,Bz];have B0:=sq ((((APu [] W).alloc (Yk #[.string r,Yg V n,.slice A2 n2 c2,.slice A3 n3 c3,.slice A4 n4 c4,.slice A5 n5 c5] 27)).alloc (Yk #[O ⟨#[]⟩,Yg V 0,.slice Y 0 0,.slice Y 0 0,.slice Y 0 0,.slice Y 0 0] 27)).alloc (Yk #[O ⟨#[]⟩,Yg V 0,.slice Y 0 0,.slice Y 0 0,.slice Y 0 0,.slice Y 0 0] 27));go_in;go_wp2_with fail;refine AMo (v:=Ym #[Yr #[O ⟨#[]⟩,Yg V 0,.slice Y 0 0,.slice Y 0 0,.slice Y 0 0,.slice Y 0 0],Yo 286 (U p)]) ACs rfl ?_;exact⟨rfl,B0.o⟩
theorem Br:¬Root 22:=by decide
end Go.Proofs.YtiapejgiinidhaaGreatDoor
