import Derived.Test.YtiapejgiinidhaaGreatDoorMM03
set_option linter.all false
set_option maxRecDepth 100000
set_option maxHeartbeats 40000000
namespace Go.Proofs.YtiapejgiinidhaaGreatDoor
open Value renaming int→Yg,pointer→U,string→O,bool→Yl,tuple→Ym,nilIface→Yn,iface→Yo,agg→Yr
open IntKind renaming u64→V,i64→Yj
open Obj renaming cells→Yk
open Ending renaming returned→Yi
open Go renaming World→J,Value→Yu,Calls→Yv,undef→Yx
open Go.Proofs.Tryz renaming prog→Yw
open Option renaming some→Z,none→Y
open Bool renaming true→Yy,false→Yz
open Go Go.RowKit
def FO (L:List FB) (most:Nat) (l:List UInt8):Option (Nat×List UInt8):=
 match Cb L l with
 |some (n,rest)=>if n≤most then Z (n,rest) else Y
 |none=>Y
def GY (L:List FB) (most:Nat) (l:List UInt8):Option (List UInt8×List UInt8):=
 match FO L most l with
 |some (n,rest)=>if n≤rest.length then Z (rest.take n,rest.drop n) else Y
 |none=>Y
theorem Hd {L:List FB} {most:Nat} {l:List UInt8} {n:Nat} {rest:List UInt8} (h:FO L most l=Z (n,rest)):Cb L l=Z (n,rest)∧n≤most:=by unfold FO at h;split at h;(rename_i n' r' e;by_cases hm:n'≤most;(rw[AMx hm] at h;cases h;exact⟨e,hm⟩);rw[AMu hm] at h;cases h);cases h
theorem UZ {L:List FB} (hs:∀k,k<L.length→(L.getD k Mj).size≤8) {l:List UInt8} {n:Nat} {rest:List UInt8} (h:Cb L l=Z (n,rest)):n<18446744073709551616:=by cases l with|nil=>simp[Cb] at h|cons b r=>rw[Cb] at h;unfold Fb at h;cases hf:L.find? (·.hit b) with|none=>rw[hf] at h;simp at h|some x=>rw[hf] at h;simp only[] at h;(have hx:x.size≤8:=by obtain⟨k,hk,e⟩:=AOT (List.mem_of_find?_eq_some hf);have:=hs k hk;rw[show L.getD k Mj=x by rw[←e];simp[List.getD,hk]] at this;exact this);(have hm:beNat (if x.size=0 then b.toNat-x.lo else 0) (r.take x.size)<18446744073709551616:=by by_cases h0:x.size=0;(rw[AMx h0,h0];have:=b.toNat_lt;simp[beNat];omega);rw[AMu h0];have h1:=bI (r.take x.size) 0 0 ND;have h2:(r.take x.size).length≤8:=ACX;have h3:256^(0+(r.take x.size).length)≤256^8:=AM5 ND KA;omega);generalize beNat (if x.size=0 then b.toNat-x.lo else 0) (r.take x.size)=m at h hm;by_cases h1:r.length<x.size;(rw[AMx h1] at h;simp at h);rw[AMu h1] at h;by_cases h2:m<x.least;(rw[AMx h2] at h;simp at h);rw[AMu h2] at h;simp only[ANo,AOH] at h;omega
theorem wZ (l:List UInt8) (n:Nat):(AB l).extract 0 n=AB (l.take n):=ALR
theorem DU {W W':J} {g at_ most:Nat} {s:ByteArray} (h:Rd W g s at_ most) (hb:But [] W W'):Rd W' g s at_ most:=APx h hb NC
theorem QN {W W':J} {gb go:Nat} {L:List FB} (h:uj W gb go L) (hg:gb<W.heap.size) (hb:But [] W W'):uj W' gb go L:=fun j hj=>by
 obtain⟨a,b,c,d⟩:=h j hj;have e:=hb.block gb hg NC;exact⟨(AMg e).trans a,(AMg e).trans b,(AMg e).trans c,(AMg e).trans d⟩
theorem Rn (g at_ most gb go c:Nat) (L:List FB) (S:List UInt8) (W:J) (h:Rd W g (AB S) at_ most) (hat:at_≤S.length) (hS:S.length<4000000000000000000) (hmost:most<1000000) (hT:uj W gb go L) (hg:gb<W.heap.size) (hL0:0<L.length) (hL:L.length≤5) (hc:L.length≤c) (hs:∀k,k<L.length→(L.getD k Mj).size≤8) (hn:FO L most (S.drop at_)=Y):
  Yv Yw 290 #[U g,.slice (Z ⟨gb,go,Y⟩) L.length c] W fun e w'=>(∃p,e=Yi (Ym #[Yg Yj 0,Yo 286 (U (p:Nat))]))∧But [] W w':=by obtain⟨b0,bp,hrd,hgs,HERE,HEAD,HB0,HP,HRD,HSS,HSZ⟩:=AEL;clear hT h b0 bp hrd hs hL0 hL hc hat hS hmost;go_enter_defers Tryz.func290,Tryz.ntmps290;go_wp2_with fail;generalize W.alloc (Yk #[Yn] 129)=W0 at*;generalize hpe':W.heap.size=pe at HP HERE HEAD hgs hg⊢;have hpw:=AGi;clear hpe';refine (HERE.o _ (APu [] W0)).mono ?_;rintro e w1 ⟨rfl,hb1⟩;go_wp2_with fail;refine (HEAD.o _ hb1).mono ?_;rintro e w2 ⟨hE,hb2⟩;clear HERE HEAD hb1;rcases ho:Cb L (S.drop at_) with _|⟨n,rest⟩;(·rw[ho] at hE;obtain⟨ce,rfl⟩:=hE;go_wp2_with fail;refine FE (r:=4) (ce:=5) Tryz.results290 _ (Yg Yj 0) g at_ most pe (AB S) _ _ rfl rfl (DU HRD.o hb2) (APx HP.o hb2 NC) fun p W' hW=>⟨⟨p,rfl⟩,?_⟩;exact AKI);rw[ho] at hE;have hE':=AJf;subst hE';clear hE;have hn64:n<18446744073709551616:=UZ HSZ.o ho;go_wp2_with fail;refine (Lj g at_ most n (AB S) (AB rest) w2 (DU HRD.o hb2) ZC hn64).mono ?_;rintro e w3 ⟨hb3,hy,hno⟩;by_cases hm:n≤most;(exfalso;rw[FO,ho] at hn;simp[hm] at hn);obtain rfl:=hno KA;have hb4:=hb2.trans hb3;go_wp2_with fail;refine FE (r:=4) (ce:=5) Tryz.results290 _ (Yg Yj 0) g at_ most pe (AB S) _ _ rfl rfl (DU HRD.o hb4) (APx HP.o hb4 NC) fun p W' hW=>⟨⟨p,rfl⟩,?_⟩;exact AKH
theorem Rm (g at_ most n gb go c:Nat) (L:List FB) (S rest:List UInt8) (W:J) (h:Rd W g (AB S) at_ most) (hat:at_≤S.length) (hS:S.length<4000000000000000000) (hmost:most<1000000) (hT:uj W gb go L) (hg:gb<W.heap.size) (hL0:0<L.length) (hL:L.length≤5) (hc:L.length≤c) (hs:∀k,k<L.length→(L.getD k Mj).size≤8) (hn:FO L most (S.drop at_)=Z (n,rest)):
  Yv Yw 290 #[U g,.slice (Z ⟨gb,go,Y⟩) L.length c] W fun e w'=>e=Yi (Ym #[Yg Yj n,Yn])∧Rd w' g (AB S) (S.length-rest.length) most∧But [g] W w':=by obtain⟨b0,bp,hrd,hgs,HERE,HEAD,HB0,HP,HRD,HSS,HSZ⟩:=AEL;clear hT h b0 bp hrd hs hL0 hL hc hat hS hmost;go_enter_defers Tryz.func290,Tryz.ntmps290;go_wp2_with fail;generalize W.alloc (Yk #[Yn] 129)=W0 at*;generalize hpe':W.heap.size=pe at HP HERE HEAD hgs hg⊢;have hpw:=AGi;clear hpe';refine (HERE.o _ (APu [] W0)).mono ?_;rintro e w1 ⟨rfl,hb1⟩;go_wp2_with fail;refine (HEAD.o _ hb1).mono ?_;rintro e w2 ⟨hE,hb2⟩;clear HERE HEAD hb1;obtain⟨ho,hm⟩:=Hd hn;rw[ho] at hE;have hE':=AJf;subst hE';obtain⟨hn64,hlen,HO⟩:=AJ0;clear hE ho hn;go_wp2_with fail;refine (Lj g at_ most n (AB S) (AB rest) w2 (DU HRD.o hb2) ZC hn64).mono ?_;rintro e w3 ⟨hb3,hy,hno⟩;obtain rfl:=hy hm;clear hy hno;obtain⟨hgt',B3,BT⟩:=AHY;clear hb2 hb3;go_upto_region 3 with fail;generalize w3.alloc (Yk #[Yg V n,O (AB rest)] 302)=W4 at*;generalize w3.heap.size=gt at*;obtain⟨RD4,BP4,t0,t1,hsz⟩:=AH3;have hSS:=HSS.o.2.1;have hmm:=HSS.o.2.2;go_wp2_with fail;refine (Mq g at_ most rest.length (AB S) W4 RD4.o ACY ACY).mono ?_;rintro e w5 ⟨rfl,hw5⟩;rw[AQ] at hw5;have hgp:g≠pe:=KA;(have hgt:g≠gt:=by have:=HP.o.lt;omega);have B5:Shut (But [g] W0 w5):=⟨Zo⟩;have R5:Shut (Rd w5 g (AB S) (S.length-rest.length) most):=⟨ADX⟩;obtain⟨P5,T5,u0,u1,p0,p1⟩:=AHG;clear hw5 T5 t0 t1;go_wp2_with fail;have B6:=AJj;have R6:Shut (Rd (w5.setCell pe Yn) g (AB S) (S.length-rest.length) most):=⟨R5.o.far (AOP hgp) _⟩;have P6:=AId;generalize w5.setCell pe Yn=w6 at*;refine AOl (f:=235) (args:=#[U g,U pe]) NC Zm ?_;refine (Jt _ _ _).mono ?_;rintro e u' w'' ⟨rfl,rfl,rfl⟩;simp[Leaves,settle,results,Tryz.results290,go_sem,P6];exact⟨R6.o,B6.o⟩
theorem TV (g at_ most gb go c:Nat) (L:List FB) (S:List UInt8) (W:J) (h:Rd W g (AB S) at_ most) (hat:at_≤S.length) (hS:S.length<4000000000000000000) (hmost:most<1000000) (hT:uj W gb go L) (hg:gb<W.heap.size) (hL0:0<L.length) (hL:L.length≤5) (hc:L.length≤c) (hs:∀k,k<L.length→(L.getD k Mj).size≤8) (hn:GY L most (S.drop at_)=Y):
  Yv Yw 291 #[U g,.slice (Z ⟨gb,go,Y⟩) L.length c] W fun e w'=>(∃p,e=Yi (Ym #[O ⟨#[]⟩,Yo 286 (U (p:Nat))]))∧But [] W w':=by obtain⟨b0,bp,hrd,hgs,HERE,HEAD,HB0,HP,HRD,HSS,HSZ⟩:=AEL;clear hT h b0 bp hrd hs hL0 hL hc hat hS hmost;go_enter_defers Tryz.func291,Tryz.ntmps291;go_wp2_with fail;generalize W.alloc (Yk #[Yn] 129)=W0 at*;generalize hpe':W.heap.size=pe at HP HERE HEAD hgs hg⊢;have hpw:=AGi;clear hpe';refine (HERE.o _ (APu [] W0)).mono ?_;rintro e w1 ⟨rfl,hb1⟩;go_wp2_with fail;refine (HEAD.o _ hb1).mono ?_;rintro e w2 ⟨hE,hb2⟩;clear HERE HEAD hb1;rcases ho:Cb L (S.drop at_) with _|⟨n,rest⟩;(·rw[ho] at hE;obtain⟨ce,rfl⟩:=hE;go_wp2_with fail;refine FE (r:=4) (ce:=5) Tryz.results291 _ (O ⟨#[]⟩) g at_ most pe (AB S) _ _ rfl rfl (DU HRD.o hb2) (APx HP.o hb2 NC) fun p W' hW=>⟨⟨p,rfl⟩,?_⟩;exact AKI);rw[ho] at hE;have hE':=AJf;subst hE';clear hE;have hn64:n<18446744073709551616:=UZ HSZ.o ho;go_wp2_with fail;refine (Lj g at_ most n (AB S) (AB rest) w2 (DU HRD.o hb2) ZC hn64).mono ?_;rintro e w3 ⟨hb3,hy,hno⟩;by_cases hm:n≤most;(·obtain rfl:=hy hm;(have hlr:¬n≤rest.length:=by intro hl;rw[GY,FO,ho] at hn;simp[hm,hl] at hn);have B3:=sq ((hb2.trans hb3).alloc (Yk #[Yg V n,O (AB rest)] 302));have hsz:((AB rest).size:Int)=(rest.length:Int):=Zl;have hcmp:((rest.length:Int)<(n:Int)):=KA;(have hlen:rest.length<4000000000000000000:=by obtain⟨k,hk⟩:=FN ho;have:=HSS.o.2.1;rw[hk];simp;omega);clear hy hno;go_wp2_with fail;refine (FU _ _).mono ?_;rintro e w4 ⟨rfl,rfl⟩;go_wp2_with fail;refine FE (r:=4) (ce:=5) Tryz.results291 _ (O ⟨#[]⟩) g at_ most pe (AB S) _ _ rfl rfl (DU HRD.o B3.o) (APx HP.o B3.o NC) fun p W' hW=>⟨⟨p,rfl⟩,?_⟩;rw[hW];exact ((HB0.o.trans B3.o).setCell (Or.inr hpw.o) _).alloc _);obtain rfl:=hno KA;have hb4:=hb2.trans hb3;go_wp2_with fail;refine FE (r:=4) (ce:=5) Tryz.results291 _ (O ⟨#[]⟩) g at_ most pe (AB S) _ _ rfl rfl (DU HRD.o hb4) (APx HP.o hb4 NC) fun p W' hW=>⟨⟨p,rfl⟩,?_⟩;exact AKH
theorem TU (g at_ most n gb go c:Nat) (L:List FB) (S rest:List UInt8) (W:J) (h:Rd W g (AB S) at_ most) (hat:at_≤S.length) (hS:S.length<4000000000000000000) (hmost:most<1000000) (hT:uj W gb go L) (hg:gb<W.heap.size) (hL0:0<L.length) (hL:L.length≤5) (hc:L.length≤c) (hs:∀k,k<L.length→(L.getD k Mj).size≤8) (hn:FO L most (S.drop at_)=Z (n,rest)∧n≤rest.length):
  Yv Yw 291 #[U g,.slice (Z ⟨gb,go,Y⟩) L.length c] W fun e w'=>e=Yi (Ym #[O (AB (rest.take n)),Yn])∧Rd w' g (AB S) (S.length-(rest.length-n)) most∧But [g] W w':=by obtain⟨b0,bp,hrd,hgs,HERE,HEAD,HB0,HP,HRD,HSS,HSZ⟩:=AEL;clear hT h b0 bp hrd hs hL0 hL hc hat hS hmost;go_enter_defers Tryz.func291,Tryz.ntmps291;go_wp2_with fail;generalize W.alloc (Yk #[Yn] 129)=W0 at*;generalize hpe':W.heap.size=pe at HP HERE HEAD hgs hg⊢;have hpw:=AGi;clear hpe';refine (HERE.o _ (APu [] W0)).mono ?_;rintro e w1 ⟨rfl,hb1⟩;go_wp2_with fail;refine (HEAD.o _ hb1).mono ?_;rintro e w2 ⟨hE,hb2⟩;clear HERE HEAD hb1;obtain⟨ho,hm⟩:=Hd hn.1;have hnl:=hn.2;rw[ho] at hE;have hE':=AJf;subst hE';obtain⟨hn64,hlen,HO⟩:=AJ0;clear hE ho hn;go_wp2_with fail;refine (Lj g at_ most n (AB S) (AB rest) w2 (DU HRD.o hb2) ZC hn64).mono ?_;rintro e w3 ⟨hb3,hy,hno⟩;obtain rfl:=hy hm;clear hy hno;obtain⟨hgt',B3,BT⟩:=AHY;clear hb2 hb3;go_upto_region 3 with fail;generalize w3.alloc (Yk #[Yg V n,O (AB rest)] 302)=W4 at*;generalize w3.heap.size=gt at*;obtain⟨RD4,BP4,t0,t1,hsz⟩:=AH3;have hSS:=HSS.o.2.1;have hmm:=HSS.o.2.2;have hcmp:¬((rest.length:Int)<(n:Int)):=KA;have hsub:(rest.length:Int)-(n:Int)=((rest.length-n:Nat):Int):=KA;go_wp2_with fail;refine (Mq g at_ most (rest.length-n) (AB S) W4 RD4.o ACY ACY).mono ?_;rintro e w5 ⟨rfl,hw5⟩;rw[AQ] at hw5;have hgp:g≠pe:=KA;(have hgt:g≠gt:=by have:=HP.o.lt;omega);have B5:Shut (But [g] W0 w5):=⟨Zo⟩;have R5:Shut (Rd w5 g (AB S) (S.length-(rest.length-n)) most):=⟨ADX⟩;obtain⟨P5,T5,u0,u1,p0,p1⟩:=AHG;clear hw5 T5 t0 t1;have hex:(AB rest).extract 0 n=AB (rest.take n):=wZ rest n;go_wp2_with fail;have B6:=AJj;have R6:Shut (Rd (w5.setCell pe Yn) g (AB S) (S.length-(rest.length-n)) most):=⟨R5.o.far (AOP hgp) _⟩;have P6:=AId;generalize w5.setCell pe Yn=w6 at*;refine AOl (f:=235) (args:=#[U g,U pe]) NC Zm ?_;refine (Jt _ _ _).mono ?_;rintro e u' w'' ⟨rfl,rfl,rfl⟩;simp[Leaves,settle,results,Tryz.results291,go_sem,P6];exact⟨R6.o,B6.o⟩
structure J4 (B:Nat) (W:J):Prop where
 nums:SI B W 0 numsL
 bins:SI B W 5 MR
 strs:SI B W 2 MB
 lists:SI B W 6 Ij
 pairs:SI B W 1 Ih
theorem J4.below {B:Nat} {W W':J} (h:J4 B W) (hb:Below B W W'):J4 B W':=
 ⟨h.nums.below hb,h.bins.below hb,h.strs.below hb,h.lists.below hb,h.pairs.below hb⟩
def AAK (v:Yu):Prop:=∃p,v=Yo 286 (U (p:Nat))
abbrev stopped (p:Nat):Ending:=.panicked [{v:=Yo 207 (Yr #[Yo 286 (U p)]),recovered:=Yz}]
def F7 {α:Type} (f:α→Yu) (z:Yu) (g most:Nat) (S:List UInt8) (W:J) (o:Option (α×List UInt8)) (e:Ending) (w':J):Prop:=
 match o with
 |some (x,rest)=>e=Yi (Ym #[f x,Yn])∧Rd w' g (AB S) (S.length-rest.length) most∧But [g] W w'
 |none=>(∃v,AAK v∧e=Yi (Ym #[z,v]))∧But [] W w'
def jX (n:Nat):Yu:=Yg V n
def OQ (n:Nat):Yu:=Yg Yj n
def I6 (l:List UInt8):Yu:=O (AB l)
theorem JU {L:List FB} {most:Nat} {l x rest:List UInt8} (h:GY L most l=Z (x,rest)):∃n r,FO L most l=Z (n,r)∧n≤r.length∧x=r.take n∧rest=r.drop n:=by unfold GY at h;split at h;(rename_i n r e;by_cases hm:n≤r.length;(rw[AMx hm] at h;cases h;exact⟨n,r,e,hm,rfl,rfl⟩);rw[AMu hm] at h;cases h);cases h
theorem sF (g at_ most:Nat) (S:List UInt8) (B:Nat) (W:J) (h:Rd W g (AB S) at_ most) (hat:at_≤S.length) (hS:S.length<4000000000000000000) (hG:J4 B W) (hB:B≤W.heap.size):
  Yv Yw 164 #[U g] W fun e w'=>F7 jX (Yg V 0) g most S W (Cb numsL (S.drop at_)) e w':=by rcases ho:Cb numsL (S.drop at_) with _|⟨n,rest⟩;(refine (sG g at_ most S B W h hat hS hG.nums hB ho).mono ?_;rintro e w' ⟨⟨p,rfl⟩,hb⟩;exact⟨⟨_,⟨p,rfl⟩,rfl⟩,hb⟩);exact (sD g at_ most n S rest B W h hat hS hG.nums hB ho).mono fun e w' hh=>hh
theorem uU (g at_ most:Nat) (S:List UInt8) (B:Nat) (W:J) (h:Rd W g (AB S) at_ most) (hat:at_≤S.length) (hS:S.length<4000000000000000000) (hmost:most<1000000) (hG:J4 B W) (hB:B≤W.heap.size):
  Yv Yw 305 #[U g] W fun e w'=>F7 I6 (O ⟨#[]⟩) g most S W (GY MR most (S.drop at_)) e w':=by obtain⟨gb,go,c,hg1,hg2,hg3,hg4,hg5⟩:=hG.bins;rcases ho:GY MR most (S.drop at_) with _|⟨x,rest⟩;(have HC:=sq (TV g at_ most gb go c MR S W h hat hS hmost hg3 KA ND ND hg2 ND ho);have hg1':W.cell? (5:Nat)=Z (.slice (Z ⟨gb,go,Y⟩) MR.length c):=hg1;exact AE5);obtain⟨n,r,h1,h2,rfl,rfl⟩:=JU ho;have HC:=sq (TU g at_ most n gb go c MR S r W h hat hS hmost hg3 KA ND ND hg2 ND ⟨h1,h2⟩);have hg1':W.cell? (5:Nat)=Z (.slice (Z ⟨gb,go,Y⟩) MR.length c):=hg1;exact AGb
theorem pT (g at_ most:Nat) (S:List UInt8) (B:Nat) (W:J) (h:Rd W g (AB S) at_ most) (hat:at_≤S.length) (hS:S.length<4000000000000000000) (hmost:most<1000000) (hG:J4 B W) (hB:B≤W.heap.size):
  Yv Yw 207 #[U g] W fun e w'=>F7 I6 (O ⟨#[]⟩) g most S W (GY MB most (S.drop at_)) e w':=by obtain⟨gb,go,c,hg1,hg2,hg3,hg4,hg5⟩:=hG.strs;rcases ho:GY MB most (S.drop at_) with _|⟨x,rest⟩;(have HC:=sq (TV g at_ most gb go c MB S W h hat hS hmost hg3 KA ND ND hg2 ND ho);have hg1':W.cell? (2:Nat)=Z (.slice (Z ⟨gb,go,Y⟩) MB.length c):=hg1;exact AE5);obtain⟨n,r,h1,h2,rfl,rfl⟩:=JU ho;have HC:=sq (TU g at_ most n gb go c MB S r W h hat hS hmost hg3 KA ND ND hg2 ND ⟨h1,h2⟩);have hg1':W.cell? (2:Nat)=Z (.slice (Z ⟨gb,go,Y⟩) MB.length c):=hg1;exact AGb
theorem lZ (g at_ most:Nat) (S:List UInt8) (B:Nat) (W:J) (h:Rd W g (AB S) at_ most) (hat:at_≤S.length) (hS:S.length<4000000000000000000) (hmost:most<1000000) (hG:J4 B W) (hB:B≤W.heap.size):
  Yv Yw 308 #[U g] W fun e w'=>F7 OQ (Yg Yj 0) g most S W (FO Ij most (S.drop at_)) e w':=by obtain⟨gb,go,c,hg1,hg2,hg3,hg4,hg5⟩:=hG.lists;rcases ho:FO Ij most (S.drop at_) with _|⟨x,rest⟩;(have HC:=sq (Rn g at_ most gb go c Ij S W h hat hS hmost hg3 KA ND ND hg2 ND ho);have hg1':W.cell? (6:Nat)=Z (.slice (Z ⟨gb,go,Y⟩) Ij.length c):=hg1;exact AE5);have HC:=sq (Rm g at_ most x gb go c Ij S rest W h hat hS hmost hg3 KA ND ND hg2 ND ho);have hg1':W.cell? (6:Nat)=Z (.slice (Z ⟨gb,go,Y⟩) Ij.length c):=hg1;exact AGl
theorem sS (g at_ most:Nat) (S:List UInt8) (B:Nat) (W:J) (h:Rd W g (AB S) at_ most) (hat:at_≤S.length) (hS:S.length<4000000000000000000) (hmost:most<1000000) (hG:J4 B W) (hB:B≤W.heap.size):
  Yv Yw 205 #[U g] W fun e w'=>F7 OQ (Yg Yj 0) g most S W (FO Ih most (S.drop at_)) e w':=by obtain⟨gb,go,c,hg1,hg2,hg3,hg4,hg5⟩:=hG.pairs;rcases ho:FO Ih most (S.drop at_) with _|⟨x,rest⟩;(have HC:=sq (Rn g at_ most gb go c Ih S W h hat hS hmost hg3 KA ND ND hg2 ND ho);have hg1':W.cell? (1:Nat)=Z (.slice (Z ⟨gb,go,Y⟩) Ih.length c):=hg1;exact AE5);have HC:=sq (Rm g at_ most x gb go c Ih S rest W h hat hS hmost hg3 KA ND ND hg2 ND ho);have hg1':W.cell? (1:Nat)=Z (.slice (Z ⟨gb,go,Y⟩) Ih.length c):=hg1;exact AGl
theorem GN (v:Yu) (W:J):Yv Yw 163 #[v,Yn] W fun e w'=>e=Yi v∧w'=W:=ALn
theorem Fl (v:Yu) (p:Nat) (W:J):Yv Yw 163 #[v,Yo 286 (U p)] W fun e w'=>e=stopped p∧w'=W:=AHy
theorem M7 (v:Yu) (W:J):Yv Yw 204 #[v,Yn] W fun e w'=>e=Yi v∧w'=W:=ALn
theorem L9 (v:Yu) (p:Nat) (W:J):Yv Yw 204 #[v,Yo 286 (U p)] W fun e w'=>e=stopped p∧w'=W:=AHy
theorem J8 (v:Yu) (W:J):Yv Yw 206 #[v,Yn] W fun e w'=>e=Yi v∧w'=W:=ALn
theorem I4 (v:Yu) (p:Nat) (W:J):Yv Yw 206 #[v,Yo 286 (U p)] W fun e w'=>e=stopped p∧w'=W:=AHy
theorem Kg (c:Int) (W:J):Yv Yw 210 #[Yl Yy,Yg Yj c] W fun e w'=>e=Yi (Ym #[])∧w'=W:=ALI
theorem Lb (c:Int) (W:J):Yv Yw 210 #[Yl Yz,Yg Yj c] W fun e w'=>(∃p,e=stopped p)∧But [] W w':=by have B0:=sq ((APu [] W).alloc (Yk #[Yg Yj c,Yg Yj 0] 348));go_in;go_wp2_with fail;exact⟨rfl,⟨_,rfl⟩,B0.o⟩
section
variable {P:Program} {ops:Array Oper} {Q:Exit→Act→J→Prop} {md:Region.Mode} {B C X:List Nat}
def gj (P:Program) (v:Yu) (w:J):Result Next→Prop
 |.ok (.value u) w'=>u=v∧But [] w w'
 |.ok (.enter f args) w'=>Yv P f args w' fun e w''=>e=Yi v∧But [] w w''
 |_=>False
def Fh (P:Program) (X:List Nat) (ops:Array Oper) (o:Oper) (v:Yu) (a:Act) (w:J):Prop:=
 (Region.wanted o (yielded ops a.tmps)=Yy∧∀w1,But X w w1→gj P v w1 ((execOp a.eval o).run P w1))∨
 (Region.wanted o (yielded ops a.tmps)=Yz∧v=Yx)
theorem Fh.later {o:Oper} {v:Yu} {a:Act} {w w':J} (h:Fh P X ops o v a w) (hl:But X w w'):Fh P X ops o v a w':=
 h.imp (fun ⟨h1,h2⟩=>⟨h1,fun w1 h'=>h2 w1 (hl.trans h')⟩) id
theorem Fh.of_same {o:Oper} {v:Yu} {a a':Act} {w:J} (hy:Fh P X ops o v a w) (he:execOp a'.eval o=execOp a.eval o)
  (hw:Region.wanted o (yielded ops a'.tmps)=Region.wanted o (yielded ops a.tmps)):Fh P X ops o v a' w:=by unfold Fh at*;rw[he,hw];exact hy
theorem Fh.wpOp {i:Nat} {o:Oper} {v:Yu} {a:Act} {w:J} (hi:ops[i]?=Z o) (hy:Fh P X ops o v a w)
  {K:Act→J→Prop} (h:∀w',But [] w w'→K (a.put o.dst v) w'):wpOp P ops Q i K a w:=by unfold Go.wpOp;simp only[hi];rcases hy with⟨hw,hv⟩|⟨hw,rfl⟩;(·simp only[hw,if_true,Oper.wp];have hg:=hv w (APu X w);generalize (execOp a.eval o).run P w=r at*;refine .inl ?_;cases r with|ok n w'=>(cases n<;>simp only[Oper.upon,gj] at hg⊢;(case value u=>obtain⟨rfl,hl⟩:=hg;exact h _ hl);case enter f args=>exact AJv)|halt x w'=>exact hg.elim);exact AKA
theorem TQ {j:Nat} {oi oj:Oper} {v:Yu} (hj:ops[j]?=Z oj) (hap:oi.apart ops oj=Yy)
  (hsi:∀cs b,oi.op≠ .select cs b) (hsj:∀cs b,oj.op≠ .select cs b)
  (hQ:∀c a w,Q (.panic c) (a.put oi.dst v) w→Q (.panic c) a w) {K:Act→J→Prop} {a:Act} {w w0:J}
  (hy:Fh P X ops oi v a w0) (h:wpOp P ops Q j K (a.put oi.dst v) w):
  wpOp P ops Q j (fun a' w'=>Fh P X ops oi v a' w0∧K (a'.put oi.dst v) w') a w:=by
 obtain⟨h1,h2,h3⟩:=APb hap
 have keep:∀(a:Act),Fh P X ops oi v a w0→∀u,Fh P X ops oi v (a.put oj.dst u) w0:=fun a hy u=>
  hy.of_same (APJ oi hsi a oj.dst u h3) (APW oi a oj.dst u h3)
 have keepD:∀d,Fh P X ops oi v {a with defers:=d::a.defers} w0:=fun d=>hy.of_same rfl rfl;exact AEb
def RX (C X:List Nat) (i:Nat):List Nat:=if C.contains i then X else[]
theorem But.ofMay {i:Nat} {w w':J} (h:But (RX C X i) w w'):But X w w':=by unfold RX at h;split at h;(exact h);exact h.nil
def Ba (P:Program) (X C:List Nat) (md:Region.Mode) (ops:Array Oper) (Q:Exit→Act→J→Prop) (B:List Nat):Nat→Array Bool→Act→J→Prop
 |0,listed,a,w=>Region.ready md ops listed=[]∧∀w',But [] w w'→Q .normal a w'
 |fuel+1,listed,a,w=>(Region.ready md ops listed=[]→∀w',But [] w w'→Q .normal a w')∧
  ∀i∈Region.ready md ops listed,∀w1,But [] w w1→wpOp P ops Q i (fun a' w'=>(i∉B→But (RX C X i) w1 w')∧Ba P X C md ops Q B fuel (listed.setIfInBounds i Yy) a' w') a w1
theorem MS:∀(fuel:Nat) (listed:Array Bool) (a:Act) (w:J),Ba P X C md ops Q B fuel listed a w→wpAny P md ops Q fuel listed a w
 |0,_,_,w,h=>⟨h.1,h.2 w (APu [] w)⟩
 |fuel+1,_,_,w,h=>⟨fun e=>h.1 e w (APu [] w),fun i hi=>APH (fun a' w' h'=>MS fuel _ a' w' h'.2) (h.2 i hi w (APu [] w))⟩
theorem Ba.later:∀{fuel:Nat} {listed:Array Bool} {a:Act} {w w':J},Ba P X C md ops Q B fuel listed a w→But [] w w'→Ba P X C md ops Q B fuel listed a w'
 |0,_,_,_,_,h,hl=>⟨h.1,fun w1 h1=>h.2 w1 (hl.trans h1)⟩
 |fuel+1,_,_,_,_,h,hl=>⟨fun e w1 h1=>h.1 e w1 (hl.trans h1),fun i hi w1 h1=>h.2 i hi w1 (hl.trans h1)⟩
theorem Um {i:Nat} {oi:Oper} {v:Yu} (hi:ops[i]?=Z oi) (hsel:∀(j:Nat) (o:Oper) cs b,ops[j]?=Z o→o.op≠ .select cs b)
  (hQ:∀c a w,Q (.panic c) (a.put oi.dst v) w→Q (.panic c) a w) (hW:waits md ops B i=Yy):
  ∀(fuel:Nat) (listed:Array Bool) (a:Act) (w:J),
   (∀j oj,ops[j]?=Z oj→j≠i→listed.getD j Yy=Yz→(∀e∈oj.after,Region.binds md e=Yy→e.on≠i)→oi.apart ops oj=Yy)→
   i∈Region.ready md ops listed→Fh P X ops oi v a w→
   Ba P X C md ops Q B fuel (listed.setIfInBounds i Yy) (a.put oi.dst v) w→Ba P X C md ops Q B (fuel+1) listed a w:=by intro fuel;induction fuel with|zero=>(intro listed a w _ hr hy H;exact AGA)|succ fuel ih=>intro listed a w hfree hr hy H;refine⟨fun h=>UF,fun j hj w1 hl=>?_⟩;by_cases hji:j=i;(exact AIw);have h1:=AHl;obtain⟨hjun,oj,hoj,hall⟩:=AOn.1 hj;obtain⟨hun,hnot⟩:=AES;have h2:=AHx;refine APH (fun a' w' h3=>?_) h2;have hjB:=AJE;have hlt:=h3.2.1 hjB;refine⟨fun _=>hlt,ih (listed.setIfInBounds j Yy) a' w' (fun k ok hk hki hku hno=>?_) (AOr hr (AOP hji)) (h3.1.later hlt.ofMay) ?_⟩;(exact AE0);exact AGR
theorem Bq {i:Nat} {oi:Oper} {v:Yu} {fuel:Nat} {listed:Array Bool} {a:Act} {w:J} (hi:ops[i]?=Z oi)
  (hs:Region.noSelect ops=Yy) (hf:Region.free md ops listed i=Yy) (hr:(Region.ready md ops listed).contains i=Yy)
  (hQ:∀c a w,Q (.panic c) (a.put oi.dst v) w→Q (.panic c) a w) (hW:waits md ops B i=Yy) (hy:Fh P X ops oi v a w)
  (h:Ba P X C md ops Q B fuel (listed.setIfInBounds i Yy) (a.put oi.dst v) w):Ba P X C md ops Q B (fuel+1) listed a w:=
 Um hi (AN8 hs) hQ hW fuel listed a w (AOY hi hf) AAc hy h
theorem CU {o:Oper} {v:Yu} {a:Act} {w:J} (hw:Region.wanted o (yielded ops a.tmps)=Yy)
  (h:∀w1,But X w w1→(execOp a.eval o).run P w1=.ok (.value v) w1):Fh P X ops o v a w:=
 .inl ⟨hw,fun w1 hl=>by rw[h w1 hl];exact⟨rfl,APu _ _⟩⟩
theorem Ay (i:Nat) {oi:Oper} {v:Yu} {fuel:Nat} {listed:Array Bool} {a a2:Act} {w:J} (hn:Ba P X C md ops Q B fuel (listed.setIfInBounds i Yy) a2 w) (hi:ops[i]?=Z oi:=by rfl)
  (hs:Region.noSelect ops=true:=by kernel_rfl) (hf:Region.free md ops listed i=true:=by kernel_rfl) (hr:(Region.ready md ops listed).contains i=true:=by kernel_rfl)
  (hQ:∀c a w,Q (.panic c) (a.put oi.dst v) w→Q (.panic c) a w:=by exact fun _ _ _ h=>h) (hW:waits md ops B i=true:=by kernel_rfl)
  (hw:Region.wanted oi (yielded ops a.tmps)=true:=by rfl)
  (h:∀w1,But X w w1→(execOp a.eval oi).run P w1=.ok (.value v) w1:=by intro W1 hl;go_simp<;>with_reducible rfl)
  (h3:a.put oi.dst v=a2:=by simp only[gA9,gB9,gC9,Act.put,gD9,gE9,gF9]<;>rfl):
  Ba P X C md ops Q B (fuel+1) listed a w:=by subst h3;exact Bq hi hs hf hr hQ hW (CU hw h) hn
theorem Js {o:Oper} {v:Yu} {a:Act} {w:J} {f:FuncId} {args:Array Yu} (hw:Region.wanted o (yielded ops a.tmps)=Yy)
  (hc:∀w1,But X w w1→Yv P f args w1 fun e w'=>e=Yi v∧But [] w1 w')
  (h:∀w1,But X w w1→(execOp a.eval o).run P w1=.ok (.enter f args) w1):Fh P X ops o v a w:=
 .inl ⟨hw,fun w1 hl=>AD6⟩
theorem Qj (i:Nat) {oi:Oper} {v:Yu} {fuel:Nat} {listed:Array Bool} {a a2:Act} {w:J} {f:FuncId} {args:Array Yu} (hc:∀w1,But X w w1→Yv P f args w1 fun e w'=>e=Yi v∧But [] w1 w') (hn:Ba P X C md ops Q B fuel (listed.setIfInBounds i Yy) a2 w) (hi:ops[i]?=Z oi:=by rfl)
  (hs:Region.noSelect ops=true:=by kernel_rfl) (hf:Region.free md ops listed i=true:=by kernel_rfl) (hr:(Region.ready md ops listed).contains i=true:=by kernel_rfl)
  (hQ:∀c a w,Q (.panic c) (a.put oi.dst v) w→Q (.panic c) a w:=by exact fun _ _ _ h=>h) (hW:waits md ops B i=true:=by kernel_rfl)
  (hw:Region.wanted oi (yielded ops a.tmps)=true:=by rfl) (h:∀w1,But X w w1→(execOp a.eval oi).run P w1=.ok (.enter f args) w1:=by intro W1 hl;go_simp<;>with_reducible rfl)
  (h3:a.put oi.dst v=a2:=by simp only[gA9,gB9,gC9,Act.put,gD9,gE9,gF9]<;>rfl):Ba P X C md ops Q B (fuel+1) listed a w:=by subst h3;exact Bq hi hs hf hr hQ hW (Js hw hc h) hn
theorem Sa (i:Nat) {oi:Oper} {fuel:Nat} {listed:Array Bool} {a a2:Act} {w:J} (hn:Ba P X C md ops Q B fuel (listed.setIfInBounds i Yy) a2 w) (hi:ops[i]?=Z oi:=by rfl)
  (hs:Region.noSelect ops=true:=by kernel_rfl) (hf:Region.free md ops listed i=true:=by kernel_rfl) (hr:(Region.ready md ops listed).contains i=true:=by kernel_rfl)
  (hQ:∀c a w,Q (.panic c) (a.put oi.dst Yx) w→Q (.panic c) a w:=by exact fun _ _ _ h=>h) (hW:waits md ops B i=true:=by kernel_rfl)
  (hw:Region.wanted oi (yielded ops a.tmps)=false:=by rfl) (h3:a.put oi.dst Yx=a2:=by simp only[gA9,gB9,gC9,Act.put,gD9,gE9,gF9]<;>rfl):Ba P X C md ops Q B (fuel+1) listed a w:=by subst h3;exact Bq hi hs hf hr hQ hW (Or.inr ⟨hw,rfl⟩) hn
theorem DE {i:Nat} {fuel:Nat} {listed:Array Bool} {a:Act} {w:J} (hr:Region.ready md ops listed=[i])
  (hk:∀w1,But [] w w1→wpOp P ops Q i (fun a' w'=>(i∉B→But (RX C X i) w1 w')∧Ba P X C md ops Q B fuel (listed.setIfInBounds i Yy) a' w') a w1):Ba P X C md ops Q B (fuel+1) listed a w:=AJG
theorem EN {i:Nat} {o:Oper} {fuel:Nat} {listed:Array Bool} {a:Act} {w:J} {f:FuncId} {args:Array Yu} {R:J→Yu→J→Prop} (hi:ops[i]?=Z o)
  (hr:Region.ready md ops listed=[i]) (hC:C.contains i=Yy) (hw:Region.wanted o (yielded ops a.tmps)=Yy)
  (hc:∀w1,But [] w w1→Yv P f args w1 fun e w'=>∃v,e=Yi v∧But X w1 w'∧R w1 v w')
  (h:∀w1,But [] w w1→(execOp a.eval o).run P w1=.ok (.enter f args) w1)
  (hk:∀w1 v w',But [] w w1→But X w1 w'→R w1 v w'→Ba P X C md ops Q B fuel (listed.setIfInBounds i Yy) (a.put o.dst v) w'):Ba P X C md ops Q B (fuel+1) listed a w:=by refine DE hr fun w1 hl=>?_;unfold Go.wpOp;simp only[hi,hw,if_true,Oper.wp,h w1 hl,Oper.upon];refine .inl (AOR (hc w1 hl) fun e w' he=>?_);obtain⟨v,rfl,h1,h2⟩:=he;exact⟨fun _=>by rw[RX,AMx hC];exact h1,hk w1 v w' hl h1 h2⟩
theorem JS {i:Nat} {o:Oper} {fuel:Nat} {listed:Array Bool} {a:Act} {w:J} {f:FuncId} {args:Array Yu} (hi:ops[i]?=Z o)
  (hr:Region.ready md ops listed=[i]) (hw:Region.wanted o (yielded ops a.tmps)=Yy)
  (h:∀w1,But [] w w1→(execOp a.eval o).run P w1=.ok (.enter f args) w1)
  (hc:∀w1,But [] w w1→Yv P f args w1 fun e w'=>∃c,e=.panicked c∧Q (.panic c) a w'):Ba P X C md ops Q B (fuel+1) listed a w:=by refine DE hr fun w1 hl=>?_;unfold Go.wpOp;simp only[hi,hw,if_true,Oper.wp,h w1 hl,Oper.upon];refine .inl (AOR (hc w1 hl) fun e w' he=>?_);obtain⟨c,rfl,hq⟩:=he;exact hq
theorem Bu {i:Nat} {o:Oper} {fuel:Nat} {listed:Array Bool} {a:Act} {w:J} {f:J→J} (hi:ops[i]?=Z o)
  (hr:Region.ready md ops listed=[i]) (hr2:Region.ready md ops (listed.setIfInBounds i Yy)=[]) (hB:B.contains i=Yy) (hw:Region.wanted o (yielded ops a.tmps)=Yy)
  (h:∀w1,But [] w w1→(execOp a.eval o).run P w1=.ok .skip (f w1))
  (hk:∀w1 w2,But [] w w1→But [] (f w1) w2→Q .normal (a.put o.dst Yx) w2):Ba P X C md ops Q B (fuel+1) listed a w:=by refine DE hr fun w1 hl=>?_;exact AF1
theorem Dz {listed:Array Bool} {a:Act} {w:J} (hr:Region.ready md ops listed=[]) (h:∀w',But [] w w'→Q .normal a w'):∀fuel,Ba P X C md ops Q B fuel listed a w
 |0=>⟨hr,h⟩
 |_+1=>⟨fun _=>h,by rw[hr];simp⟩
theorem Bh {id:Nat} {a:Act} {w:J} (hm:P.follows .mixedOrders=Yy)
  (X C B:List Nat) (h:Ba P X C .any ops Q B ops.size (Array.replicate ops.size Yz) a w.drew):(Code.region id ops Yy).wp P Q a w:=
 APR hm (MS _ _ _ _ h)
end
structure RS (B gR g:Nat) (S:List UInt8) (W:J) (rest:List UInt8):Prop where
 rd:Rd W g (AB S) (S.length-rest.length) 10240
 rR:AJ W gR #[U g] 213
 suf:∃k,rest=S.drop k
 hS:S.length<4000000000000000000
 tabs:J4 B W
 hB:B≤W.heap.size
 hg:B≤g
 hgR:B≤gR
 hne:gR≠g
theorem JA {S rest:List UInt8} (h:∃k,rest=S.drop k):S.drop (S.length-rest.length)=rest:=by obtain⟨k,rfl⟩:=h;rw[ANc];rcases AM7 S.length k with h|h;(rw[AOw KA,AOw KA]);rw[show S.length-(S.length-k)=k by omega]
theorem jd {S rest:List UInt8} (h:∃k,rest=S.drop k) {r:List UInt8} (h':∃k,r=rest.drop k):∃k,r=S.drop k:=by obtain⟨k,rfl⟩:=h;obtain⟨j,rfl⟩:=h';exact⟨k+j,by rw[API]⟩
section
variable {B gR g:Nat} {S rest rest':List UInt8} {W W':J}
theorem RS.but (h:RS B gR g S W rest) {X:List Nat} (hb:But X W W') (h1:g∉X) (h2:gR∉X) (h3:∀k∈X,B≤k):RS B gR g S W' rest:=
 ⟨APx h.rd hb h1,h.rR.but hb h2,h.suf,h.hS,h.tabs.below (hb.below h.hB h3),AMj h.hB hb.size,h.hg,h.hgR,h.hne⟩
theorem RS.zero (h:RS B gR g S W rest) (hb:But [] W W'):RS B gR g S W' rest:=h.but hb NC NC NC
theorem RS.step (h:RS B gR g S W rest) (hb:But [g] W W') (hr:Rd W' g (AB S) (S.length-rest'.length) 10240) (hs:∃k,rest'=rest.drop k):RS B gR g S W' rest':=
 ⟨hr,h.rR.but hb AD4,jd h.suf hs,h.hS,h.tabs.below (hb.below h.hB (by simpa using h.hg)),AMj h.hB hb.size,h.hg,h.hgR,h.hne⟩
end
theorem RP {B gR g:Nat} {S rest:List UInt8} {W:J} (h:RS B gR g S W rest):
  Yv Yw 164 #[U g] W fun e w'=>F7 jX (Yg V 0) g 10240 S W (Cb numsL rest) e w':=by have:=sF g _ 10240 S B W h.rd KA h.hS h.tabs h.hB;exact AKZ
theorem AAS {B gR g:Nat} {S rest:List UInt8} {W:J} (h:RS B gR g S W rest):
  Yv Yw 305 #[U g] W fun e w'=>F7 I6 (O ⟨#[]⟩) g 10240 S W (GY MR 10240 rest) e w':=by have:=uU g _ 10240 S B W h.rd KA h.hS ND h.tabs h.hB;exact AKZ
theorem yu {B gR g:Nat} {S rest:List UInt8} {W:J} (h:RS B gR g S W rest):
  Yv Yw 207 #[U g] W fun e w'=>F7 I6 (O ⟨#[]⟩) g 10240 S W (GY MB 10240 rest) e w':=by have:=pT g _ 10240 S B W h.rd KA h.hS ND h.tabs h.hB;exact AKZ
theorem xC {B gR g:Nat} {S rest:List UInt8} {W:J} (h:RS B gR g S W rest):
  Yv Yw 308 #[U g] W fun e w'=>F7 OQ (Yg Yj 0) g 10240 S W (FO Ij 10240 rest) e w':=by have:=lZ g _ 10240 S B W h.rd KA h.hS ND h.tabs h.hB;exact AKZ
theorem zj {B gR g:Nat} {S rest:List UInt8} {W:J} (h:RS B gR g S W rest):
  Yv Yw 205 #[U g] W fun e w'=>F7 OQ (Yg Yj 0) g 10240 S W (FO Ih 10240 rest) e w':=by have:=sS g _ 10240 S B W h.rd KA h.hS ND h.tabs h.hB;exact AKZ
theorem WD {L:List FB} {m:Nat} {l:List UInt8} {n:Nat} {r:List UInt8} (h:FO L m l=Z (n,r)):∃k,r=l.drop k:=FN (Hd h).1
theorem iD {L:List FB} {m:Nat} {l x r:List UInt8} (h:GY L m l=Z (x,r)):∃k,r=l.drop k:=by obtain⟨n,r',h1,_,_,rfl⟩:=JU h;obtain⟨k,rfl⟩:=WD h1;exact⟨k+n,by rw[API]⟩
def DS {α:Type} (B gR g:Nat) (S:List UInt8) (X:List Nat) (W:J) (o:Option (α×List UInt8)) (P:α→J→Prop) (e:Ending) (w':J):Prop:=
 But (g::X) W w'∧match o with
 |some (x,rest)=>e=Yi (Ym #[])∧RS B gR g S w' rest∧P x w'
 |none=>∃p,e=stopped p
theorem Cv {g:Nat} {X:List Nat} {w w':J} (h:But [g] w w'):But (g::X) w w':=h.mono (fun k _ hk=>Zw)
theorem xR {B gR g:Nat} {S rest:List UInt8} {W:J} (h:RS B gR g S W rest) (v gx k:Nat) (cs:Array Yu) (tx:TypeId) (old:Yu) (hv:AJ W v #[.pointer (Z ⟨gx,k,Y⟩)] 227) (hx:AJ W gx cs tx) (hk:cs[k]?=Z old) (hvg:v≠g) (hxg:gx≠g) (hxR:gx≠gR) (hBx:B≤gx):
  Yv Yw 253 #[U gR,U (v:Nat)] W fun e w'=>DS B gR g S [gx] W (Cb numsL rest) (fun n w'=>AJ w' gx (cs.setIfInBounds k (Yg V n)) tx) e w':=by obtain⟨c0,r0,X0,H,D⟩:=AFe;clear h hv hx hk hvg hxg hxR hBx;go_in;go_wp2_with fail;have hd:=AG9;refine Bh NA [g] [5] [10] ?_;refine Ay 0 (h:=US) ?_;refine Ay 1 ?_;refine Ay 2 ?_;refine Ay 3 ?_;refine Ay 4 (h:=YQ) ?_;rcases ho:Cb numsL rest with _|⟨n,rest'⟩;(exact AEq);have hsuf:=FN ho;refine EN (i:=5) (R:=fun _ v w'=>v=Ym #[Yg V n,Yn]∧Rd w' g (AB S) (S.length-rest'.length) 10240) rfl NA PE PE (fun W1 hl=>(RP (H.o.zero (hd.trans hl))).mono ?_) (fun W1 hl=>?_) ?_;(exact AKa);(exact AFN);rintro W1 _ w5 hl hb ⟨rfl,hr⟩;have B5:=AIk;have R5:=sq ((H.o.zero (hd.trans hl)).step hb hr hsuf);have X5:=sq (X0.o _ B5.o);clear hl hb hd hr;refine tz ?_;refine Ay 6 ?_;refine Ay 7 ?_;refine Bq (i:=8) (v:=Yg V n) rfl NA NA NA (fun _ _ _ h=>h) NA (Js PE (fun W1 hl=>(GN (Yg V n) W1).mono ?_) ?_) ?_;(exact AK5);(exact AEV);refine tz ?_;refine Ay 9 ?_;refine Bu (i:=10) (f:=fun W2=>W2.setCell ⟨gx,k,Y⟩ (Yg V n)) rfl NA NA NA PE (fun W2 hl=>?_) (fun W2 W3 hl hl3=>?_);(exact AMJ);refine tz ?_;have B6:=sq (((Cv (X:=[gx]) (B5.o.trans hl.nil)).setCell (p:=⟨gx,k,Y⟩) (Or.inl NC) (Yg V n)).trans hl3.nil);have X6:=sq (((X5.o.but hl NC).set k (Yg V n)).but hl3 NC);have bset:But [gx] W2 (W2.setCell ⟨gx,k,Y⟩ (Yg V n)):=(APu _ _).setCell (Or.inl NC) _;exact AFd
theorem tq {B gR g:Nat} {S rest:List UInt8} {W:J} (h:RS B gR g S W rest) (v gx k:Nat) (cs:Array Yu) (tx:TypeId) (old:Yu) (hv:AJ W v #[.pointer (Z ⟨gx,k,Y⟩)] 268) (hx:AJ W gx cs tx) (hk:cs[k]?=Z old) (hvg:v≠g) (hxg:gx≠g) (hxR:gx≠gR) (hBx:B≤gx):
  Yv Yw 288 #[U gR,U (v:Nat)] W fun e w'=>DS B gR g S [gx] W (Cb numsL rest) (fun n w'=>AJ w' gx (cs.setIfInBounds k (Yl ((n:Int)==1))) tx) e w':=by obtain⟨c0,r0,X0,H,D⟩:=AFe;clear h hv hx hk hvg hxg hxR hBx;go_in;go_wp2_with fail;have hd:=AG9;refine Bh NA [g] [5] [11] ?_;refine Ay 0 (h:=US) ?_;refine Ay 1 ?_;refine Ay 2 ?_;refine Ay 3 ?_;refine Ay 4 (h:=YQ) ?_;rcases ho:Cb numsL rest with _|⟨n,rest'⟩;(exact AEq);have hsuf:=FN ho;refine EN (i:=5) (R:=fun _ v w'=>v=Ym #[Yg V n,Yn]∧Rd w' g (AB S) (S.length-rest'.length) 10240) rfl NA PE PE (fun W1 hl=>(RP (H.o.zero (hd.trans hl))).mono ?_) (fun W1 hl=>?_) ?_;(exact AKa);(exact AFN);rintro W1 _ w5 hl hb ⟨rfl,hr⟩;have B5:=AIk;have R5:=sq ((H.o.zero (hd.trans hl)).step hb hr hsuf);have X5:=sq (X0.o _ B5.o);clear hl hb hd hr;refine tz ?_;refine Ay 6 ?_;refine Ay 7 ?_;refine Bq (i:=8) (v:=Yg V n) rfl NA NA NA (fun _ _ _ h=>h) NA (Js PE (fun W1 hl=>(GN (Yg V n) W1).mono ?_) ?_) ?_;(exact AK5);(exact AEV);refine tz ?_;refine Ay 9 ?_;refine Ay 10 ?_;refine Bu (i:=11) (f:=fun W2=>W2.setCell ⟨gx,k,Y⟩ (Yl ((n:Int)==1))) rfl NA NA NA PE (fun W2 hl=>?_) (fun W2 W3 hl hl3=>?_);(exact AMJ);refine tz ?_;have B6:=sq (((Cv (X:=[gx]) (B5.o.trans hl.nil)).setCell (p:=⟨gx,k,Y⟩) (Or.inl NC) (Yl ((n:Int)==1))).trans hl3.nil);have X6:=sq (((X5.o.but hl NC).set k (Yl ((n:Int)==1))).but hl3 NC);have bset:But [gx] W2 (W2.setCell ⟨gx,k,Y⟩ (Yl ((n:Int)==1))):=(APu _ _).setCell (Or.inl NC) _;exact AFd
end Go.Proofs.YtiapejgiinidhaaGreatDoor
