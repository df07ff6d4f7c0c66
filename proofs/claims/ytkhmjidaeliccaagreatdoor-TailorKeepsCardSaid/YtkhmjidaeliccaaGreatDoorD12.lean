import Derived.Test.YtkhmjidaeliccaaGreatDoorD00
import Derived.Test.YtkhmjidaeliccaaGreatDoorD04
import Derived.Test.YtkhmjidaeliccaaGreatDoorD09
import Derived.Test.YtkhmjidaeliccaaGreatDoorD10
import Derived.Test.YtkhmjidaeliccaaGreatDoorD11
import Derived.Test.YtkhmjidaeliccaaGreatDoorProg
import Derived.RegionTactic
import Derived.BigRegion
import Derived.Outline
import Derived.StillTailTactics
import Derived.Deep.RegionWith
import Derived.Deep.QuietTactic
import Derived.BigQuiet
set_option maxRecDepth 100000
set_option maxHeartbeats 51200000
namespace Go.Proofs.YtkhmjidaeliccaaGreatDoor
open Option renaming none->N,some->Z
open Value renaming int->I,slice->H
open IntKind renaming i64->J
open Go.Proofs.Tryz
section
open Go.RowKit Go.Maps Go.WideMaps
theorem jB{a w:Wv}{U B:Nat}(h:a.grownBy w (Z U))(hB:B<=U)(hB2:B<=a.heap.size):Below B a w:=
 ⟨h.os,h.tape,h.output,h.size,fun k hk=>h.block k (by omega) (fun e=>by injection e with e;omega)⟩
theorem JO(vs:List (Li))(i:Nat):(vs.take i).flatten.length<=vs.flatten.length:=by
 conv=>rhs;rw[<-List.take_append_drop i vs,List.flatten_append,List.length_append]
 omega
theorem vU{vs:List (Li)}{i:Nat}(hi:i<vs.length):(vs.take (i+1)).flatten=(vs.take i).flatten++vs[i]:=by
 rw[List.take_succ_eq_append_getElem hi,List.flatten_append,List.flatten_singleton]
structure iD(A0:Oa)(n0 k0:Nat)(A1:Oa)(n1 k1:Nat)(A2:Oa)(n2 k2:Nat)(ms:List Mp)(compat:Bool)(s:Nat)(Q:Int->Prop)(fl:Li)(w w1:Wv)(n:Nat)(f:Int->Option Value)(B:Oa)(k:Nat)(W:Wv)(n':Nat)(f':Int->Option Value):Prop where
 own:W.ownsRow w1.heap.size 3 1 (H B fl.length k) fl.length (fl.map (Value.int .i64))
 st:XM A0 n0 k0 A1 n1 k1 A2 n2 k2 ms compat s W n' f'
 gr:w1.grownBy W (Z (s+2))
 pot:n'+unmarked (uM ms) (mkF f')<=n+unmarked (uM ms) (mkF f)
 fr:∀x E' m d,f' x=Z (H E' m d)->f x=Z (H E' m d)\/m=0\/∀b o,E'=Z ⟨b,o,N⟩->w.heap.size<=b
 mks:∀x,f' x≠N->f x≠N\/Q x
 ap:kQ f' B
section
variable {A0:Oa}{n0 k0:Nat}{A1:Oa}{n1 k1:Nat}{A2:Oa}{n2 k2:Nat}{ms:List Mp}{compat:Bool}{s:Nat}{Q:Int->Prop}{e:Int}{fl l:Li}{w w1:Wv}{n:Nat}{f:Int->Option Value}{B:Oa}{k:Nat}{W:Wv}{n':Nat}{f':Int->Option Value}
theorem iD.lt(h:iD A0 n0 k0 A1 n1 k1 A2 n2 k2 ms compat s Q fl w w1 n f B k W n' f'):w1.heap.size<=W.heap.size:=h.gr.size
theorem iD.call(h:iD A0 n0 k0 A1 n1 k1 A2 n2 k2 ms compat s Q fl w w1 n f B k W n' f')(hw:w.heap.size<=w1.heap.size)(hs:s+4<w1.heap.size)(he:∀x,x=e\/bR (onM ms compat) e x->Q x){E:Oa}{W2:Wv}{n2':Nat}{f2:Int->Option Value}
  (p:oA A0 n0 k0 A1 n1 k1 A2 n2 k2 ms compat s e l W n' f' E W2 n2' f2):iD A0 n0 k0 A1 n1 k1 A2 n2 k2 ms compat s Q fl w w1 n f B k W2 n2' f2:=by
 have hbl:∀g o,B=Z ⟨g,o,N⟩->w1.heap.size<=g/\g<W.heap.size:=by
  intro g o hB;subst hB;rcases h.own.2 with⟨hv,_⟩|⟨g',cap,cur,hv,h1,h2,_⟩
  ·cases hv
  injection hv with hv;injection hv with hv;injection hv with hv;subst hv;exact⟨h1,(Array.getElem?_eq_some_iff.1 h2).1⟩
 refine⟨h.own.kept p.gr ?_,p.st,aV h.gr p.gr,Nat.le_trans p.pot h.pot,fun x E' m d e1=>?_,fun x e1=>?_,?_⟩
 ·cases B with
  |none=>exact .inl rfl
  |some a=>
   right;rcases h.own.2 with⟨hv,_⟩|⟨g',cap,cur,hv,h1,h2,_⟩
   ·cases hv
   injection hv with hv;rw[hv];simp only[Value.ownBlock];intro e2;injection e2 with e2;omega
 ·rcases p.fr x E' m d e1 with e2|e2|e2
  ·exact h.fr x E' m d e2
  ·exact .inr (.inl e2)
  exact .inr (.inr fun b o hb=>by have:=e2 b o hb;have:=h.lt;omega)
 ·rcases p.mks x e1 with e2|e2|e2
  ·exact h.mks x e2
  ·exact .inr (he x (.inl e2))
  exact .inr (he x (.inr e2))
 intro x E' m d b o b' o' e1 hE hB;rcases p.fr x E' m d e1 with e2|e2|e2
 ·exact h.ap x E' m d b o b' o' e2 hE hB
 ·exact .inl e2
 right;have:=e2 b o hE;have:=hbl b' o' hB;omega
theorem iD.app(h:iD A0 n0 k0 A1 n1 k1 A2 n2 k2 ms compat s Q fl w w1 n f B k W n' f')(hs:s+4<w1.heap.size){B':Oa}{k':Nat}{W':Wv}{zs:Li}
  (ho:W'.ownsRow w1.heap.size 3 1 (H B' (fl.length+zs.length) k') (fl.length+zs.length) (fl.map (Value.int .i64)++zs.map (Value.int .i64))) (hb:Below w1.heap.size W W') (hg:W.grownBy W' (Value.ownBlock (H B fl.length k))) (hB:B'=B\/B'=Z ⟨W.heap.size,0,N⟩) :
  iD A0 n0 k0 A1 n1 k1 A2 n2 k2 ms compat s Q (fl++zs) w w1 n f B' k' W' n' f':=by
 refine⟨by rw[List.length_append,List.map_append];exact ho,h.st.app h.own h.ap hg hb hs,v_ h.gr hb (Nat.le_refl _),h.pot,h.fr,h.mks,?_⟩;rcases hB with rfl|rfl
 ·exact h.ap
 exact h.st.apart_new
end
theorem vN(A0:Oa)(n0 k0:Nat)(A1:Oa)(k1:Nat)(A2:Oa)(n2 k2:Nat)(s:Nat)(ms:List Mp)(compat:Bool)(w0:Wv)(_hs0:s=w0.heap.size)(_hA:Mps w0 A1 ms)(_hst:StF ms)(_hco:fM ms)(_hbig:ms.length<=1048576)(c:Int)(l:Li)(hF:bH (onM ms compat) c l)(hc:iok c)
  (w:Wv) (n:Nat) (f:Int->Option Value) (hms:XM A0 n0 k0 A1 ms.length k1 A2 n2 k2 ms compat s w n f) (_hbel:Below s w0 w) (_hn:n+unmarked (uM ms) (mkF f)<=1000000000) {v:Value} (hfc:f c=Z v) :
  Calls prog 118 #[I J c,.pointer (Z ⟨s+3,0,N⟩),.pointer (Z ⟨s,0,N⟩),.pointer (Z ⟨s+1,0,N⟩),.pointer (Z ⟨s+4,0,N⟩)] w
   (oB A0 n0 k0 A1 ms.length k1 A2 n2 k2 ms compat s c l w n f):=by
 obtain⟨E,d,l',rfl,h2,h3,h4⟩:=hms.fd c v hfc;obtain rfl:=h3.func hF;have qm:w.cell? ⟨s+3,0,N⟩=Z (.map (Z (s+2))):=hms.bM.cell rfl;have HM:=G hms;have HE:=G h4;clear hms _hA _hst _hco h3 hF h4 _hs0;go_enter func118,ntmps118;go_wp2_with(at_lookup;refine lJ rfl _ _ 171 rfl HM.out.mp iJ underlying171 (tM _) rfl rfl hc (iH hc) ?_;rw[hfc];simp only[Option.getD_some,Option.isSome_some]);go_ret;exact⟨E,d,n,f,rfl,h2,HE.out,HM.out,aN w _,Nat.le_refl _,fun x E' m d e=>.inl e,fun x e=>.inl e⟩
theorem IW(A0:Oa)(n0 k0:Nat)(A1:Oa)(k1:Nat)(A2:Oa)(n2 k2:Nat)(s:Nat)(ms:List Mp)(compat:Bool)(w0:Wv)(hs0:s=w0.heap.size)(hA:Mps w0 A1 ms)(hst:StF ms)(_hco:fM ms)(hbig:ms.length<=1048576)(c:Int)(hR:onM ms compat c=N)(hc:iok c)
  (w:Wv) (n:Nat) (f:Int->Option Value) (hms:XM A0 n0 k0 A1 ms.length k1 A2 n2 k2 ms compat s w n f) (hbel:Below s w0 w) (_hn:n+unmarked (uM ms) (mkF f)<=1000000000) (hfc:f c=N) :
  Calls prog 118 #[I J c,.pointer (Z ⟨s+3,0,N⟩),.pointer (Z ⟨s,0,N⟩),.pointer (Z ⟨s+1,0,N⟩),.pointer (Z ⟨s+4,0,N⟩)] w
   (oB A0 n0 k0 A1 ms.length k1 A2 n2 k2 ms compat s c [c] w n f):=by
 have ON:=G (fun W(hb:Below s w0 W)=>sJ A0 n0 k0 A1 ms.length k1 A2 n2 k2 ms c compat W (hA.below (show Below w0.heap.size w0 W from hs0 ▸ hb)) rfl hbig hst);have q0:w.cell? ⟨s,0,N⟩=Z (H A0 n0 k0):=hms.bN.cell rfl;have q1:w.cell? ⟨s,1,N⟩=Z (H A1 ms.length k1):=hms.bN.cell rfl;have q2:w.cell? ⟨s,2,N⟩=Z (H A2 n2 k2):=hms.bN.cell rfl;have qb:w.cell? ⟨s+1,0,N⟩=Z (.bool compat):=hms.bB.cell rfl;have qm:w.cell? ⟨s+3,0,N⟩=Z (.map (Z (s+2))):=hms.bM.cell rfl;have HM:=G hms;rw[hR]at ON;clear hms hA hst _hco hR hs0;go_enter func118,ntmps118;go_wp2_with(at_lookup;refine lJ rfl _ _ 171 rfl HM.out.mp iJ underlying171 (tM _) rfl rfl hc (iH hc) ?_;rw[hfc];simp only[Option.getD_none,Option.isSome_none]);with_reducible refine(ON.out _ hbel).mono ?_
 rintro e w1 ⟨E,d,rfl,hd,hE,hb1⟩;simp only[Option.getD_none,Option.isSome_none];have HM1:=G (HM.out.below hb1);clear ON hE hd;go_wp2_with fail;go_ret;have hb2:=hb1.alloc hb1.size (.cells #[I J c] 3);exact⟨Z ⟨w1.heap.size,0,N⟩,1,n,f,rfl,Nat.le_refl _,fN w1 [c] _ rfl,HM1.out.below (ba _ _),cA (aN w _) hb2,Nat.le_refl _,fun x E' m d e=>.inl e,fun x e=>.inl e⟩
theorem IX(A0:Oa)(n0 k0:Nat)(A1:Oa)(k1:Nat)(A2:Oa)(n2 k2:Nat)(s:Nat)(ms:List Mp)(compat:Bool)(w0:Wv)(hs0:s=w0.heap.size)(hA:Mps w0 A1 ms)(hst:StF ms)(hco:fM ms)(hbig:ms.length<=1048576)(c:Int)(toq:Li)(vs:List (Li))(hR:onM ms compat c=Z toq)(hlen:vs.length=toq.length)(hk:∀i,(hi:i<toq.length)->(hv:i<vs.length)->bH (onM ms compat) toq[i] vs[i])
  (ih:∀i,(hi:i<toq.length)->(hv:i<vs.length)->XOk A0 n0 k0 A1 ms.length k1 A2 n2 k2 ms compat s w0 toq[i] vs[i]) (hc:iok c) (hl:vs.flatten.length<=4096)
  (w:Wv) (n:Nat) (f:Int->Option Value) (hms:XM A0 n0 k0 A1 ms.length k1 A2 n2 k2 ms compat s w n f) (hbel:Below s w0 w) (hn:n+unmarked (uM ms) (mkF f)<=1000000000) (hfc:f c=N) :
  Calls prog 118 #[I J c,.pointer (Z ⟨s+3,0,N⟩),.pointer (Z ⟨s,0,N⟩),.pointer (Z ⟨s+1,0,N⟩),.pointer (Z ⟨s+4,0,N⟩)] w
   (oB A0 n0 k0 A1 ms.length k1 A2 n2 k2 ms compat s c vs.flatten w n f):=by
 have ON:=G (fun W(hb:Below s w0 W)=>sJ A0 n0 k0 A1 ms.length k1 A2 n2 k2 ms c compat W (hA.below (show Below w0.heap.size w0 W from hs0 ▸ hb)) rfl hbig hst);have q0:w.cell? ⟨s,0,N⟩=Z (H A0 n0 k0):=hms.bN.cell rfl;have q1:w.cell? ⟨s,1,N⟩=Z (H A1 ms.length k1):=hms.bN.cell rfl;have q2:w.cell? ⟨s,2,N⟩=Z (H A2 n2 k2):=hms.bN.cell rfl;have qb:w.cell? ⟨s+1,0,N⟩=Z (.bool compat):=hms.bB.cell rfl;have qm:w.cell? ⟨s+3,0,N⟩=Z (.map (Z (s+2))):=hms.bM.cell rfl;have HM:=G hms;have HNW:=G ((bH.node hR hlen hk).noway);have HFU:=G (bH.node hR hlen hk);have HU:=G (PR hR);have HED:=G (fun e(he:e∈toq)x(h:x=e\/bR (onM ms compat) e x)=>show bR (onM ms compat) c x from h.elim (fun g=>g ▸ .one ⟨toq,hR,he⟩) (fun g=>g.front ⟨toq,hR,he⟩));have HIO:=G (xP hco hR);have HTL:=G (xQ hco hR).1;have IH:=G ih;have HLN:=G hlen;rw[hR]at ON;have hsw:s+4<w.heap.size:=hms.bX.lt;clear hms hA hst hco hR hk ih hlen hs0;go_enter func118,ntmps118;go_wp2_with(at_lookup;refine lJ rfl _ _ 171 rfl HM.out.mp iJ underlying171 (tM _) rfl rfl hc (iH hc) ?_;rw[hfc];simp only[Option.getD_none,Option.isSome_none]);with_reducible refine(ON.out _ hbel).mono ?_
 rintro e w1 ⟨E,d,rfl,hd,hE,hb1⟩;simp only[Option.getD_some,Option.isSome_some]at hd hE|-;have HM1:=G (HM.out.below hb1);have hsw1:s+4<w1.heap.size:=by have:=hb1.size;omega
 have hww:w.heap.size<=w1.heap.size:=hb1.size;have HG1:=U (w.grownBy w1 (Z (s+2))) (cA (aN w _) hb1);have htl:=HTL.out;have HB1:=G (hbel.trans (hb1.mono (by omega:s<=w.heap.size)));have HE:=G hE;clear ON hE hb1 q0 q1 q2 qb qm;go_wp2_with fail
 go_loopw [11,35] (fun u q wr=>∃(i n':Nat)(f':Int->Option Value)(B:Oa)(k:Nat),i<=toq.length/\u=H B ((vs.take i).flatten).length k/\q=I J i/\iD A0 n0 k0 A1 ms.length k1 A2 n2 k2 ms compat s (bR (onM ms compat) c) ((vs.take i).flatten) w w1 n f B k wr n' f')
  (fun _ q _=>toq.length-(intOf q).toNat)
 case atStart=>
  exact⟨0,n,f,N,0,Nat.zero_le _,rfl,rfl,⟨World.ownsRow_nil _ _ _ _,HM1.out,aN _ _,Nat.le_refl _,fun x E' m d e=>.inl e,fun x e=>.inl e,kQ.nil f⟩⟩
 obtain⟨i,n',f',B,k,hile,rfl,rfl,HL0⟩:=hrel;have HL:=G HL0;clear HL0;by_cases hi:i<toq.length
 ·have hv:i<vs.length:=by rw[HLN.out];exact hi
  obtain⟨b,o,rfl,hcell⟩:=(show aB wr E toq from Sl.grownM HE.out HL.out.gr HM1.out.mp.nocell).at hi;have hc0:=hcell i hi;clear hcell;have p5:wr.cell? ⟨s+4,0,N⟩=Z (.func (.func 118) #[] #[.pointer (Z ⟨s+3,0,N⟩),.pointer (Z ⟨s,0,N⟩),.pointer (Z ⟨s+1,0,N⟩),.pointer (Z ⟨s+4,0,N⟩)]):=HL.out.st.bX.cell rfl;have hmem:toq[i]∈toq:=List.getElem_mem hi;have hfl:((vs.take i).flatten).length+vs[i].length<=4096:=by
   have h1:=JO vs (i+1);rw[vU hv,List.length_append]at h1;omega
  have CL:=G (IH.out i hi hv (HIO.out _ hmem) (by omega) wr n' f' HL.out.st (HB1.out.trans (jB HL.out.gr (by omega) (by omega))) (by have:=HL.out.pot;omega));have NX:=G (fun(E2:Oa) W n9 f9 (p:oA A0 n0 k0 A1 ms.length k1 A2 n2 k2 ms compat s toq[i] vs[i] wr n' f' E2 W n9 f9)=>HL.out.call hww hsw1 (HED.out _ hmem) p);have FSq:=G (vU hv);clear hmem;generalize toq[i]=te at *;generalize vs[i]=ve at *;generalize (vs.take i).flatten=fl at *;go_wp2_with fail;with_reducible refine CL.out.mono ?_
  rintro e W ⟨E2,d2,n9,f9,rfl,hd2,hp⟩;have HL2:=G (NX.out E2 W n9 f9 hp);have HE2:=G hp.ints;clear hp CL NX p5 HL;go_wp2_with(at_builtin;refine cJ _ _ 33 3 (I J 0) 1 8 rfl rfl underlying33 bK rfl (by decide) (by decide) rfl HL2.out.own rfl HE2.out (by simp) (dJ _) (by omega) HL2.out.lt ?_;intro B3 k3 w3 hown3 hc3 hb3 hg3 hB3);have HL3:=G (HL2.out.app hsw1 hown3 hb3 hg3 hB3);clear hown3 hb3 hg3 hB3 HL2 HE2;go_wp2_with fail;go_roundw
  case rel=>exact⟨i+1,n9,f9,B3,k3,by omega,by rw[FSq.out,List.length_append],by go_num,by rw[FSq.out];exact HL3.out⟩
  simp[intOf];omega
 have hi':i=toq.length:=by omega
 subst hi';have p3:wr.cell? ⟨s+3,0,N⟩=Z (.map (Z (s+2))):=HL.out.st.bM.cell rfl;have hfe:(vs.take toq.length).flatten=vs.flatten:=by rw[<-HLN.out,List.take_length]
 rw[hfe]at HL|-;have hfc':f' c=N:=by
  cases hx:f' c with
  |none=>rfl
  |some v=>
   rcases HL.out.mks c (by rw[hx];simp)with e|e
   ·exact absurd hfc e
   exact absurd e HNW.out
 have hpot:n'+1+unmarked (uM ms) (dA (mkF f') c 0)<=n+unmarked (uM ms) (mkF f):=by
  have h1:=zX (k:=0) HU.out (OX.2 hfc');have h2:=HL.out.pot;omega
 have HPOT:=G hpot;have hnn:n' < maxLen:=by unfold maxLen;omega
 obtain⟨hkk,hbl⟩:vs.flatten.length<=k/\∀g o,B=Z ⟨g,o,N⟩->w.heap.size<=g:=by
  refine⟨?_,fun g o hB=>?_⟩
  ·obtain⟨_,_,hv,hk⟩:=fX HL.out.own
   injection hv with _ _ hv;subst hv;exact hk
  subst hB;rcases HL.out.own.2 with⟨hv,_⟩|⟨g',cap,cur,hv,h1,h2,_⟩
  ·cases hv
  injection hv with hv;injection hv with hv;injection hv with hv;subst hv;omega
 have HBL:=G hbl;have HEX:=U (aB wr B vs.flatten) (Sl.of_own HL.out.own);clear hpot hfc' hbl hfe;generalize vs.flatten=fl at *;go_wp2_with(at_mapUpdate;refine nT rfl _ _ _ 171 rfl HL.out.st.mp iJ underlying171 hnn rfl rfl rfl hc (iH hc) (fun y _ e=>rQ e) ?_;intro w3 hM3 hg3);go_ret;refine⟨B,k,n'+1,_,rfl,hkk,Sl.grownM HEX.out hg3 HL.out.st.mp.nocell,HL.out.st.put hM3 hg3 hkk HFU.out HEX.out,(aV (aV HG1.out HL.out.gr) hg3),by rw[OY];exact HPOT.out,fun x E' m d e=>?_,fun x e=>?_⟩
 ·by_cases hx:x=c
  ·rw[if_pos hx]at e
   injection e with e;injection e with e1 e2 e3;subst e1;exact .inr (.inr HBL.out)
  rw[if_neg hx]at e;exact HL.out.fr x E' m d e
 by_cases hx:x=c
 ·exact .inr (.inl hx)
 rw[if_neg hx]at e;rcases HL.out.mks x e with e1|e1
 ·exact .inl e1
 exact .inr (.inr e1)
theorem IY(A0:Oa)(n0 k0:Nat)(A1:Oa)(k1:Nat)(A2:Oa)(n2 k2:Nat)(s:Nat)(ms:List Mp)(compat:Bool)(w0:Wv)(hs0:s=w0.heap.size)(hA:Mps w0 A1 ms)(hst:StF ms)(hco:fM ms)(hbig:ms.length<=1048576){c:Int}{l:Li}
  (hfull:bH (onM ms compat) c l):XOk A0 n0 k0 A1 ms.length k1 A2 n2 k2 ms compat s w0 c l:=by
 induction hfull with
 | @leaf c hR=>
  intro hc hl w n f hms hbel hn;cases hf:f c with
  |some v=>exact vN A0 n0 k0 A1 k1 A2 n2 k2 s ms compat w0 hs0 hA hst hco hbig c [c] (.leaf hR) hc w n f hms hbel hn hf
  |none=>exact IW A0 n0 k0 A1 k1 A2 n2 k2 s ms compat w0 hs0 hA hst hco hbig c hR hc w n f hms hbel hn hf
 | @node c toq vs hR hlen hk ih=>
  intro hc hl w n f hms hbel hn;cases hf:f c with
  |some v=>exact vN A0 n0 k0 A1 k1 A2 n2 k2 s ms compat w0 hs0 hA hst hco hbig c _ (.node hR hlen hk) hc w n f hms hbel hn hf
  |none=>exact IX A0 n0 k0 A1 k1 A2 n2 k2 s ms compat w0 hs0 hA hst hco hbig c toq vs hR hlen hk ih hc hl w n f hms hbel hn hf
namespace Mtc
section
variable {E:Type}{cl:Int->Int}{ent:Li->Option (List E)}{t d part lft:Li}{z i:Nat}{hi:Int}
theorem MG.take_eq(h:MG cl ent t z d part lft i hi):d.take part.length=part:=by rw[h.eq,List.append_assoc,List.take_left]
theorem MG.mem(h:MG cl ent t z d part lft i hi){x:Int}(hx:x∈part):x∈d:=by rw[h.eq];simp[hx]
theorem MG.le_i(h:MG cl ent t z d part lft i hi):part.length<=i:=by have:=h.at_;omega
end
end Mtc
theorem DS{a w:Wv}(h:a.grownBy w N):By a w:=⟨h.os,h.tape,h.output,h.size,fun k hk=>h.block k hk (by simp)⟩
theorem uQ{w:Wv}{b off:Nat}{zs:Li}(h:aB w (Z ⟨b,off,N⟩) zs){j:Nat}{u:Value}(hu:(zs.map (Value.int .i64))[j]?=Z u):w.cell? ⟨b,off+j,N⟩=Z u:=by
 obtain⟨b',o',hA,hc⟩:=h (by intro e;rw[e]at hu;simp at hu);injection hA with hA;injection hA with h1 h2;subst h1;subst h2;exact hc j u hu
theorem zR(T:Nat)(c:Col)(cs:List Spn)(A0:Oa)(k0 b off cap:Nat)(pre post:Lv)(t:Li)(w0 w:Wv)(hM:pS T c cs A0 k0 b w0)(hw:Below w0.heap.size w0 w)(hR:Row w b off 3 pre post t)(ht:t≠[])(hbig:t.length<=1048576)(hcap:t.length<=cap)(hcm:cap<=9223372036854775807)(hio:∀z∈t,iok z):
  Calls prog 66 #[.pointer (Z ⟨T,0,N⟩),H (Z ⟨b,off,N⟩) t.length cap] w (nX (cls cs) (aC c.ents) (aO c) b off pre post t w):=by
 have FC:=G (fun(A':Oa) n cc zs W (hb:Below w0.heap.size w0 W) (hC:aB W A' zs) (hn:zs.length=n) hn2 hw=>zM T c (H A0 cs.length k0) (eP cs) A' n cc zs W (hM.tab.below hb) hC hn hn2 hM.ent hw);have CC:=G (fun x W(hb:Below w0.heap.size w0 W)=>WA T A0 k0 cs x W (hM.sp.below hb) hM.csz hM.asc (hM.tab.below hb).cl.2 (hM.tab.below hb).cl.1);have IC:=G (fun x W(hb:Below w0.heap.size w0 W)=>LR T c _ _ x W (hM.tab.below hb) hM.base);have TC:=G (fun W(hb:Below w0.heap.size w0 W)=>(hM.tab.below hb).cells);have LB:=sD (k:=8) (fun x hx=>(hM.ent x hx).2);have SM:=U (Mtc.sz (aC c.ents) t t.length=Mtc.sz (aC c.ents) t (min (cP c.ents).toNat t.length)) (Mtc.sz_min (fun zs hz=>wR (by omega)) _ (Nat.le_refl _));have CT:=G (FR cs);have hbb:=hM.hb;have HIO:=G hio;have HR:=G hR;have hpos:0<t.length:=List.length_pos_iff.2 ht;have M0:=G (OQ (cl:=cls cs) (ent:=aC c.ents) (t:=t));have M1:=G (fun z=>OR (cl:=cls cs) (ent:=aC c.ents) (t:=t) (z:=z));obtain⟨i0,hi0,hiz,his,hib⟩:=info_parts bK;clear hM hio hR ht;unfold nX;generalize aC c.ents=ent at *;generalize cls cs=cl at *;generalize aO c=imp at *;generalize eP cs=tp at *;obtain⟨L,hL⟩:∃L:Nat,cP c.ents=(L:Int):=⟨(cP c.ents).toNat,by omega⟩;rw[hL]at TC LB SM;clear hL;rw[Int.toNat_natCast]at SM;have t6:=(TC.out w hw).2.2.2.1;generalize hmt:Mtc.matched cl ent t=mt at *;clear hmt;obtain⟨z0,hz0⟩:∃z0:Nat,z0=min L t.length:=⟨_,rfl⟩;rw[<-hz0]at SM;have hz0le:z0<=t.length:=by omega
 have hmin:=fun(W:Wv) (ts:Array TypeId) (ty:TypeId)=>show(Builtin.min_ ts ty #[I J (L:Int),I J (t.length:Int)]).run prog W=.ok (I J (z0:Int)) W from by
  rw[run_min_int2];congr 2;split<;>omega
 clear hz0;go_enter func66,ntmps66;go_wp2_with fail;clear hmin t6;go_loopw [7] (fun u wr=>∃z:Nat,z<=t.length/\u=I J z/\Mtc.sz ent t t.length=Mtc.sz ent t z/\By w wr) (fun u _=>(intOf u).toNat)
 case atStart=>exact⟨z0,hz0le,rfl,SM.out,Below.refl _ _⟩
 obtain⟨z,hz,rfl,hsz,hbel⟩:=hrel;have HSZ:=G hsz;clear hsz;have hbw:=hw.trans (hbel.mono hw.size);have HRr:=G (HR.out.below hbel);by_cases hz1:0<z
 ·have HF:=G (FC.out (Z ⟨b,off,N⟩) z cap (t.take z) wr hbw (HRr.out.ints.take z) (by rw[List.length_take];omega) (by omega) (fun y hy=>HIO.out y (List.mem_of_mem_take hy)))
  cases he:ent (t.take z)with
  |none=>
   have HS2:=U (Mtc.sz ent t t.length=Mtc.sz ent t (z-1)) (by
    rw[HSZ.out]
    obtain⟨y,rfl⟩:∃y,z=y+1:=⟨z-1,by omega⟩
    rw[Mtc.sz_miss (by rw[he];simp)]
    rfl)
   rw[he]at HF;clear he;go_wp2_with fail;refine HF.out.mono ?_;rintro e W ⟨E,d,rfl,hE,hb⟩;clear hE HF;simp only[Option.getD_none,Option.isSome_none];go_wp2_with fail;go_roundw
   case rel=>exact⟨z-1,by omega,by go_num,HS2.out,hbel.trans (hb.mono hbel.size)⟩
   simp[intOf];omega
  |some l=>
   have HSZE:=U (Mtc.sz ent t t.length=z) (by
    rw[HSZ.out]
    obtain⟨y,rfl⟩:∃y,z=y+1:=⟨z-1,by omega⟩
    exact Mtc.sz_hit (by rw[he];rfl))
   have HST:=G (Mtc.MG.start (cl:=cl) (ent:=ent) (t:=t) hz1 hz (by rw[he];rfl));rw[he]at HF;clear he;have qz:((z:Int)==0)=false:=by rw[beq_eq_false_iff_ne];omega
   go_wp2_with fail;refine HF.out.mono ?_;rintro e W1 ⟨E,d,rfl,hE,hb1⟩;clear hE HF;simp only[Option.getD_some,Option.isSome_some];have hbel1:=hbel.trans (hb1.mono hbel.size);have HR1:=G (HR.out.below hbel1);have HG1:=U (w.grownBy W1 (Z b)) (cA (aN w _) hbel1);have hzl:(t.take z).length=z:=by rw[List.length_take];omega
   have HZL:=G hzl;clear hzl HSZ HRr hbw hbel hb1;go_wp2_with fail
   go_loopw [7,10,11] (fun u l q wr=>∃(d part lft:Li)(i:Nat)(hi:Int),u=I J part.length/\l=I J hi/\q=I J i/\Mtc.MG cl ent t z d part lft i hi/\Row wr b off 3 pre post d/\(∀x∈d,iok x)/\w.grownBy wr (Z b))
    (fun _ _ q _=>t.length-(intOf q).toNat)
   case atStart=>exact⟨t,t.take z,[],z,0,by rw[HZL.out],rfl,rfl,HST.out,HR1.out,HIO.out,HG1.out⟩
   obtain⟨d,part,lft,i,hi,rfl,rfl,rfl,hmg,hrow,hid,hgr⟩:=hrel;have HMG:=G hmg;have HRO:=G hrow;have HID:=G hid;have hpi:=hmg.le_i;have hil:=hmg.le;have hpp:=hmg.pos;have hdl:=hmg.len;have HDL:=G hdl;have hbw:Below w0.heap.size w0 wr:=hw.trans (jB hgr hbb hw.size);have t8:=(TC.out wr hbw).2.2.2.2;clear hmg hrow hid hdl;by_cases hil2:i<t.length
   ·have d1:decide ((i:Int)<(t.length:Int))=true:=by simpa using hil2
    by_cases hht:hi<tp
    ·have d2:decide (hi<tp)=true:=by simpa using hht
     have hdi:i<d.length:=by rw[HDL.out];exact hil2
     have ci:wr.cell? ⟨b,off+i,N⟩=Z (I J t[i]):=HRO.out.cell (by rw[List.getElem?_eq_getElem hdi,HMG.out.get hil2 hdi]);have CX:=G (CC.out t[i] wr hbw);have STOP:=G (fun h=>HMG.out.stop hil2 h);have LEAVE:=G (fun(hi':Int) h0 h1 hh=>HMG.out.leave (hi':=hi') hil2 h0 h1 hh);have TAKE:=G (fun h0 h1 h2=>HMG.out.take hil2 h0 h1 h2);have HDR:=U (d=part++lft++t[i]::t.drop (i+1)) (by rw[HMG.out.eq,HMG.out.drop hil2]);have hix:=HIO.out t[i] (List.getElem_mem hil2);generalize t[i]=x at *;generalize hcx:cl x=k at *;have HCX:=G hcx;clear hcx hdi;go_wp2_with fail;refine CX.out.mono ?_;rintro e W2 ⟨rfl,hb2⟩;have hgr2:=cA hgr hb2;have HRO2:=G (HRO.out.below hb2);have hbw2:=hbw.trans (hb2.mono hbw.size);clear ci CX t8 HRO;by_cases hk0:k=0
     ·have HGR:=G (STOP.out hk0)
      subst hk0;clear STOP LEAVE TAKE HDR;have HMT:=U (mt=(part,lft++t.drop i,true)) (by rw[M1.out z HSZE.out hz1,HGR.out]);have HF:=G (FC.out (Z ⟨b,off,N⟩) part.length cap part W2 hbw2 (by have h:=(Row.ints HRO2.out).take part.length;rw[HMG.out.take_eq]at h;exact h) rfl (by omega) (fun y hy=>HID.out y (HMG.out.mem hy)));have HRW:=U (∀W',By W2 W'->Row W' b off 3 pre post (part++(lft++t.drop i))) (fun W' h=>by rw[<-List.append_assoc,<-HMG.out.eq];exact Row.below HRO2.out h);have HGW:=U (∀W',By W2 W'->w.grownBy W' (Z b)) (fun W' h=>cA hgr2 h);obtain rfl:=HMT.out;clear HMG HGR HMT;go_wp2_with fail;refine HF.out.mono ?_;rintro e W9 ⟨E9,d9,rfl,hE9,hb9⟩;have HE9:=G hE9;clear hE9;go_wp2_with fail;go_ret3;exact⟨E9,d9,rfl,HE9.out,HRW.out _ hb9,HGW.out _ hb9⟩
     have q0:(k==0)=false:=by simpa using hk0
     by_cases hkl:k<=hi
     ·have q1:decide (k<=hi)=true:=by simpa using hkl
      have HL:=G (LEAVE.out hi hk0 (.inr hkl) (by omega));clear STOP LEAVE TAKE HDR;go_wp2_with fail;go_roundw
      case rel=>exact⟨d,part,lft++[x],i+1,hi,rfl,rfl,by go_num,HL.out,HRO2.out,HID.out,hgr2⟩
      simp[intOf];omega
     have q1:decide (k<=hi)=false:=by simpa using hkl
     have HPX:=G (fun(o:Obj)=>show aB (W2.alloc o) (Z ⟨b,off,N⟩) part from by have h:=(Row.ints HRO2.out).take part.length;rw[HMG.out.take_eq]at h;exact Sl.alloc h o);have HAL:=G (fun(o:Obj)=>show By W2 (W2.alloc o)from ba _ _);go_wp2_with(at_builtin;refine wpList_append_grows _ rfl _ _ 33 rfl 3 i0 (I J 0) 1 8 underlying33 hi0 hiz his hib rfl (by decide) (Z ⟨b,off,N⟩) part.length part.length (part.map (Value.int .i64)) rfl (by intro h;cases h) (by simp) (by intro a ha j u hu;injection ha with ha;subst ha;rw[Addr.add_lit];exact(uQ (HPX.out _) hu)) ⟨W2.heap.size,0,N⟩ 1 1 [I J x] rfl rfl (by intro j u hu;rw[Addr.add_lit,Nat.zero_add];cases j with|zero=>(injection hu with hu;subst hu;simp)|succ j=>(simp at hu)) (by intro u hu;simp at hu;subst hu;rfl) (by omega) (by unfold maxLen;omega) (by omega) ?_;intro v3 W3 hown3 hgn3);obtain⟨A3,c3,rfl,hc3⟩:=fX hown3;have hb3:By W2 W3:=(HAL.out _).trans ((DS hgn3).mono (by simp));have hgr3:=cA hgr2 hb3;have HRO3:=G (HRO2.out.below hb3);have hbw3:=hbw2.trans (hb3.mono hbw2.size);have HI3:=U (aB W3 A3 (part++[x])) (by have h:=Sl.of_own hown3;unfold aB;rw[List.map_append];exact h)
     have HF3:=G (FC.out A3 (part.length+1) c3 (part++[x]) W3 hbw3 HI3.out (by simp) (by omega) (fun y hy=>by
      rcases List.mem_append.1 hy with hy|hy
      ·exact HID.out y (HMG.out.mem hy)
      ·simp at hy;subst hy;exact hix))
     clear hown3 hgn3 hb3 HI3 HRO2 HPX HAL hgr2 hbw2;cases he3:ent (part++[x])with
     |none=>
      have HL:=G (LEAVE.out k hk0 (.inl (by rw[he3];simp)) (by omega));rw[he3]at HF3;clear he3 STOP LEAVE TAKE HDR;go_wp2_with fail;refine HF3.out.mono ?_;rintro e W4 ⟨E4,d4,rfl,hE4,hb4⟩;clear hE4 HF3;simp only[Option.getD_none,Option.isSome_none];go_wp2_with fail;go_roundw
      case rel=>exact⟨d,part,lft++[x],i+1,k,rfl,rfl,by go_num,HL.out,HRO3.out.below hb4,HID.out,cA hgr3 hb4⟩
      simp[intOf];omega
     |some l3=>
      have HTK:=G (TAKE.out hk0 (by rw[he3];rfl) (by omega));rw[he3]at HF3;clear he3 STOP LEAVE TAKE;go_wp2_with fail;refine HF3.out.mono ?_;rintro e W4 ⟨E4,d4,rfl,hE4,hb4⟩;clear hE4 HF3;simp only[Option.getD_some,Option.isSome_some];have hgr4:=cA hgr3 hb4;have HRO4:=G (HRO3.out.below hb4);clear HRO3 hgr3 hbw3 hb4;obtain rfl:=HDR.out;clear HDR;have hlf:lft.length=i-part.length:=by have:=HMG.out.at_;omega
      have HLN:=U ((lft.map (Value.int .i64)).length=Nat.min (i-part.length) (i-part.length)) (by rw[List.length_map,hlf];show _=min _ _;omega)
      have HFT:=U (off+part.length+1+(lft.map (Value.int .i64)).length<=(pre++(part++lft++x::t.drop (i+1)).map (Value.int .i64)++post).length) (by
       have:=HRO4.out.1
       simp only[List.length_append,List.length_map,List.length_cons]
       omega)
      have HPS:=U (0<(lft.map (Value.int .i64)).length->eA (Z ⟨b,off,N⟩) cap (part.length+1)=Z ⟨b,off+part.length+1,N⟩/\∃ad,eA (Z ⟨b,off,N⟩) cap part.length=Z ad/\∀j v,(lft.map (Value.int .i64))[j]?=Z v->W4.cell? (ad.add j)=Z v) (by
       intro h0
       rw[List.length_map]at h0
       refine⟨?_,⟨b,off+part.length,N⟩,?_,?_⟩
       ·unfold eA
        rw[if_neg (by omega),Option.map_some,Addr.add_lit]
        rfl
       ·unfold eA
        rw[if_neg (by omega),Option.map_some,Addr.add_lit]
       ·intro j v hv
        rw[Addr.add_lit]
        have h:=Row.ints HRO4.out
        have h2:=uQ h (j:=part.length+j) (u:=v) (by
         rw[List.map_append,List.map_append,List.append_assoc,List.getElem?_append_right (by simp),List.getElem?_append_left (by
          have:=(List.getElem?_eq_some_iff.1 hv).1
          simp at this|-
          omega)]
         simpa using hv)
        rw[Nat.add_assoc]
        exact h2)
      have hc1:=fun(W:Wv)=>show(Instr.sliceAt 33 (H (Z ⟨b,off,N⟩) t.length cap) (Z (I J ((part.length:Int)+1))) (Z (I J ((i:Int)+1))) N).run prog W=.ok (H (eA (Z ⟨b,off,N⟩) cap (part.length+1)) (i-part.length) (cap-(part.length+1))) W from by
       have h:=yU (Z ⟨b,off,N⟩) t.length cap (part.length+1) (i+1) (by omega) (by omega) W;rw[show((part.length+1:Nat):Int)=(part.length:Int)+1 from by omega,show((i+1:Nat):Int)=(i:Int)+1 from by omega,show i+1-(part.length+1)=i-part.length from by omega]at h;exact h
      have hc2:=fun(W:Wv)=>yU (Z ⟨b,off,N⟩) t.length cap part.length i hpi (by omega) W
      have HBX:=G HRO4.out.box;have hwp:IntKind.i64.wrap ((part.length:Int)+1)=(part.length:Int)+1:=by rw[IntKind.wrap_i64];omega
      have hwi:IntKind.i64.wrap ((i:Int)+1)=(i:Int)+1:=by rw[IntKind.wrap_i64];omega
      clear hlf;generalize eA (Z ⟨b,off,N⟩) cap (part.length+1)=DP at *;generalize eA (Z ⟨b,off,N⟩) cap part.length=SP at *;go_wp2_with fail;refine wp_region_held_drew (S:=fun _=>True) (by kernel_rfl) trivial (fun hHeld=>?_);refine i_ (i:=0) (v:=?_) (Z 87) rfl rfl (by kernel_rfl) (by kernel_rfl) (by kernel_rfl) (fun _ _ _ h=>h) (by rfl) (by assumption) ?_ ?_;rotate_left
      ·intro w hSw;go_simp;try(with_reducible rfl)
      try simp only[Act.put,sA,sB,sC]
      refine i_ (i:=1) (v:=?_) (Z 88) rfl rfl (by kernel_rfl) (by kernel_rfl) (by kernel_rfl) (fun _ _ _ h=>h) (by rfl) (by assumption) ?_ ?_;rotate_left
      ·intro w hSw;go_simp;try(with_reducible rfl)
      try simp only[Act.put,sA,sB,sC]
      refine tV 2 89 (I J ((part.length:Int)+1)) ?_ ?_
      ·intro w hSw;go_simp
      try simp only[Act.put,sA,sB,sC]
      refine i_ (i:=3) (v:=?_) (Z 90) rfl rfl (by kernel_rfl) (by kernel_rfl) (by kernel_rfl) (fun _ _ _ h=>h) (by rfl) (by assumption) ?_ ?_;rotate_left
      ·intro w hSw;go_simp;try(with_reducible rfl)
      try simp only[Act.put,sA,sB,sC]
      refine tV 4 91 (I J ((i:Int)+1)) ?_ ?_
      ·intro w hSw;go_simp
      try simp only[Act.put,sA,sB,sC]
      refine tV 5 92 (H DP (i-part.length) (cap-(part.length+1))) ?_ ?_
      ·intro w hSw;go_simp
      try simp only[Act.put,sA,sB,sC]
      refine i_ (i:=6) (v:=?_) (Z 93) rfl rfl (by kernel_rfl) (by kernel_rfl) (by kernel_rfl) (fun _ _ _ h=>h) (by rfl) (by assumption) ?_ ?_;rotate_left
      ·intro w hSw;go_simp;try(with_reducible rfl)
      try simp only[Act.put,sA,sB,sC]
      refine i_ (i:=7) (v:=?_) (Z 94) rfl rfl (by kernel_rfl) (by kernel_rfl) (by kernel_rfl) (fun _ _ _ h=>h) (by rfl) (by assumption) ?_ ?_;rotate_left
      ·intro w hSw;go_simp;try(with_reducible rfl)
      try simp only[Act.put,sA,sB,sC]
      refine i_ (i:=8) (v:=?_) (Z 95) rfl rfl (by kernel_rfl) (by kernel_rfl) (by kernel_rfl) (fun _ _ _ h=>h) (by rfl) (by assumption) ?_ ?_;rotate_left
      ·intro w hSw;go_simp;try(with_reducible rfl)
      try simp only[Act.put,sA,sB,sC]
      refine tV 9 96 (H SP (i-part.length) (cap-part.length)) ?_ ?_
      ·intro w hSw;go_simp
      try simp only[Act.put,sA,sB,sC]
      refine DA (i:=10) (Z 97) rfl rfl (by kernel_rfl) (by rfl) (.tmp 92) (.tmp 96) 33 33 rfl 3 underlying33 LV _ _ _ _ _ _ rfl rfl b (off+part.length+1) _ 3 HBX.out (lft.map (Value.int .i64)) HLN.out HPS.out HFT.out (dJ lft) ?_;intro W5 hbx5 hg5;refine⟨trivial,?_⟩;try simp only[Act.put,sA,sB,sC]
      refine wpAnyH_done (by kernel_rfl) ?_ _
      all_goals
       have f5:=hbx5.free (off+part.length)
       obtain⟨v5,c5⟩:∃v,W5.cell? ⟨b,off+part.length,N⟩=Z v:=by
        have hlt:off+part.length<(splice (pre++(part++lft++x::t.drop (i+1)).map (Value.int .i64)++post) (off+part.length+1) (lft.map (Value.int .i64))).length:=by
         rw[length_splice _ _ _ HFT.out];have:=HFT.out;omega
        exact⟨_,hbx5.cell (List.getElem?_eq_getElem hlt)⟩
       have HR5:=U (Row (W5.setCell ⟨b,off+part.length,N⟩ (I J x)) b off 3 pre post (part++[x]++lft++t.drop (i+1))) (Row.of_box HRO4.out.1 (by
        have h:=hbx5.set (off+part.length) (I J x)
        rw[O_ HRO4.out.1]at h
        exact h))
       have HG5:=U (w.grownBy (W5.setCell ⟨b,off+part.length,N⟩ (I J x)) (Z b)) (aV (aV (dO hgr4) hg5) (bT _ _ _));have HID5:=U (∀y∈part++[x]++lft++t.drop (i+1),iok y) (fun y hy=>HID.out y (by simp only[List.mem_append,List.mem_cons,List.not_mem_nil,or_false]at hy|-;rcases hy with((h|h)|h)|h<;>simp[h]));clear hbx5 hg5 hgr4 HRO4 HBX;go_wp2_with fail;go_roundw
       case rel=>exact⟨_,part++[x],lft,i+1,hi,by simp,rfl,by go_num,HTK.out,HR5.out,HID5.out,HG5.out⟩
       simp[intOf];omega
    have d2:decide (hi<tp)=false:=by simpa using hht
    have HGR:=G (HMG.out.fin (.inr fun x=>by have:=CT.out x;omega));have HMT:=U (mt=(part,lft++t.drop i,true)) (by rw[M1.out z HSZE.out hz1,HGR.out]);have HF:=G (FC.out (Z ⟨b,off,N⟩) part.length cap part wr hbw (by have h:=(Row.ints HRO.out).take part.length;rw[HMG.out.take_eq]at h;exact h) rfl (by omega) (fun y hy=>HID.out y (HMG.out.mem hy)));have HRW:=U (∀W',By wr W'->Row W' b off 3 pre post (part++(lft++t.drop i))) (fun W' h=>by rw[<-List.append_assoc,<-HMG.out.eq];exact Row.below HRO.out h);have HGW:=U (∀W',By wr W'->w.grownBy W' (Z b)) (fun W' h=>cA hgr h);obtain rfl:=HMT.out;clear HMG HGR HMT;go_wp2_with fail;refine HF.out.mono ?_;rintro e W9 ⟨E9,d9,rfl,hE9,hb9⟩;have HE9:=G hE9;clear hE9;go_wp2_with fail;go_ret3;exact⟨E9,d9,rfl,HE9.out,HRW.out _ hb9,HGW.out _ hb9⟩
   have d1:decide ((i:Int)<(t.length:Int))=false:=by simpa using hil2
   have HGR:=G (HMG.out.fin (.inl (by omega)));have HMT:=U (mt=(part,lft++t.drop i,true)) (by rw[M1.out z HSZE.out hz1,HGR.out]);have HF:=G (FC.out (Z ⟨b,off,N⟩) part.length cap part wr hbw (by have h:=(Row.ints HRO.out).take part.length;rw[HMG.out.take_eq]at h;exact h) rfl (by omega) (fun y hy=>HID.out y (HMG.out.mem hy)));have HRW:=U (∀W',By wr W'->Row W' b off 3 pre post (part++(lft++t.drop i))) (fun W' h=>by rw[<-List.append_assoc,<-HMG.out.eq];exact Row.below HRO.out h);have HGW:=U (∀W',By wr W'->w.grownBy W' (Z b)) (fun W' h=>cA hgr h);obtain rfl:=HMT.out;clear HMG HGR HMT;go_wp2_with fail;refine HF.out.mono ?_;rintro e W9 ⟨E9,d9,rfl,hE9,hb9⟩;have HE9:=G hE9;clear hE9;go_wp2_with fail;go_ret3;exact⟨E9,d9,rfl,HE9.out,HRW.out _ hb9,HGW.out _ hb9⟩
 obtain rfl:z=0:=by omega
 have HM:=G (M0.out HSZ.out);have c0:wr.cell? ⟨b,off,N⟩=Z (I J t[0]):=by
  have h:=HRr.out.cell (i:=0) (List.getElem?_eq_getElem hpos);simpa using h
 have HI:=G (IC.out t[0] wr hbw);have e1:(t.take 1).length=1:=by rw[List.length_take];omega
 have e2:Mtc.ofPart ent imp (t.take 1) false=imp t[0]:=by
  unfold Mtc.ofPart;rw[if_neg (by simp)];congr 1;cases t with
  |nil=>simp at hpos
  |cons y r=>rfl
 have E1:=G e1;have E2:=G e2;clear e1 e2;obtain rfl:=HM.out;generalize t[0]=x at *;go_wp2_with fail;refine HI.out.mono ?_;rintro e W9 ⟨E9,d9,rfl,hE9,hb9⟩;have HE9:=G hE9;clear hE9;go_wp2_with fail;go_ret3;refine⟨E9,d9,?_,?_,?_,cA (cA (aN w _) hbel) hb9⟩
 ·simp only[E1.out,E2.out];rfl
 ·simp only[E2.out];exact HE9.out
 simp only[List.take_append_drop];exact HRr.out.below hb9
end
section
open Go.RowKit
def iC(R:Li->Prop)(b off:Nat)(e:TypeId)(pre post:Lv)(w:Wv)(x:Ending)(w':Wv):Prop:=
 x=.returned (.tuple #[])/\∃d',R d'/\Row w' b off e pre post d'/\w.grownBy w' (Z b)
def SwR(d:Li)(p q k:Nat)(d':Li):Prop:=
 d'.length=d.length/\∀t,d'[t]?=if p<=t/\t<p+k then d[t+(q-p)]? else if q<=t/\t<q+k then d[t-(q-p)]? else d[t]?
theorem SwR.step{d d1:Li}{p q k m:Nat}{x y:Int}(h:SwR d p q k d1)(hk:k<m)(hpq:p+m<=q)(hx:d1[p+k]?=Z x)(hy:d1[q+k]?=Z y):
  SwR d p q (k+1) (Srt.swp d1 (p+k) (q+k) x y):=by
 refine⟨(Srt.swp_len _ _ _ _ _).trans h.1,fun t=>?_⟩;rw[Srt.swp_get d1 (p+k) (q+k) t x y hx hy (by omega),h.2,h.2,h.2];(repeat' split)<;>first|rfl|omega|(congr 1;omega)
theorem eZ{d:Li}{i:Nat}(h:i<d.length):∃x,d[i]?=Z x:=⟨d[i],List.getElem?_eq_getElem h⟩
theorem tE(b off n c p q m:Nat)(e:TypeId)(g:Value)(d:Li)(pre post:Lv)(w:Wv)(hR:Row w b off e pre post d)(hn:d.length=n)
  (hpq:p+m<=q) (hq:q+m<=n) (hbig:n<=1099511627776) :
  Calls prog 210 #[H (Z ⟨b,off,N⟩) n c,I J p,I J q,I J m,g] w (iC (SwR d p q m) b off e pre post w):=by
 subst hn;go_enter func210,ntmps210;go_wp2;go_loopw [10] (fun i wr=>∃(k:Nat)(d1:Li),k<=m/\i=I J k/\SwR d p q k d1/\Row wr b off e pre post d1/\w.grownBy wr (Z b)) (fun i _=>m-(intOf i).toNat)
 case atStart=>
  refine⟨0,d,Nat.zero_le _,rfl,⟨rfl,fun t=>?_⟩,hR,aN _ _⟩;rw[if_neg (by omega),if_neg (by omega)]
 obtain⟨k,d1,hk,rfl,hS,hR1,hg⟩:=hrel;by_cases hlt:k<m
 ·obtain⟨x,hx⟩:=eZ (d:=d1) (i:=p+k) (by rw[hS.1];omega)
  obtain⟨y,hy⟩:=eZ (d:=d1) (i:=q+k) (by rw[hS.1];omega);have cx:=hR1.cell hx;have cy:=hR1.cell hy;have fx:=hR1.frozen (off+(p+k));have fy:=hR1.frozen (off+(q+k));have hne:¬(p+k=q+k):=by omega
  have HX:=G hx;have HY:=G hy;clear hx hy;go_wp2;go_region;go_wp2;go_roundw
  case rel=>
   refine⟨k+1,Srt.swp d1 (p+k) (q+k) x y,by omega,by go_num,hS.step hlt hpq HX.out HY.out,?_,?_⟩
   ·exact(Row.set (hR1.set (by rw[hS.1];omega) y) (by rw[List.length_set,hS.1];omega) x).drew
   exact dO (j_ (j_ hg _ _) _ _)
  simp[intOf];omega
 go_wp2;go_end0;obtain rfl:k=m:=by omega
 exact⟨rfl,d1,hS,hR1,hg⟩
theorem TB{d0 d1 d2:Li}{a m b i j:Nat}(him:i<=m)(hij:j<i)
  (h:∀d',Srt.Rot d1 d' (m-i) m (m+j)->Srt.Rot d0 d' a m b) (hS:SwR d1 (m-i) m j d2):∀d',Srt.Rot d2 d' (m-(i-j)) m (m+j)->Srt.Rot d0 d' a m b:=by
 intro d' hr;apply h;refine⟨hr.1.trans hS.1,fun t=>?_⟩;rw[hr.2 t];simp only[hS.2];(repeat' split)<;>first|rfl|omega|(congr 1;omega)
theorem TD{d0 d1 d2:Li}{a m b i j:Nat}(him:i<=m)(hij:i<j)
  (h:∀d',Srt.Rot d1 d' (m-i) m (m+j)->Srt.Rot d0 d' a m b) (hS:SwR d1 (m-i) (m+j-i) i d2):∀d',Srt.Rot d2 d' (m-i) m (m+(j-i))->Srt.Rot d0 d' a m b:=by
 intro d' hr;apply h;refine⟨hr.1.trans hS.1,fun t=>?_⟩;rw[hr.2 t];simp only[hS.2];(repeat' split)<;>first|rfl|omega|(congr 1;omega)
theorem TA{d0 d1 d2:Li}{a m b i:Nat}(him:i<=m)
  (h:∀d',Srt.Rot d1 d' (m-i) m (m+i)->Srt.Rot d0 d' a m b) (hS:SwR d1 (m-i) m i d2):Srt.Rot d0 d2 a m b:=by
 apply h;refine⟨hS.1,fun t=>?_⟩;rw[hS.2];(repeat' split)<;>first|rfl|omega|(congr 1;omega)
theorem yS(b off n c x m y:Nat)(e:TypeId)(g:Value)(d:Li)(pre post:Lv)(w:Wv)(hR:Row w b off e pre post d)(hn:d.length=n)
  (hxm:x<m) (hmy:m<y) (hy:y<=n) (hbig:n<=1099511627776) :
  Calls prog 204 #[H (Z ⟨b,off,N⟩) n c,I J x,I J m,I J y,g] w (iC (fun d'=>Srt.Rot d d' x m y) b off e pre post w):=by
 subst hn;go_enter func204,ntmps204;go_wp2
 go_loopw [10,11] (fun u v wr=>∃(i j:Nat)(d1:Li),0<i/\0<j/\i<=m/\m+j<=d.length/\u=I J i/\v=I J j/\d1.length=d.length/\(∀d',Srt.Rot d1 d' (m-i) m (m+j)->Srt.Rot d d' x m y)/\
   Row wr b off e pre post d1/\w.grownBy wr (Z b)) (fun u v _=>(intOf u).toNat+(intOf v).toNat)
 case atStart=>
  refine⟨m-x,y-m,d,by omega,by omega,by omega,by omega,by go_num,by go_num,rfl,fun d' h=>?_,hR,aN _ _⟩;rw[show m-(m-x)=x by omega,show m+(y-m)=y by omega]at h;exact h
 obtain⟨i,j,d1,hi,hj,him,hjn,rfl,rfl,hl,hrot,hR1,hg⟩:=hrel;have HR:=G hrot;have HL:=G hl;clear hrot hl;by_cases h1:j<i
 ·have e1:((i:Int)!=(j:Int))=true:=by simp;omega
  have C:=G (tE b off d.length c (m-i) m j e g d1 pre post wr hR1 HL.out (by omega) (by omega) hbig);have hz:((m:Int)-(i:Int))=((m-i:Nat):Int):=by omega
  rw[<-hz]at C;clear hz;go_wp2_with fail;refine C.out.mono ?_;rintro e w1 ⟨rfl,d2,hS,hR2,hg2⟩;go_wp2_with fail;go_roundw
  case rel=>exact⟨i-j,j,d2,by omega,by omega,by omega,by omega,by go_num,rfl,hS.1.trans HL.out,TB him h1 HR.out hS,hR2,aV hg hg2⟩
  simp[intOf];omega
 by_cases h2:i<j
 ·have e1:((i:Int)!=(j:Int))=true:=by simp;omega
  have C:=G (tE b off d.length c (m-i) (m+j-i) i e g d1 pre post wr hR1 HL.out (by omega) (by omega) hbig);have hz:((m:Int)-(i:Int))=((m-i:Nat):Int):=by omega
  have hz':((m:Int)+(j:Int)-(i:Int))=((m+j-i:Nat):Int):=by omega
  rw[<-hz,<-hz']at C;clear hz hz';go_wp2_with fail;refine C.out.mono ?_;rintro e w1 ⟨rfl,d2,hS,hR2,hg2⟩;go_wp2_with fail;go_roundw
  case rel=>exact⟨i,j-i,d2,by omega,by omega,by omega,by omega,rfl,by go_num,hS.1.trans HL.out,TD him h2 HR.out hS,hR2,aV hg hg2⟩
  simp[intOf];omega
 obtain rfl:i=j:=by omega
 have e1:((i:Int)!=(i:Int))=false:=by simp
 have C:=G (tE b off d.length c (m-i) m i e g d1 pre post wr hR1 HL.out (by omega) (by omega) hbig);have hz:((m:Int)-(i:Int))=((m-i:Nat):Int):=by omega
 rw[<-hz]at C;clear hz;go_wp2_with fail;refine C.out.mono ?_;rintro e w1 ⟨rfl,d2,hS,hR2,hg2⟩;go_wp2_with fail;go_end0;exact⟨rfl,d2,TA him HR.out hS,hR2,aV hg hg2⟩
def tS(p:Prop)(w:Wv)(x:Ending)(w':Wv):Prop:=∃c:Int,x=.returned (I J c)/\(c<0 ↔ p)/\By w w'
def gI(b B:Nat)(w0:Wv)(key:Int->Int):Prop:=
 ∀W,w0.grownBy W (Z b)->∀x y:Int,Calls prog 123 #[I J x,I J y,.pointer (Z ⟨B,0,N⟩)] W (tS (key x<key y) W)
theorem gI.later{b B:Nat}{w0 w1:Wv}{key:Int->Int}(h:gI b B w0 key)(hg:w0.grownBy w1 (Z b)):gI b B w1 key:=fun W hW=>h W (aV hg hW)
theorem wJ(b B off n c p q:Nat)(e:TypeId)(key:Int->Int)(d:Li)(pre post:Lv)(w:Wv)(hR:Row w b off e pre post d)(hn:d.length=n)
  (hpq:p<=q) (hq:q<=n) (hbig:n<=1099511627776) (hC:gI b B w key) :
  Calls prog 191 #[H (Z ⟨b,off,N⟩) n c,I J p,I J q,.func (.func 123) #[] #[.pointer (Z ⟨B,0,N⟩)]] w
   (iC (fun d'=>Srt.Done key d d' p q) b off e pre post w):=by
 subst hn;have HC:=G hC;clear hC;go_enter func191,ntmps191;go_wp2;go_loopw [8] (fun i wr=>∃(k:Nat)(d1:Li),p+1<=k/\(k<=q\/k=p+1)/\i=I J k/\Srt.Same d d1 p q/\Srt.St key d d1/\Srt.SortedOn key d1 p k/\Row wr b off e pre post d1/\w.grownBy wr (Z b)) (fun i _=>q-(intOf i).toNat)
 case atStart=>exact⟨p+1,d,Nat.le_refl _,.inr rfl,by go_num,Srt.Same.refl _ _ _,Srt.St.refl _,Srt.SortedOn.short (Nat.le_refl _),hR,aN _ _⟩
 obtain⟨k,d1,hk1,hk2,rfl,hsame,hst,hso,hR1,hg⟩:=hrel;have HA:=G hsame;have HT:=G hst;have HO:=G hso;clear hsame hst hso;by_cases hlt:k<q
 ·obtain⟨wo,rfl⟩:∃wo:Wv,wo=wr:=⟨_,rfl⟩
  go_wp2;go_loopw [9] (fun i wr=>∃(j:Nat)(d2:Li),p<=j/\j<=k/\i=I J j/\Srt.Same d d2 p q/\Srt.St key d d2/\Srt.Ins key d2 p k j/\Row wr b off e pre post d2/\w.grownBy wr (Z b)) (fun i _=>(intOf i).toNat)
  case atStart=>exact⟨k,d1,by omega,Nat.le_refl _,rfl,HA.out,HT.out,Srt.Ins.start HO.out,hR1,hg⟩
  obtain⟨j,d2,hj1,hj2,rfl,hsame,hst,hins,hR2,hg2⟩:=hrel;have HA2:=G hsame;have HT2:=G hst;have HI:=G hins;clear hsame hst hins;by_cases hpj:p<j
  ·have hjn:j<d.length:=by omega
   obtain⟨x,hx⟩:=eZ (d:=d2) (i:=j-1) (by rw[HA2.out.1];omega);obtain⟨y,hy⟩:=eZ (d:=d2) (i:=j) (by rw[HA2.out.1];omega);have cx:=hR2.cell hx;have cy:=hR2.cell hy;have HX:=G hx;have HY:=G hy;have C:=G (fun W hW=>HC.out W hW y x);clear hx hy;have i0:decide (p<j)=true:=by simp;omega
   have i1:IntKind.i64.wrap ((j:Int)-1)=(j:Int)-1:=IntWalk.i64_in _ (by omega);have i2:(0:Int)<=(j:Int)-1:=by omega
   have i2':(1:Int)<=(j:Int):=by omega
   have i2'':1<=j:=by omega
   have i3:((j:Int)-1).toNat=j-1:=by omega
   have i4:(j:Int)-1<(d.length:Int):=by omega
   go_wp2;refine wp_region_still_tail 14 (by kernel_rfl) (by kernel_rfl) ?_;simp only[List.take_succ_cons,List.take_zero,List.drop_succ_cons,List.drop_zero];change wpStill _ _ wr.drew _ _ _;repeat still_step
   refine wpStill_nil ?_;change wpList _ _ _ _ _ wr.drew;go_wp2_with fail;refine(C.out _ (dO hg2)).mono ?_;rintro e w3 ⟨cc,rfl,hcc,hb3⟩;have hR3:=(hR2.drew).below hb3;have hg3:=cA (dO hg2) hb3;have cx3:=hR3.cell HX.out;have cy3:=hR3.cell HY.out;have fx3:=hR3.frozen (off+(j-1));have fy3:=hR3.frozen (off+j);clear hR2 hg2 hb3 cx cy;by_cases hkey:key y<key x
   ·have hneg:cc<0:=hcc.2 hkey
    clear hcc;have hne:¬(j-1=j):=by omega
    go_wp2;go_region;go_wp2;go_roundw
    case rel=>
     refine⟨j-1,Srt.swp d2 (j-1) j x y,by omega,by omega,by go_num,HA2.out.trans (Srt.swp_same HX.out HY.out (by omega) (by omega) (by omega) (by omega) (by omega)),HT2.out.trans ?_,?_,?_,?_⟩
     ·have:=Srt.swp_done (key:=key) (d:=d2) (j:=j-1) HX.out (by rw[show j-1+1=j by omega];exact HY.out) hkey
      rw[show j-1+1=j by omega]at this;exact this
     ·have:=Srt.Ins.step (key:=key) (d:=d2) (a:=p) (i:=k) (j:=j-1) (x:=x) (y:=y) (by rw[show j-1+1=j by omega];exact HI.out) (by omega) (by omega) HX.out (by rw[show j-1+1=j by omega];exact HY.out) hkey
      rw[show j-1+1=j by omega]at this;exact this
     ·rw[Srt.swp,List.set_comm _ _ (by omega)]
      exact(Row.set (hR3.set (i:=j) (by rw[HA2.out.1];omega) x) (i:=j-1) (by rw[List.length_set,HA2.out.1];omega) y).drew
     exact dO (j_ (j_ hg3 _ _) _ _)
    simp[intOf];omega
   have hneg:¬cc<0:=fun h=>hkey (hcc.1 h)
   clear hcc;go_wp2;go_roundw
   case rel=>
    refine⟨k+1,d2,by omega,.inl (by omega),by go_num,HA2.out,HT2.out,HI.out.stop hj1 hj2 (.inr ?_),hR3,hg3⟩;rw[Srt.kf_some HX.out,Srt.kf_some HY.out];omega
   simp[intOf];omega
  have i0:decide (p<j)=false:=by simp;omega
  go_wp2;go_quiet(fail);go_wp2;go_roundw
  case rel=>exact⟨k+1,d2,by omega,.inl (by omega),by go_num,HA2.out,HT2.out,HI.out.stop hj1 hj2 (.inl (by omega)),hR2.drewN _,J_ hg2 _⟩
  simp[intOf];omega
 go_wp2;go_end0;refine⟨rfl,d1,⟨HA.out,HT.out,?_⟩,hR1,hg⟩;by_cases hkq:q<=k
 ·exact HO.out.sub (Nat.le_refl _) hkq
 omega
theorem VR(b B off n c p y:Nat)(e:TypeId)(key:Int->Int)(d:Li)(pre post:Lv)(w:Wv)(hR:Row w b off e pre post d)(hn:d.length=n)
  (hpy:p+1<y) (hy:y<=n) (hbig:n<=1099511627776) (hC:gI b B w key) (hs:Srt.SortedOn key d (p+1) y) :
  Calls prog 192 #[H (Z ⟨b,off,N⟩) n c,I J p,I J ((p:Int)+1),I J y,.func (.func 123) #[] #[.pointer (Z ⟨B,0,N⟩)]] w
   (iC (fun d'=>Srt.Done key d d' p y) b off e pre post w):=by
 subst hn;have HC:=G hC;have HS:=G hs;clear hC hs;obtain⟨x,hx⟩:=eZ (d:=d) (i:=p) (by omega);have HX:=G hx;clear hx;have e1:((p:Int)+1-(p:Int)==1)=true:=by simp;omega
 go_enter func192,ntmps192;go_wp2_with fail
 go_loopw [10,11] (fun u v wr=>∃i j:Nat,p+1<=i/\i<=j/\j<=y/\u=I J i/\v=I J j/\(∀t,p+1<=t->t<i->Srt.kf key d t<Srt.kf key d p)/\(∀t,j<=t->t<y->Srt.kf key d p<=Srt.kf key d t)/\
   Row wr b off e pre post d/\w.grownBy wr (Z b)) (fun u v _=>(intOf v).toNat-(intOf u).toNat)
 case atStart=>exact⟨p+1,y,Nat.le_refl _,by omega,Nat.le_refl _,by go_num,rfl,fun t h1 h2=>by omega,fun t h1 h2=>by omega,hR,aN _ _⟩
 obtain⟨i,j,hi,hij,hj,rfl,rfl,hlo,hhi,hR1,hg⟩:=hrel;have HLO:=G hlo;have HHI:=G hhi;clear hlo hhi;by_cases hlt:i<j
 ·obtain⟨h,hh,h1,h2,h3⟩:∃h:Nat,((i:Int)+(j:Int))/2=(h:Int)/\i<=h/\h<j/\h<d.length:=⟨(i+j)/2,by omega,by omega,by omega,by omega⟩
  obtain⟨z,hz⟩:=eZ (d:=d) (i:=h) h3;have cx:=hR1.cell HX.out;have cz:=hR1.cell hz;have HZ:=G hz;have C:=G (fun W hW=>HC.out W hW z x);clear hz;have hpn:p<d.length:=by omega
  go_wp2_with fail;clear hh;refine wp_region_still_tail 9 (by kernel_rfl) (by kernel_rfl) ?_;simp only[List.take_succ_cons,List.take_zero,List.drop_succ_cons,List.drop_zero];change wpStill _ _ wr.drew _ _ _;repeat still_step
  refine wpStill_nil ?_;change wpList _ _ _ _ _ wr.drew;go_wp2_with fail;refine(C.out _ (dO hg)).mono ?_;rintro e w3 ⟨cc,rfl,hcc,hb3⟩;have hR3:=(hR1.drew).below hb3;have hg3:=cA (dO hg) hb3;clear hR1 hg hb3 cx cz;by_cases hkey:key z<key x
  ·have hneg:cc<0:=hcc.2 hkey
   clear hcc;go_wp2;go_roundw
   case rel=>
    refine⟨h+1,j,by omega,by omega,hj,by go_num,rfl,fun t g1 g2=>?_,HHI.out,hR3,hg3⟩;have k1:=HS.out.le (i:=t) (j:=h) g1 (by omega) (by omega);rw[Srt.kf_some HZ.out]at k1;rw[Srt.kf_some HX.out];omega
   simp[intOf];omega
  have hneg:¬cc<0:=fun g=>hkey (hcc.1 g)
  clear hcc;go_wp2;go_roundw
  case rel=>
   refine⟨i,h,hi,by omega,by omega,rfl,rfl,HLO.out,fun t g1 g2=>?_,hR3,hg3⟩;have k1:=HS.out.le (i:=h) (j:=t) (by omega) g1 g2;rw[Srt.kf_some HZ.out]at k1;rw[Srt.kf_some HX.out];omega
  simp[intOf];omega
 obtain rfl:i=j:=by omega
 obtain⟨wo,rfl⟩:∃wo:Wv,wo=wr:=⟨_,rfl⟩;go_wp2_with fail;go_loopw [13] (fun u wr=>∃(k:Nat)(d1:Li),p<=k/\k+1<=i/\u=I J k/\Srt.Rot d d1 p (p+1) (k+1)/\Row wr b off e pre post d1/\w.grownBy wr (Z b)) (fun u _=>i-(intOf u).toNat)
 case atStart=>exact⟨p,d,Nat.le_refl _,hi,rfl,Srt.rot_triv (by omega) (by omega) (.inr rfl),hR1,hg⟩
 obtain⟨k,d1,hk1,hk2,rfl,hrot,hR2,hg2⟩:=hrel;by_cases hki:k+1<i
 ·obtain⟨x1,hx1⟩:=eZ (d:=d1) (i:=k) (by rw[hrot.1];omega)
  obtain⟨y1,hy1⟩:=eZ (d:=d1) (i:=k+1) (by rw[hrot.1];omega);have cx:=hR2.cell hx1;have cy:=hR2.cell hy1;have fx:=hR2.frozen (off+k);have fy:=hR2.frozen (off+(k+1));have HX1:=G hx1;have HY1:=G hy1;have HRO:=G hrot;clear hx1 hy1 hrot;go_wp2;go_region;go_wp2;go_roundw
  case rel=>
   refine⟨k+1,Srt.swp d1 k (k+1) x1 y1,by omega,by omega,by go_num,Srt.rot_snoc HRO.out hk1 HX1.out HY1.out,?_,?_⟩
   ·exact(Row.set (hR2.set (i:=k) (by rw[HRO.out.1];omega) y1) (i:=k+1) (by rw[List.length_set,HRO.out.1];omega) x1).drew
   exact dO (j_ (j_ hg2 _ _) _ _)
  simp[intOf];omega
 obtain rfl:i=k+1:=by omega
 have HRO:=G hrot;clear hrot;go_wp2;go_end0;exact⟨rfl,d1,Srt.Done.left HRO.out hi hj hy HS.out HLO.out HHI.out,hR2,hg2⟩
theorem VS(b B off n c p m:Nat)(e:TypeId)(key:Int->Int)(d:Li)(pre post:Lv)(w:Wv)(hR:Row w b off e pre post d)(hn:d.length=n)
  (hpm:p+1<m) (hm:m+1<=n) (hbig:n<=1099511627776) (hC:gI b B w key) (hs:Srt.SortedOn key d p m) :
  Calls prog 192 #[H (Z ⟨b,off,N⟩) n c,I J p,I J m,I J ((m:Int)+1),.func (.func 123) #[] #[.pointer (Z ⟨B,0,N⟩)]] w
   (iC (fun d'=>Srt.Done key d d' p (m+1)) b off e pre post w):=by
 subst hn;have HC:=G hC;have HS:=G hs;clear hC hs;obtain⟨x,hx⟩:=eZ (d:=d) (i:=m) (by omega);have HX:=G hx;clear hx;have e1:((m:Int)-(p:Int)==1)=false:=by simp;omega
 have e2:((m:Int)+1-(m:Int)==1)=true:=by simp;omega
 go_enter func192,ntmps192;go_wp2_with fail
 go_loopw [14,15] (fun u v wr=>∃i j:Nat,p<=i/\i<=j/\j<=m/\u=I J i/\v=I J j/\(∀t,p<=t->t<i->Srt.kf key d t<=Srt.kf key d m)/\(∀t,j<=t->t<m->Srt.kf key d m<Srt.kf key d t)/\
   Row wr b off e pre post d/\w.grownBy wr (Z b)) (fun u v _=>(intOf v).toNat-(intOf u).toNat)
 case atStart=>exact⟨p,m,Nat.le_refl _,by omega,Nat.le_refl _,rfl,rfl,fun t h1 h2=>by omega,fun t h1 h2=>by omega,hR,aN _ _⟩
 obtain⟨i,j,hi,hij,hj,rfl,rfl,hlo,hhi,hR1,hg⟩:=hrel;have HLO:=G hlo;have HHI:=G hhi;clear hlo hhi;by_cases hlt:i<j
 ·obtain⟨h,hh,h1,h2,h3⟩:∃h:Nat,((i:Int)+(j:Int))/2=(h:Int)/\i<=h/\h<j/\h<d.length:=⟨(i+j)/2,by omega,by omega,by omega,by omega⟩
  obtain⟨z,hz⟩:=eZ (d:=d) (i:=h) h3;have cx:=hR1.cell HX.out;have cz:=hR1.cell hz;have HZ:=G hz;have C:=G (fun W hW=>HC.out W hW x z);clear hz;have hpn:m<d.length:=by omega
  go_wp2_with fail;clear hh;refine wp_region_still_tail 9 (by kernel_rfl) (by kernel_rfl) ?_;simp only[List.take_succ_cons,List.take_zero,List.drop_succ_cons,List.drop_zero];change wpStill _ _ wr.drew _ _ _;repeat still_step
  refine wpStill_nil ?_;change wpList _ _ _ _ _ wr.drew;go_wp2_with fail;refine(C.out _ (dO hg)).mono ?_;rintro e w3 ⟨cc,rfl,hcc,hb3⟩;have hR3:=(hR1.drew).below hb3;have hg3:=cA (dO hg) hb3;clear hR1 hg hb3 cx cz;by_cases hkey:key x<key z
  ·have hneg:decide (cc<0)=true:=by simpa using hcc.2 hkey
   clear hcc;go_wp2;go_roundw
   case rel=>
    refine⟨i,h,hi,by omega,by omega,rfl,rfl,HLO.out,fun t g1 g2=>?_,hR3,hg3⟩;have k1:=HS.out.le (i:=h) (j:=t) (by omega) g1 g2;rw[Srt.kf_some HZ.out]at k1;rw[Srt.kf_some HX.out];omega
   simp[intOf];omega
  have hneg:decide (cc<0)=false:=by simpa using fun g=>hkey (hcc.1 g)
  clear hcc;go_wp2;go_roundw
  case rel=>
   refine⟨h+1,j,by omega,by omega,hj,by go_num,rfl,fun t g1 g2=>?_,HHI.out,hR3,hg3⟩;have k1:=HS.out.le (i:=t) (j:=h) g1 (by omega) (by omega);rw[Srt.kf_some HZ.out]at k1;rw[Srt.kf_some HX.out];omega
  simp[intOf];omega
 obtain rfl:i=j:=by omega
 obtain⟨wo,rfl⟩:∃wo:Wv,wo=wr:=⟨_,rfl⟩;go_wp2_with fail;go_loopw [17] (fun u wr=>∃(k:Nat)(d1:Li),i<=k/\k<=m/\u=I J k/\Srt.Rot d d1 k m (m+1)/\Row wr b off e pre post d1/\w.grownBy wr (Z b)) (fun u _=>(intOf u).toNat)
 case atStart=>exact⟨m,d,hj,Nat.le_refl _,rfl,Srt.rot_triv (by omega) (by omega) (.inl rfl),hR1,hg⟩
 obtain⟨k,d1,hk1,hk2,rfl,hrot,hR2,hg2⟩:=hrel;by_cases hki:i<k
 ·obtain⟨x1,hx1⟩:=eZ (d:=d1) (i:=k-1) (by rw[hrot.1];omega)
  obtain⟨y1,hy1⟩:=eZ (d:=d1) (i:=k) (by rw[hrot.1];omega);have cx:=hR2.cell hx1;have cy:=hR2.cell hy1;have fx:=hR2.frozen (off+(k-1));have fy:=hR2.frozen (off+k);have HX1:=G hx1;have HY1:=G hy1;have HRO:=G hrot;clear hx1 hy1 hrot;have i1:IntKind.i64.wrap ((k:Int)-1)=(k:Int)-1:=IntWalk.i64_in _ (by omega);have i2:(0:Int)<=(k:Int)-1:=by omega
  have i2':(1:Int)<=(k:Int):=by omega
  have i2'':1<=k:=by omega
  have i3:((k:Int)-1).toNat=k-1:=by omega
  have i4:(k:Int)-1<(d.length:Int):=by omega
  have hne:¬(k-1=k):=by omega
  go_wp2;go_region;go_wp2;go_roundw
  case rel=>
   refine⟨k-1,Srt.swp d1 (k-1) k x1 y1,by omega,by omega,by go_num,?_,?_,?_⟩
   ·have:=Srt.rot_cons (d:=d) (d1:=d1) (k:=k-1) (m:=m) (x:=x1) (y:=y1) (by rw[show k-1+1=k by omega];exact HRO.out) (by omega) HX1.out (by rw[show k-1+1=k by omega];exact HY1.out)
    rw[show k-1+1=k by omega]at this;exact this
   ·rw[Srt.swp,List.set_comm _ _ (by omega)]
    exact(Row.set (hR2.set (i:=k) (by rw[HRO.out.1];omega) x1) (i:=k-1) (by rw[List.length_set,HRO.out.1];omega) y1).drew
   exact dO (j_ (j_ hg2 _ _) _ _)
  simp[intOf];omega
 obtain rfl:i=k:=by omega
 have HRO:=G hrot;clear hrot;go_wp2;go_end0;exact⟨rfl,d1,Srt.Done.right HRO.out hj hi hm HS.out HLO.out HHI.out,hR2,hg2⟩
end
end Go.Proofs.YtkhmjidaeliccaaGreatDoor
