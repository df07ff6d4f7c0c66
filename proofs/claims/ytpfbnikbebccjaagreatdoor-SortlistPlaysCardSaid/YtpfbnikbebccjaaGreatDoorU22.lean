import Derived.Test.YtpfbnikbebccjaaGreatDoorU00
import Derived.Test.YtpfbnikbebccjaaGreatDoorU15
import Derived.Test.YtpfbnikbebccjaaGreatDoorU16
import Derived.Test.YtpfbnikbebccjaaGreatDoorU21
import Derived.Deep.Cut
set_option maxRecDepth 100000
set_option maxHeartbeats 51200000
namespace Go.Proofs.YtpfbnikbebccjaaGreatDoor
open Option renaming none->N,some->Z
open Value renaming int->I,slice->H
open IntKind renaming i64->J
open Go.Proofs.Tryz
section
open Go.RowKit Go.Maps Go.WideMaps Srl
section
variable {P:Program}{w:Wv}{ops:Array Oper}{rest:List Oper}{o:Oper}{a:Act}{Q:Exit->Act->Wv->Prop}
theorem EA{κ:Type}{k:TypeId}{kl:κ->Lit}{ok:κ->Prop}{b n sz:Nat}{f:κ->Option Value}(hg:o.guard=N)(m:Operand)(t:TypeId)(hop:o.op=Op.call { callee:=Callee.builtin Builtin.len,args:=#[m],argTypes:=#[t] }){e:TypeId}(h:b_ P k kl ok w b n f sz)(ht:P.underlying t=Z (.map k e))
  (hm:a.eval m=.map (Z b)) (hK:wpList P ops Q rest (a.put o.dst (.int .i64 sz)) w):wpList P ops Q (o::rest) a w:=by
 refine wpList_plain hg fun K' hK'=>?_
 unfold Oper.wp;simp[execOp,hop,resolve,invoke,builtin,hm,h.len ht o.type,Result.andThen];exact hK' _ _ hK
end
def iJ(v:Value)(l bs:Nat)(V:LsV)(mb:Nat)(O:Oa)(cnt:Nat)(x:Nrm)(c:Col)(o:Opt)(L':Its)(w:Wv)(e:Ending)(w':Wv):Prop:=
 e=.returned v/\∃O' oc' f',Lst w' l bs V mb O' oc' cnt x c o f' L'/\Chg (Lf l mb O) w w'/\(blk O'=blk O\/∀q,blk O'=Z q->w.heap.size<=q)
theorem oV(mb:Nat)(W:Wv):(binOp .eql 78 (.map (Z mb)) (.map N)).run prog W=.ok (.bool false) W:=by kernel_rfl
theorem yU(l mb:Nat)(O:Oa):Lf l mb O l:=.inl rfl
theorem yV(l mb:Nat)(O:Oa):Lf l mb O mb:=.inr (.inl rfl)
theorem yW{l mb:Nat}{O:Oa}{q:Nat}(h:blk O=Z q):Lf l mb O q:=.inr (.inr h)
theorem nM{w w':Wv}{base n c:Nat}{e:TypeId}{A:Oa}{cs:Lv}{r:Option Nat}(h:w.ownsRow base e 1 (H A n c) n cs)(hg:w.grownBy w' r)(hr:∀q,r=Z q->¬blk A=Z q):w'.ownsRow base e 1 (H A n c) n cs:=by
 refine h.kept hg ?_;rw[dZ];cases hb:blk A with
 |none=>exact .inl rfl
 |some q=>exact .inr (fun e=>hr q e.symm hb)
section
variable {w w1 w2 w3:Wv}{l bs:Nat}{V:LsV}{mb:Nat}{O:Oa}{oc cnt:Nat}{x:Nrm}{c:Col}{o:Opt}{f:Int->Option Value}{L:Its}
theorem Lst.rem(h:Lst w l bs V mb O oc cnt x c o f L){i:Nat}(hi:i<L.length)(hrow:w1.ownsRow bs 3 1 (H O (L.length-1) oc) (L.length-1) ((lM (idsL L) i).map (Value.int .i64)))(hg1:w.grownBy w1 (blk O))
  (hm:b_ prog 3 iN iok w3 mb cnt (fun z=>if z=L[i].1 then N else f z) (L.length-if(f L[i].1).isSome=true then 1 else 0)) (hg3:(w1.setCell ⟨l,13,N⟩ (H O (L.length-1) oc)).grownBy w3 (Z mb)) :
  Lst w3 l bs V mb O oc cnt x c o (fun z=>if z=L[i].1 then N else f z) (remL L L[i].1)/\Chg (Lf l mb O) w w3:=by
 obtain⟨T,tk,K,kk,hf,_⟩:=h.get hi;rw[hf]at hm;have e1:=remL_at h.srt.one hi;have el:(remL L L[i].1).length=L.length-1:=by have:=remL_len1 h.srt.one (List.mem_map_of_mem (f:=Prod.fst) (List.getElem_mem hi));omega
 have eid:idsL (remL L L[i].1)=lM (idsL L) i:=by rw[e1];unfold idsL lM;rw[List.map_append,List.map_take,List.map_drop]
 have hgs:w1.grownBy (w1.setCell ⟨l,13,N⟩ (H O (L.length-1) oc)) (Z l):=dU w1 ⟨l,13,N⟩ _;have hc:Chg (Lf l mb O) w w3:=((Chg.of_grown hg1 (fun q e=>yW e)).trans (Chg.of_grown hgs (fun q e=>by injection e with e;subst e;exact yU _ _ _))).trans (Chg.of_grown hg3 (fun q e=>by injection e with e;subst e;exact yV _ _ _));refine⟨h.step hc (.inl rfl) ?_ (by rw[el];exact hm) ?_ (fun p hp=>.inl ?_) (fun id hid hn=>?_) (remL_srt h.srt _) (fun p hp=>h.ok p (remL_mem.1 hp).1) (by have:=h.len;omega),hc⟩
 ·rw[el]
  have b1:=h.box.grown hg1 (fun e=>h.nlo e.symm);have b2:=b1.set 13 (H O (L.length-1) oc);exact b2.grown hg3 (fun e=>h.nlm (by injection e))
 ·rw[el,eid]
  exact nM (nM hrow hgs (fun q e g=>h.nlo (by injection e with e;rw[e];exact g))) hg3 (fun q e g=>h.nmo (by injection e with e;rw[e];exact g))
 ·have hm':=remL_mem.1 hp
  exact⟨hm'.1,by rw[if_neg hm'.2]⟩
 by_cases e:id=L[i].1
 ·rw[if_pos e]
 rw[if_neg e];refine h.gone id hid (fun hin=>hn ?_);rw[remL_ids,List.mem_filter];exact⟨hin,by simpa using e⟩
end
theorem nR{w:Wv}{l bs:Nat}{V:LsV}{mb:Nat}{O:Oa}{oc cnt:Nat}{x:Nrm}{c:Col}{o:Opt}{f:Int->Option Value}{L:Its}(h:Lst w l bs V mb O oc cnt x c o f L)(id:Int)(hid:iok id):
  Calls prog 14 #[.pointer (Z ⟨l,0,N⟩),I J id] w (iJ (.bool (decide (id∈idsL L))) l bs V mb O cnt x c o (remL L id) w):=by
 have PC:=G (qC h id hid);by_cases hin:id∈idsL L
 ·obtain⟨p,hp,hpe⟩:=List.mem_map.1 hin
  obtain⟨i,hi,rfl⟩:=List.getElem_of_mem hp;subst hpe;have PA:=posL_at h.srt.one hi;rw[PA]at PC;rw[decide_eq_true hin];have hL100:=h.len;have HH:=G h;have RM:=G (fun w0(hw:Lst w0 l bs V mb O oc cnt x c o f L)w1 w3 a b c' d=>Lst.rem (w:=w0) (w1:=w1) (w3:=w3) hw hi a b c' d);have HID:=G hid;have hil:=idsL_len (L:=L);have DC:=G (fun(W:Wv) hr=>LE O L.length oc bs i (idsL L) W hr hil hi);rw[show((i+1:Nat):Int)=(i:Int)+1 from rfl]at DC;have DM:=G (fun(W:Wv) (hW:Lst W l bs V mb O oc cnt x c o f L) W2 (hg:W.grownBy W2 (blk O))=>show b_ prog 3 iN iok (W2.setCell ⟨l,13,N⟩ (H O (L.length-1) oc)) mb cnt f L.length from(hW.map.kept hg (fun e=>hW.nmo e.symm)).kept (dU W2 ⟨l,13,N⟩ _) (fun e=>hW.nlm (by injection e with e;exact e.symm)));have hn1:1<=L.length:=by omega
  generalize L[i].1=id at *;have hcast:((L.length-1:Nat):Int)=(L.length:Int)-1:=by omega
  have HCA:=G hcast;clear h hp hin PA hid hil hcast;go_enter func14,ntmps14;go_wp2_with fail;with_reducible refine PC.out.mono ?_
  rintro e W1 ⟨rfl,hb1⟩;have H1:=G (HH.out.below hb1);have X1:=H1.out.box;unfold lsC at X1;have c13:=X1.c 13 rfl;have DCi:=G (DC.out W1 H1.out.row);clear PC DC HH;go_wp2_with fail;with_reducible refine DCi.out.mono ?_
  rintro e W2 ⟨rfl,hr2,hg2⟩;have X2:=X1.grown hg2 (fun e=>H1.out.nlo e.symm);have f13:=X2.free 13;have g13:=X2.c 13 rfl;have X3:=X2.set 13 (H O (L.length-1) oc);have c12:=X3.c 12 rfl;have HM:=G (DM.out W1 H1.out W2 hg2);have HR2:=G hr2;have HG2:=G hg2;clear DCi DM X1 X2 X3 hr2 hg2 c13;go_wp2_with(refine zAY rfl _ _ 78 rfl HM.out eD underlying78 rfl rfl HID.out (eC HID.out) (fun z _ e=>mE e) ?_;intro W4 hM4 hg4);go_ret;obtain⟨r1,r2⟩:=RM.out W1 H1.out W2 W4 HR2.out HG2.out hM4 hg4;exact⟨rfl,O,oc,_,r1,(Chg.of_below hb1).trans r2,.inl rfl⟩
 rw[posL_none hin]at PC;rw[remL_none hin,decide_eq_false hin];have HH:=G h;clear h hin hid;go_enter func14,ntmps14;go_wp2_with fail;with_reducible refine PC.out.mono ?_
 rintro e W1 ⟨rfl,hb1⟩;clear PC;go_wp2_with fail;go_ret;exact⟨rfl,O,oc,f,HH.out.below hb1,Chg.of_below hb1,.inl rfl⟩
theorem O_{K:Li->Li}(L:Its)(id:Int)(t:Li):idsL (putL K L id t)=jD (idsL (remL L id)) (atL K L id t) id:=by
 unfold idsL putL jD;rw[List.map_append,List.map_cons,List.map_take,List.map_drop]
section
variable {w w4 w5 w6:Wv}{l bs:Nat}{V:LsV}{mb:Nat}{O:Oa}{oc cnt:Nat}{x:Nrm}{c:Col}{o:Opt}{f:Int->Option Value}{L L0:Its}
theorem Lst.put(h:Lst w l bs V mb O oc cnt x c o f L){id:Int}{t:Li}(hL:L=remL L0 id)(h0:Srt (kyN x c o) L0)(hid:iok id)(ht:t.length<=1000)(hio:∀z∈t,iok z)(hlen:L.length<=99){T:Oa}{tk:Nat}{K:Oa}{kk:Nat}
  (hb4:By w w4) (hT:w4.ownsRow w.heap.size 3 1 (H T t.length tk) t.length (t.map (Value.int .i64))) (hK:ApI (Lf l mb O) w K (kyN x c o t))
  (hm:b_ prog 3 iN iok w5 mb (cnt+1) (fun z=>if z=id then Z (.agg #[H T t.length tk,H K (kyN x c o t).length kk])else f z) (if(f id).isSome=true then L.length else L.length+1)) (hg5:w4.grownBy w5 (Z mb))
  {B:Oa} {k:Nat} (hr:w6.ownsRow bs 3 1 (H B (L.length+1) k) (L.length+1) ((jD (idsL L) (atL (kyN x c o) L0 id t) id).map (Value.int .i64))) (hg6:(w5.alloc (.cells #[I J id] 3)).grownBy w6 (blk O)) (hB:blk B=blk O\/B=Z ⟨(w5.alloc (.cells #[I J id] 3)).heap.size,0,N⟩) :
  ∃f',Lst (w6.setCell ⟨l,13,N⟩ (H B (L.length+1) k)) l bs V mb B k (cnt+1) x c o f' (putL (kyN x c o) L0 id t)/\Chg (Lf l mb O) w (w6.setCell ⟨l,13,N⟩ (H B (L.length+1) k))/\(blk B=blk O\/∀q,blk B=Z q->w.heap.size<=q):=by
 have hni:id ∉ idsL L:=by rw[hL];exact remL_not
 have hfn:=h.gone id hid hni;rw[hfn]at hm;have el:(putL (kyN x c o) L0 id t).length=L.length+1:=by rw[putL_len,<-hL]
 have eid:idsL (putL (kyN x c o) L0 id t)=jD (idsL L) (atL (kyN x c o) L0 id t) id:=by rw[O_,<-hL]
 have hlw:=h.box.lt;have hmw:=h.map.lt;have z4:=hb4.size;have z5:=hg5.size;have hal:By w5 (w5.alloc (.cells #[I J id] 3)):=ba _ _;have zal:=hal.size;have hgs:w6.grownBy (w6.setCell ⟨l,13,N⟩ (H B (L.length+1) k)) (Z l):=dU w6 ⟨l,13,N⟩ _
 have hBn:∀q,blk B=Z q->blk B=blk O\/(w5.alloc (.cells #[I J id] 3)).heap.size<=q:=fun q hq=>by
  rcases hB with g|g
  ·exact .inl g
  right;rw[g]at hq;have hq':=Option.some.inj (show Z (w5.alloc (.cells #[I J id] 3)).heap.size=Z q from hq);omega
 have hO':blk B=blk O\/∀q,blk B=Z q->w.heap.size<=q:=by
  rcases hB with g|g
  ·exact .inl g
  right;intro q hq;rw[g]at hq;have hq':=Option.some.inj (show Z (w5.alloc (.cells #[I J id] 3)).heap.size=Z q from hq);omega
 have c45:Chg (Lf l mb O) w4 w5:=Chg.of_grown hg5 (fun q e=>by injection e with e;subst e;exact yV _ _ _);have c5:Chg (Lf l mb O) w5 (w6.setCell ⟨l,13,N⟩ (H B (L.length+1) k)):=((Chg.of_below hal).trans (Chg.of_grown hg6 (fun q e=>yW e))).trans (Chg.of_grown hgs (fun q e=>by injection e with e;subst e;exact yU _ _ _));have c4:=c45.trans c5;have hc:=(Chg.of_below (S:=Lf l mb O) hb4).trans c4;have hO4:blk B=blk O\/∀q,blk B=Z q->w4.heap.size<=q:=by
  rcases hB with g|g
  ·exact .inl g
  right;intro q hq;rw[g]at hq;have hq':=Option.some.inj (show Z (w5.alloc (.cells #[I J id] 3)).heap.size=Z q from hq);omega
 have hOb:∀q,blk O=Z q->q<w.heap.size:=fun q hq=>(dD h.row hq).2
 have nlB:¬blk B=Z l:=fun e=>by
  rcases hBn l e with g|g
  ·exact h.nlo (by rw[<-g];exact e)
  omega
 have nmB:¬blk B=Z mb:=fun e=>by
  rcases hBn mb e with g|g
  ·exact h.nmo (by rw[<-g];exact e)
  omega
 have apT:ApI (Lf l mb O) w4 T t:=⟨Sl.of_own hT,fun hne q hq hS=>by
  have h1:=(dD hT hq).1
  rcases hS with g|g|g
  ·omega
  ·omega
  ·have:=hOb q g;omega⟩
 refine⟨_,h.step hc hO' ?_ (by rw[el];simpa using(((hm.below hal).kept hg6 (fun e=>h.nmo e.symm)).kept hgs (fun e=>h.nlm (by injection e with e;exact e.symm)))) ?_ (fun p hp=>?_) (fun id' hid' hn=>?_) (putL_srt h0 _ _) (fun p hp=>?_) (by rw[el];omega),hc,hO'⟩
 ·rw[el]
  have b4:=h.box.below hb4 hlw;have b5:=b4.grown hg5 (fun e=>h.nlm (by injection e));have b6:=(aS b5 _).grown hg6 (fun e=>h.nlo e.symm);exact b6.set 13 _
 ·rw[el,eid]
  exact nM hr hgs (fun q e g=>nlB (by injection e with e;rw[e];exact g))
 ·rcases putL_mem.1 hp with rfl|⟨g1,g2⟩
  ·right
   exact⟨T,tk,K,kk,by simp,apT.to c4 (fE hO4),hK.to hc (fE hO')⟩
  left;refine⟨by rw[hL];exact remL_mem.2 ⟨g1,g2⟩,?_⟩;rw[if_neg g2]
 ·rw[eid]at hn
  unfold jD at hn;have h1:id'≠id:=fun e=>hn (by rw[e];simp)
  rw[if_neg h1];refine h.gone id' hid' (fun hin=>hn ?_);rw[<-List.take_append_drop (atL (kyN x c o) L0 id t) (idsL L),List.mem_append]at hin;rw[List.mem_append,List.mem_cons];rcases hin with g|g
  ·exact .inl g
  exact .inr (.inr g)
 rcases putL_mem.1 hp with rfl|⟨g1,g2⟩
 ·exact⟨hid,ht,hio⟩
 exact h.ok p (by rw[hL];exact remL_mem.2 ⟨g1,g2⟩)
end
theorem qD{w:Wv}{l bs:Nat}{V:LsV}{mb:Nat}{O:Oa}{oc cnt:Nat}{x:Nrm}{c:Col}{o:Opt}{f:Int->Option Value}{L:Its}(h:Lst w l bs V mb O oc cnt x c o f L)(id:Int)(hid:iok id)(D:Oa)(dk:Nat)(t:Li)(hD:ApI (Lf l mb O) w D t)(ht:t.length<=1000)(hio:∀z∈t,iok z)(hr99:(remL L id).length<=99)(hcn:cnt<maxLen):
  Calls prog 16 #[.pointer (Z ⟨l,0,N⟩),I J id,H D t.length dk] w (iJ (.tuple #[I J (atL (kyN x c o) L id t:Nat),I J 0]) l bs V mb O (cnt+1) x c o (putL (kyN x c o) L id t) w):=by
 have HID:=G hid;have HIO:=G hio;have hL100:=h.len;have HM:=G h.map;have X0:=h.box;unfold lsC at X0;have l0:=X0.lt;have c12:=X0.c 12 rfl;have HCN:=G hcn;have HAP:=G (fun W0(b0:By w W0)W1(hc:Chg (Lf l mb O) W0 W1)W(hb:By W1 W)=>show aA W D t from((show ApI (Lf l mb O) W0 D t from⟨hD.1.below b0,hD.2⟩).chg hc).below hb);by_cases hin:id∈idsL L
 ·obtain⟨p,hp,hpe⟩:=List.mem_map.1 hin
  obtain⟨T0,tk0,K0,kk0,hf,_,_⟩:=h.item p hp;have hrl:=remL_len1 h.srt.one hin;rw[hpe]at hf;have HF:=G hf;have B0:By w (w.alloc (.cells #[H T0 p.2.length tk0,H K0 (kyN x c o p.2).length kk0] 97)):=ba _ _;have W0E:∃W0,(w.alloc (.cells #[H T0 p.2.length tk0,H K0 (kyN x c o p.2).length kk0] 97))=W0:=⟨_,rfl⟩;have hoth:(L.length:Int)-1=((remL L id).length:Int):=by omega
  have NM:∀W,(binOp .eql 78 (.map (Z mb)) (.map N)).run prog W=.ok (.bool false) W:=oV mb;have HOT:=G hoth;have HD:=G hD;have HH:=G h;clear h hD hio hid hin hoth hrl hp hpe hf X0 hcn;go_enter func16,ntmps16;go_upto_region 5 with(first|(refine EA rfl _ 78 rfl HM.out underlying78 rfl ?_)|(at_lookup;refine gY rfl _ _ 78 rfl HM.out.is eD underlying78 (jI _) rfl rfl HID.out (eC HID.out) ?_;rw[HF.out];first|rw[Option.getD_some,Option.isSome_some]|rw[Option.getD_none,Option.isSome_none]))
  obtain⟨W0,hW0⟩:=W0E;try rw[hW0]at B0|-
  clear hW0 c12;have H0:=G (HH.out.below B0);have RC:=G (nR H0.out id HID.out);unfold iJ at RC;go_upto_region 9 with(fail)
  go_wp2_with fail;with_reducible refine RC.out.mono ?_
  rintro e W1 ⟨rfl,O1,oc1,f1,h1,hc1,hO1⟩;have H1:=G h1;have HC1:=G hc1;have HO1:=G hO1;have HD1:=G (HAP.out W0 B0 W1 hc1);have hap:=((HD1.out W1 (Below.refl _ _)));have KC:=G (nP h1 D t.length dk t hap rfl (by omega) HIO.out);unfold bE at KC;clear RC h1 hc1 hO1 hap H0;go_wp2_with fail;with_reducible refine KC.out.mono ?_
  rintro e W2 ⟨K,kk,rfl,hK,hb2⟩;have HK:=G hK;have HB2:=G hb2;have H2:=G (H1.out.below hb2);have PC:=G (uC H2.out K kk (kyN x c o t) id (Sl.of_own hK) (by have:=iF x c o t;omega));have hat:plc (kL (kyN x c o) (remL L id)) (kyN x c o t,id)=atL (kyN x c o) L id t:=rfl;rw[hat]at PC;clear KC hK hb2 hat;have hatle:=atL_le (K:=kyN x c o) (L:=L) (id:=id) (t:=t);generalize hatg:atL (kyN x c o) L id t=at0 at *;have HATG:=G hatg;clear hatg;go_wp2_with fail;with_reducible refine PC.out.mono ?_
  rintro e W3 ⟨rfl,hb3⟩;have H3:=G (H2.out.below hb3);have X3:=H3.out.box;unfold lsC at X3;have l3:=X3.lt;have SH:=G (fun W'(hg:W3.grownBy W' (Z mb))=>show W'.cell? ⟨l,12,N⟩=Z (.map (Z mb))/\W3.grownBy W' (Z mb)from⟨(X3.grown hg (fun e=>H3.out.nlm (by injection e))).c 12 rfl,hg⟩);have HB3:=G hb3;have CLC:=G (fun W(hb:By W3 W)=>jC D t.length dk t W (HD1.out W (((HB2.out.trans (HB3.out.mono HB2.out.size)).trans (hb.mono (Nat.le_trans HB2.out.size HB3.out.size))))) rfl (by omega));unfold bE at CLC;have TCL:=G (fun W(hg:W3.grownBy W (Z mb))(hb:By W3 W)=>(CLC.out W hb).mono (R':=fun e W'=>∃v,e=.returned v/\(W'.cell? ⟨l,12,N⟩=Z (.map (Z mb))/\W3.grownBy W' (Z mb))/\(∃T tk,v=H T t.length tk/\W'.ownsRow W3.heap.size 3 1 (H T t.length tk) t.length (t.map (Value.int .i64))/\By W3 W')) (fun e W'⟨T,tk,he,g1,g2⟩=>⟨_,he,SH.out W' (cT hg g2),T,tk,rfl,eL g1 hb.size,hb.trans (g2.mono hb.size)⟩));clear PC hb3 CLC X3;go_upto_region 12 with(fail)
  refine wp_region_held_drew (S:=fun W'=>W'.cell? ⟨l,12,N⟩=Z (.map (Z mb))/\W3.grownBy W' (Z mb)) (by kernel_rfl) (SH.out _ (c_ (aO W3 _))) (fun hHeld=>?_);refine tK 0 56 ?_;refine tK 1 57 ?_;refine tK 2 58 ?_;refine tK 3 59 ?_;refine tK 4 60 ?_;refine tK 5 61 ?_;refine tK 7 63 ?_;refine qE 6 62 (TCL.out _ (c_ (aO W3 _)) (Below.refl _ _).drew) ?_;clear hHeld;rintro _ W4 hHeld ⟨T,tk,rfl,hT,hb4⟩;refine tK 8 64 ?_;have HM4:=G (b_.below H3.out.map hb4);refine vK (i:=9) N rfl rfl (by kernel_rfl) (by rfl) _ _ _ 78 rfl HM4.out eD underlying78 HCN.out rfl rfl rfl HID.out (eC HID.out) (fun z _ e=>mE e) (fun W' hg=>SH.out W' (bF (hHeld.2) hg)) ?_;intro W5 hM5 hg5;try simp only[Act.put]
  refine wpAnyH_done (by kernel_rfl) ?_ _;have HT:=G hT;have HB4:=G hb4;have HM5:=G hM5;have HG5:=G hg5;have X5:Box W5 l 80 (lsC V x c o mb O1 (remL L id).length oc1):=(H3.out.box.below hb4 l3).grown hg5 (fun e=>H3.out.nlm (by injection e));have R5:=nM (aK H3.out.row hb4) hg5 (fun q e g=>H3.out.nmo (by injection e with e;rw[e];exact g));unfold lsC at X5;have l5:=X5.lt;have c13:=X5.c 13 rfl;have hbs5:bs<=W5.heap.size:=by have:=H3.out.bs_le;have:=hb4.size;have:=hg5.size;omega
  have XI:Box (W5.alloc (.cells #[I J id] 3)) W5.heap.size 3 [I J id]:=Box.new W5 3 [I J id] rfl;have hob:∀g,blk O1=Z g->W5.heap.size≠g:=fun g hg e=>by have:=(dD R5 hg).2;omega
  have X6:=aS X5 (.cells #[I J id] 3);have IC:=G (yD O1 (remL L id).length oc1 bs at0 (idsL (remL L id)) id W5.heap.size 1 (W5.alloc (.cells #[I J id] 3)) (aK R5 (ba _ _)) (by simp;omega) idsL_len hatle XI hob (by omega));have HX6:=G X6;have hil:=idsL_len (L:=remL L id);unfold mO at IC;rw[hil]at IC;have WIE:∃WI,(W5.alloc (.cells #[I J id] 3))=WI:=⟨_,rfl⟩;clear hHeld SH TCL hT hb4 hM5 hg5 X5 R5 XI X6 hil;go_wp2_with fail;with_reducible refine IC.out.mono ?_
  rintro e W6 ⟨B,k,rfl,hr6,hg6,hB6⟩;have X7:=HX6.out.grown hg6 (fun e=>H3.out.nlo e.symm);have f13:=X7.free 13;have g13:=X7.c 13 rfl;have HR6:=G hr6;have HG6:=G hg6;have HB6:=G hB6;clear IC hr6 hg6 hB6 X7 HX6 c13 hob;go_wp2_with fail;go_ret2
  have apK:ApI (Lf l mb O1) W3 K (kyN x c o t):=⟨(Sl.of_own HK.out:aA W2 K _).below HB3.out,fun hne q hq hS=>by
   have h1:=(dD HK.out hq).1
   rcases hS with g|g|g
   ·have:=H1.out.box.lt;omega
   ·have:=H1.out.map.lt;omega
   ·have:=(dD H1.out.row g).2;omega⟩
  obtain⟨f',r1,r2,r3⟩:=H3.out.put rfl HH.out.srt HID.out ht HIO.out (by omega) HB4.out HT.out apK HM5.out HG5.out (by rw[HATG.out];exact HR6.out) HG6.out HB6.out;have cb:Chg (Lf l mb O) w W3:=((Chg.of_below B0).trans (HC1.out)).trans ((Chg.of_below (S:=Lf l mb O) HB2.out).trans (Chg.of_below HB3.out));have hz:w.heap.size<=W3.heap.size:=cb.size;refine⟨rfl,B,k,f',r1,cb.trans' r2 (fE (Or.imp (fun z=>z) (fun hh q hq=>Nat.le_trans B0.size (hh q hq)) HO1.out)),?_⟩;rcases r3 with g|g
  ·rcases HO1.out with g'|g'
   ·exact .inl (g.trans g')
   exact .inr (fun q hq=>Nat.le_trans B0.size (g' q (by rw[<-g];exact hq)))
  exact .inr (fun q hq=>Nat.le_trans hz (g q hq))
 have hrl:=remL_none hin;have HF:=G (h.gone id hid hin);have B0:By w (w.alloc (.cells #[H N 0 0,H N 0 0] 97)):=ba _ _;have W0E:∃W0,(w.alloc (.cells #[H N 0 0,H N 0 0] 97))=W0:=⟨_,rfl⟩;have hoth:(L.length:Int)=((remL L id).length:Int):=by rw[hrl]
 have hl99:L.length<=99:=by rw[hrl]at hr99;exact hr99
 have NM:∀W,(binOp .eql 78 (.map (Z mb)) (.map N)).run prog W=.ok (.bool false) W:=oV mb;have HOT:=G hoth;have HD:=G hD;have HH:=G h;clear h hD hio hid hin hoth hrl X0 hcn;go_enter func16,ntmps16;go_upto_region 5 with(first|(refine EA rfl _ 78 rfl HM.out underlying78 rfl ?_)|(at_lookup;refine gY rfl _ _ 78 rfl HM.out.is eD underlying78 (jI _) rfl rfl HID.out (eC HID.out) ?_;rw[HF.out];first|rw[Option.getD_some,Option.isSome_some]|rw[Option.getD_none,Option.isSome_none]))
 obtain⟨W0,hW0⟩:=W0E;try rw[hW0]at B0|-
 clear hW0 c12;have H0:=G (HH.out.below B0);have RC:=G (nR H0.out id HID.out);unfold iJ at RC;go_upto_region 9 with(fail)
 go_wp2_with fail;with_reducible refine RC.out.mono ?_
 rintro e W1 ⟨rfl,O1,oc1,f1,h1,hc1,hO1⟩;have H1:=G h1;have HC1:=G hc1;have HO1:=G hO1;have HD1:=G (HAP.out W0 B0 W1 hc1);have hap:=((HD1.out W1 (Below.refl _ _)));have KC:=G (nP h1 D t.length dk t hap rfl (by omega) HIO.out);unfold bE at KC;clear RC h1 hc1 hO1 hap H0;go_wp2_with fail;with_reducible refine KC.out.mono ?_
 rintro e W2 ⟨K,kk,rfl,hK,hb2⟩;have HK:=G hK;have HB2:=G hb2;have H2:=G (H1.out.below hb2);have PC:=G (uC H2.out K kk (kyN x c o t) id (Sl.of_own hK) (by have:=iF x c o t;omega));have hat:plc (kL (kyN x c o) (remL L id)) (kyN x c o t,id)=atL (kyN x c o) L id t:=rfl;rw[hat]at PC;clear KC hK hb2 hat;have hatle:=atL_le (K:=kyN x c o) (L:=L) (id:=id) (t:=t);generalize hatg:atL (kyN x c o) L id t=at0 at *;have HATG:=G hatg;clear hatg;go_wp2_with fail;with_reducible refine PC.out.mono ?_
 rintro e W3 ⟨rfl,hb3⟩;have H3:=G (H2.out.below hb3);have X3:=H3.out.box;unfold lsC at X3;have l3:=X3.lt;have SH:=G (fun W'(hg:W3.grownBy W' (Z mb))=>show W'.cell? ⟨l,12,N⟩=Z (.map (Z mb))/\W3.grownBy W' (Z mb)from⟨(X3.grown hg (fun e=>H3.out.nlm (by injection e))).c 12 rfl,hg⟩);have HB3:=G hb3;have CLC:=G (fun W(hb:By W3 W)=>jC D t.length dk t W (HD1.out W (((HB2.out.trans (HB3.out.mono HB2.out.size)).trans (hb.mono (Nat.le_trans HB2.out.size HB3.out.size))))) rfl (by omega));unfold bE at CLC;have TCL:=G (fun W(hg:W3.grownBy W (Z mb))(hb:By W3 W)=>(CLC.out W hb).mono (R':=fun e W'=>∃v,e=.returned v/\(W'.cell? ⟨l,12,N⟩=Z (.map (Z mb))/\W3.grownBy W' (Z mb))/\(∃T tk,v=H T t.length tk/\W'.ownsRow W3.heap.size 3 1 (H T t.length tk) t.length (t.map (Value.int .i64))/\By W3 W')) (fun e W'⟨T,tk,he,g1,g2⟩=>⟨_,he,SH.out W' (cT hg g2),T,tk,rfl,eL g1 hb.size,hb.trans (g2.mono hb.size)⟩));clear PC hb3 CLC X3;go_upto_region 12 with(fail)
 refine wp_region_held_drew (S:=fun W'=>W'.cell? ⟨l,12,N⟩=Z (.map (Z mb))/\W3.grownBy W' (Z mb)) (by kernel_rfl) (SH.out _ (c_ (aO W3 _))) (fun hHeld=>?_);refine tK 0 56 ?_;refine tK 1 57 ?_;refine tK 2 58 ?_;refine tK 3 59 ?_;refine tK 4 60 ?_;refine tK 5 61 ?_;refine tK 7 63 ?_;refine qE 6 62 (TCL.out _ (c_ (aO W3 _)) (Below.refl _ _).drew) ?_;clear hHeld;rintro _ W4 hHeld ⟨T,tk,rfl,hT,hb4⟩;refine tK 8 64 ?_;have HM4:=G (b_.below H3.out.map hb4);refine vK (i:=9) N rfl rfl (by kernel_rfl) (by rfl) _ _ _ 78 rfl HM4.out eD underlying78 HCN.out rfl rfl rfl HID.out (eC HID.out) (fun z _ e=>mE e) (fun W' hg=>SH.out W' (bF (hHeld.2) hg)) ?_;intro W5 hM5 hg5;try simp only[Act.put]
 refine wpAnyH_done (by kernel_rfl) ?_ _;have HT:=G hT;have HB4:=G hb4;have HM5:=G hM5;have HG5:=G hg5;have X5:Box W5 l 80 (lsC V x c o mb O1 (remL L id).length oc1):=(H3.out.box.below hb4 l3).grown hg5 (fun e=>H3.out.nlm (by injection e));have R5:=nM (aK H3.out.row hb4) hg5 (fun q e g=>H3.out.nmo (by injection e with e;rw[e];exact g));unfold lsC at X5;have l5:=X5.lt;have c13:=X5.c 13 rfl;have hbs5:bs<=W5.heap.size:=by have:=H3.out.bs_le;have:=hb4.size;have:=hg5.size;omega
 have XI:Box (W5.alloc (.cells #[I J id] 3)) W5.heap.size 3 [I J id]:=Box.new W5 3 [I J id] rfl;have hob:∀g,blk O1=Z g->W5.heap.size≠g:=fun g hg e=>by have:=(dD R5 hg).2;omega
 have X6:=aS X5 (.cells #[I J id] 3);have IC:=G (yD O1 (remL L id).length oc1 bs at0 (idsL (remL L id)) id W5.heap.size 1 (W5.alloc (.cells #[I J id] 3)) (aK R5 (ba _ _)) (by simp;omega) idsL_len hatle XI hob (by omega));have HX6:=G X6;have hil:=idsL_len (L:=remL L id);unfold mO at IC;rw[hil]at IC;have WIE:∃WI,(W5.alloc (.cells #[I J id] 3))=WI:=⟨_,rfl⟩;clear hHeld SH TCL hT hb4 hM5 hg5 X5 R5 XI X6 hil;go_wp2_with fail;with_reducible refine IC.out.mono ?_
 rintro e W6 ⟨B,k,rfl,hr6,hg6,hB6⟩;have X7:=HX6.out.grown hg6 (fun e=>H3.out.nlo e.symm);have f13:=X7.free 13;have g13:=X7.c 13 rfl;have HR6:=G hr6;have HG6:=G hg6;have HB6:=G hB6;clear IC hr6 hg6 hB6 X7 HX6 c13 hob;go_wp2_with fail;go_ret2
 have apK:ApI (Lf l mb O1) W3 K (kyN x c o t):=⟨(Sl.of_own HK.out:aA W2 K _).below HB3.out,fun hne q hq hS=>by
  have h1:=(dD HK.out hq).1
  rcases hS with g|g|g
  ·have:=H1.out.box.lt;omega
  ·have:=H1.out.map.lt;omega
  ·have:=(dD H1.out.row g).2;omega⟩
 obtain⟨f',r1,r2,r3⟩:=H3.out.put rfl HH.out.srt HID.out ht HIO.out (by omega) HB4.out HT.out apK HM5.out HG5.out (by rw[HATG.out];exact HR6.out) HG6.out HB6.out;have cb:Chg (Lf l mb O) w W3:=((Chg.of_below B0).trans (HC1.out)).trans ((Chg.of_below (S:=Lf l mb O) HB2.out).trans (Chg.of_below HB3.out));have hz:w.heap.size<=W3.heap.size:=cb.size;refine⟨rfl,B,k,f',r1,cb.trans' r2 (fE (Or.imp (fun z=>z) (fun hh q hq=>Nat.le_trans B0.size (hh q hq)) HO1.out)),?_⟩;rcases r3 with g|g
 ·rcases HO1.out with g'|g'
  ·exact .inl (g.trans g')
  exact .inr (fun q hq=>Nat.le_trans B0.size (g' q (by rw[<-g];exact hq)))
 exact .inr (fun q hq=>Nat.le_trans hz (g q hq))
end
section
open Go.RowKit Go.Maps Go.WideMaps
theorem Z_(ss:List Spn):∀u∈fR ss,u.oneCell'=true:=by
 intro u hu;obtain⟨g,_,hg⟩:=List.mem_flatMap.1 hu;simp only[List.mem_cons,List.not_mem_nil,or_false]at hg;rcases hg with rfl|rfl|rfl<;>rfl
theorem XV(rs:List Rg):∀u∈aF Rg.cells rs,u.oneCell'=true:=by
 intro u hu;obtain⟨g,_,hg⟩:=List.mem_flatMap.1 hu;simp only[Rg.cells,List.mem_cons,List.not_mem_nil,or_false]at hg;rcases hg with rfl|rfl<;>rfl
theorem OA(gs:List Grp):∀u∈aF Grp.cells gs,u.oneCell'=true:=by
 intro u hu;obtain⟨g,_,hg⟩:=List.mem_flatMap.1 hu;simp only[Grp.cells,List.mem_cons,List.not_mem_nil,or_false]at hg;rcases hg with rfl|rfl|rfl<;>rfl
theorem J_(A0:Oa)(n0 k0:Nat)(A1:Oa)(n1 k1:Nat)(A2:Oa)(n2 k2:Nat)(x:Nrm)(w:Wv)(hN:bA w A0 n0 A1 n1 A2 n2 x)(hz:cK x):
  Calls prog 38 #[.agg #[H A0 n0 k0,H A1 n1 k1,H A2 n2 k2]] w (uX x w):=by
 obtain⟨hS,hM,hR,rfl,rfl,rfl⟩:=hN;have B0:By w ((w.alloc (.cells #[H A0 x.cls.length k0,H A1 x.dec.length k1,H A2 x.exc.length k2] 28)).alloc (.cells #[H N 0 0,H N 0 0,H N 0 0] 28)):=(ba _ _).alloc (by simp) _;have X0:Box ((w.alloc (.cells #[H A0 x.cls.length k0,H A1 x.dec.length k1,H A2 x.exc.length k2] 28)).alloc (.cells #[H N 0 0,H N 0 0,H N 0 0] 28)) w.heap.size 28 [H A0 x.cls.length k0,H A1 x.dec.length k1,H A2 x.exc.length k2]:=aS (Box.new w 28 [H A0 x.cls.length k0,H A1 x.dec.length k1,H A2 x.exc.length k2] rfl) _;have X1:Box ((w.alloc (.cells #[H A0 x.cls.length k0,H A1 x.dec.length k1,H A2 x.exc.length k2] 28)).alloc (.cells #[H N 0 0,H N 0 0,H N 0 0] 28)) (w.heap.size+1) 28 [H N 0 0,H N 0 0,H N 0 0]:=Box.new _ _ _ (by simp);have W0E:∃W0,((w.alloc (.cells #[H A0 x.cls.length k0,H A1 x.dec.length k1,H A2 x.exc.length k2] 28)).alloc (.cells #[H N 0 0,H N 0 0,H N 0 0] 28))=W0:=⟨_,rfl⟩;obtain⟨cs1,hc1,hl1,h11,hin⟩:=SU hM;have z0:=hz.z0;have z1:=hz.z1.n;have z2:=hz.z2;have C0:=G (fun W(hb:By w W)=>JH A0 x.cls.length k0 (fR x.cls) W (Sl.below hS hb) (xL x.cls) (Z_ _) (by omega));have C1:=G (fun W(hb:By w W)=>JF A1 x.dec.length k1 cs1 W (Sl.below hc1 hb) hl1 h11 (by omega));have C2:=G (fun W(hb:By w W)=>JG A2 x.exc.length k2 (aF Rg.cells x.exc) W (Sl.below hR hb) (gJ Rg.cells 2 (fun _=>rfl) x.exc) (XV _) (by omega));have HIN:=G hin;have CI:=G (fun i(hi:i<x.dec.length)C c W(hI:aA W C x.dec[i].to)=>jC C x.dec[i].to.length c x.dec[i].to W hI rfl (hz.z1.e i hi).1);have HFIN:=G (fun B0' B1' B2' W(h0:aZ W B0' x.cls)(h1:Mps W B1' x.dec)(h2:Rgs W B2' x.exc)=>(⟨h0,h1,h2,rfl,rfl,rfl⟩:bA W B0' x.cls.length B1' x.dec.length B2' x.exc.length x));have SZ:=G (fun i(hi:i<x.dec.length)=>(hz.z1.e i hi).1);unfold lB at C0 C1 C2;unfold bE at CI;clear hS hM hR hz hc1 hl1 h11 hin z0 z2;go_enter func38,ntmps38;go_upto_region 1 with(fail)
 obtain⟨W0,hW0⟩:=W0E;try rw[hW0]at B0 X0 X1|-
 clear hW0;have s0:=X0.lt;have s1:=X1.lt;have d0:=X0.c 0 rfl;go_wp2_with fail;with_reducible refine(C0.out W0 B0).mono ?_
 rintro e Wa ⟨E0,e0,rfl,O0,hba⟩;have f0:=(X0.below hba s0).free 0;have g0:=(X0.below hba s0).c 0 rfl;have Y0:Box (Wa.setCell ⟨w.heap.size,0,N⟩ (H E0 x.cls.length e0)) w.heap.size 28 [H E0 x.cls.length e0,H A1 x.dec.length k1,H A2 x.exc.length k2]:=(X0.below hba s0).set 0 _;have Y1:Box (Wa.setCell ⟨w.heap.size,0,N⟩ (H E0 x.cls.length e0)) (w.heap.size+1) 28 [H N 0 0,H N 0 0,H N 0 0]:=bG (X1.below hba s1) _ (by simp) _;have Bb:By w (Wa.setCell ⟨w.heap.size,0,N⟩ (H E0 x.cls.length e0)):=(B0.trans (hba.mono B0.size)).setCell (Nat.le_refl _) _;have NO0:=ownsRow_setCell_below O0 (a:=⟨w.heap.size,0,N⟩) s0 (H E0 x.cls.length e0);have hsz:W0.heap.size<=(Wa.setCell ⟨w.heap.size,0,N⟩ (H E0 x.cls.length e0)).heap.size:=by have:=hba.size;simpa using this
 have hlq:Below W0.heap.size w (Wa.setCell ⟨w.heap.size,0,N⟩ (H E0 x.cls.length e0))->True:=fun _=>trivial
 have WE:∃W,(Wa.setCell ⟨w.heap.size,0,N⟩ (H E0 x.cls.length e0))=W:=⟨_,rfl⟩;clear O0 d0 X0 X1 hba B0 hlq;go_upto_region 2 with(fail)
 obtain⟨W1,hW⟩:=WE;try rw[hW]at Bb Y0 Y1 hsz NO0|-
 clear hW f0 g0 C0;have O0:=NO0;clear NO0;have X0:=Y0;have X1:=Y1;have B0:=Bb;have zW0:=hsz;have tW0:=s1;clear Y0 Y1 Bb hsz s1;have sW0:=s0;clear s0;have s0:=X0.lt;have s1:=X1.lt;have Q0:=G (fun q(hq:blk E0=Z q)=>dD O0 hq);have d0:=X0.c 2 rfl;go_wp2_with fail;with_reducible refine(C2.out W1 B0).mono ?_
 rintro e Wb ⟨E2,e2,rfl,O2,hba⟩;have f0:=(X0.below hba s0).free 2;have g0:=(X0.below hba s0).c 2 rfl;have Y0:Box (Wb.setCell ⟨w.heap.size,2,N⟩ (H E2 x.exc.length e2)) w.heap.size 28 [H E0 x.cls.length e0,H A1 x.dec.length k1,H E2 x.exc.length e2]:=(X0.below hba s0).set 2 _;have Y1:Box (Wb.setCell ⟨w.heap.size,2,N⟩ (H E2 x.exc.length e2)) (w.heap.size+1) 28 [H N 0 0,H N 0 0,H N 0 0]:=bG (X1.below hba s1) _ (by simp) _;have Bb:By w (Wb.setCell ⟨w.heap.size,2,N⟩ (H E2 x.exc.length e2)):=(B0.trans (hba.mono B0.size)).setCell (Nat.le_refl _) _;have NO2:=ownsRow_setCell_below O2 (a:=⟨w.heap.size,2,N⟩) s0 (H E2 x.exc.length e2);have NO0:=ownsRow_setCell_below (aK O0 hba) (a:=⟨w.heap.size,2,N⟩) (by omega) (H E2 x.exc.length e2);have hsz:W1.heap.size<=(Wb.setCell ⟨w.heap.size,2,N⟩ (H E2 x.exc.length e2)).heap.size:=by have:=hba.size;simpa using this
 have hlq:Below W1.heap.size w (Wb.setCell ⟨w.heap.size,2,N⟩ (H E2 x.exc.length e2))->True:=fun _=>trivial
 have WE:∃W,(Wb.setCell ⟨w.heap.size,2,N⟩ (H E2 x.exc.length e2))=W:=⟨_,rfl⟩;clear O2 O0 d0 X0 X1 hba B0 hlq;go_upto_region 3 with(fail)
 obtain⟨W2,hW⟩:=WE;try rw[hW]at Bb Y0 Y1 hsz NO2 NO0|-
 clear hW f0 g0 C2;have O2:=NO2;clear NO2;have O0:=NO0;clear NO0;have X0:=Y0;have X1:=Y1;have B0:=Bb;have zW1:=hsz;have tW1:=s1;clear Y0 Y1 Bb hsz s1;have sW1:=s0;clear s0;have s0:=X0.lt;have s1:=X1.lt;have Q2:=G (fun q(hq:blk E2=Z q)=>dD O2 hq);have d0:=X0.c 1 rfl;go_wp2_with fail;with_reducible refine(C1.out W2 B0).mono ?_
 rintro e Wc ⟨E1,e1,rfl,O1,hba⟩;have f0:=(X0.below hba s0).free 1;have g0:=(X0.below hba s0).c 1 rfl;have Y0:Box (Wc.setCell ⟨w.heap.size,1,N⟩ (H E1 x.dec.length e1)) w.heap.size 28 [H E0 x.cls.length e0,H E1 x.dec.length e1,H E2 x.exc.length e2]:=(X0.below hba s0).set 1 _;have Y1:Box (Wc.setCell ⟨w.heap.size,1,N⟩ (H E1 x.dec.length e1)) (w.heap.size+1) 28 [H N 0 0,H N 0 0,H N 0 0]:=bG (X1.below hba s1) _ (by simp) _;have Bb:By w (Wc.setCell ⟨w.heap.size,1,N⟩ (H E1 x.dec.length e1)):=(B0.trans (hba.mono B0.size)).setCell (Nat.le_refl _) _;have NO1:=ownsRow_setCell_below O1 (a:=⟨w.heap.size,1,N⟩) s0 (H E1 x.dec.length e1);have NO0:=ownsRow_setCell_below (aK O0 hba) (a:=⟨w.heap.size,1,N⟩) (by omega) (H E1 x.dec.length e1);have NO2:=ownsRow_setCell_below (aK O2 hba) (a:=⟨w.heap.size,1,N⟩) (by omega) (H E1 x.dec.length e1);have hsz:W2.heap.size<=(Wc.setCell ⟨w.heap.size,1,N⟩ (H E1 x.dec.length e1)).heap.size:=by have:=hba.size;simpa using this
 have hlq:Below W2.heap.size w (Wc.setCell ⟨w.heap.size,1,N⟩ (H E1 x.dec.length e1))->True:=fun _=>trivial
 have WE:∃W,(Wc.setCell ⟨w.heap.size,1,N⟩ (H E1 x.dec.length e1))=W:=⟨_,rfl⟩;have HM:=HIN.out W2.heap.size (w.heap.size+1) E1 e1 _ Bb B0.size (by omega) NO1;clear NO1 O1 O0 O2 d0 X0 X1 hba B0 hlq HIN;go_upto_region 4 with(fail)
 obtain⟨W3,hW⟩:=WE;try rw[hW]at Bb Y0 Y1 hsz HM NO0 NO2|-
 clear hW f0 g0 C1;have O0:=NO0;clear NO0;have O2:=NO2;clear NO2;have X0:=Y0;have X1:=Y1;have B0:=Bb;have zW2:=hsz;have tW2:=s1;clear Y0 Y1 Bb hsz s1;have sW2:=s0;clear s0;have s0:=X0.lt;have s1:=X1.lt;have HO0:=G O0;have HO2:=G O2;have HX0:=G X0;have HX1:=G X1;have HB0:=G B0;have HMM:=G HM
 have HE1:=G (fun q(hq:blk E1=Z q)=>show W2.heap.size<=q from by
  obtain⟨vs,_,h2,_⟩:=HM.ex
  exact(dD h2 hq).1)
 have hz3:w.heap.size+1<W2.heap.size:=by omega
 have hz2:W2.heap.size<=W3.heap.size:=by omega
 have q1:=X0.c 1 rfl;clear O0 O2 X0 X1 B0 HM s0 s1;go_wp2_with fail;go_loopw [22] (fun u wr=>∃i:Nat,i<=x.dec.length/\u=I J i/\fB wr W2.heap.size (w.heap.size+1) E1 e1 x.dec/\W3.grownBy wr (blk E1)) (fun u _=>x.dec.length-(intOf u).toNat)
 case atStart=>exact⟨0,Nat.zero_le _,rfl,HMM.out,aO _ _⟩
 obtain⟨i,hi,rfl,hm,hg⟩:=hrel;have hws:=hg.size;have HW:=G hg;have n0:Z w.heap.size≠blk E1:=fun e=>by have:=HE1.out _ e.symm;omega
 have n1:Z (w.heap.size+1)≠blk E1:=fun e=>by have:=HE1.out _ e.symm;omega
 have HXr:=G (HX0.out.grown hg n0);have HXs:=G (HX1.out.grown hg n1);clear n0 n1;by_cases hlt:i<x.dec.length
 ·obtain⟨g,C,c,hE,hge,hgl,c0,c1,c2,f1,hC⟩:=hm.at hlt
  subst hE;have HMi:=G hm;have PUT:=G (fun(K:Oa) (k:Nat) (W:Wv) (h:fB W W2.heap.size (w.heap.size+1) (Z ⟨g,0,N⟩) e1 x.dec) hk hK hap=>h.put (C:=K) (c:=k) hlt hk hK hap);have CIi:=G (CI.out i hlt);have HC:=G hC;have HIS:=G (hm.is.at hlt);clear hm hg hC;have hcap:x.dec[i].to.length<=1048576:=SZ.out i hlt;generalize x.dec[i]=m at *;have hne:¬g=wr.heap.size:=by omega
  have c0':wr.cell? ⟨g,0+i*3,N⟩=Z (I J m.frm):=by rw[Nat.zero_add];exact c0
  have BA:By wr (wr.alloc (.cells #[I J m.frm,H C m.to.length c,.string m.tag] 116)):=ba _ _;have XA:Box (wr.alloc (.cells #[I J m.frm,H C m.to.length c,.string m.tag] 116)) wr.heap.size 116 [I J m.frm,H C m.to.length c,.string m.tag]:=Box.new wr 116 [I J m.frm,H C m.to.length c,.string m.tag] rfl;have WaE:∃Wa,(wr.alloc (.cells #[I J m.frm,H C m.to.length c,.string m.tag] 116))=Wa:=⟨_,rfl⟩;go_upto_region 7 with(fail)
  obtain⟨Wa,hWa⟩:=WaE;try rw[hWa]at BA XA|-
  clear hWa c0 c1 c2 c0';have sa:=XA.lt;have XRa:=HXr.out.below BA HXr.out.lt;have sw:=XRa.lt;have hgw:g<Wa.heap.size:=by omega
  have hga:g≠w.heap.size:=by omega
  have hgb:g≠wr.heap.size:=by omega
  have k1:=XRa.c 1 rfl;have k2:=XA.c 1 rfl;have SH:=G (fun W'(hg':Wa.grownBy W' (Z g))=>show W'.cell? ⟨w.heap.size,1,N⟩=Z (H (Z ⟨g,0,N⟩) x.dec.length e1)/\W'.cell? ⟨wr.heap.size,1,N⟩=Z (H C m.to.length c)/\Wa.grownBy W' (Z g)from⟨(World.cell?_of_block (hg'.block _ sw (fun e=>hga (by injection e with e;exact e.symm)))).trans k1,(World.cell?_of_block (hg'.block _ sa (fun e=>hgb (by injection e with e;exact e.symm)))).trans k2,hg'⟩);have FRZ:=G (fB.below HMi.out BA);have TI:=G (fun W(hb':By Wa W)(hg':Wa.grownBy W (Z g))=>(CIi.out C c W ((HC.out.below BA).below hb')).mono (R':=fun e' W'=>∃v,e'=.returned v/\(W'.cell? ⟨w.heap.size,1,N⟩=Z (H (Z ⟨g,0,N⟩) x.dec.length e1)/\W'.cell? ⟨wr.heap.size,1,N⟩=Z (H C m.to.length c)/\Wa.grownBy W' (Z g))/\(∃K k,v=H K m.to.length k/\W'.ownsRow W.heap.size 3 1 (H K m.to.length k) m.to.length (m.to.map (Value.int .i64))/\By Wa W')) (fun e' W'⟨K,k,he,g1,g2⟩=>⟨_,he,SH.out W' (cT hg' g2),K,k,rfl,g1,hb'.trans (g2.mono hb'.size)⟩));have HBA:=G BA;clear k1 k2 BA;go_wp2_with fail;refine wp_region_held_drew (S:=fun W'=>W'.cell? ⟨w.heap.size,1,N⟩=Z (H (Z ⟨g,0,N⟩) x.dec.length e1)/\W'.cell? ⟨wr.heap.size,1,N⟩=Z (H C m.to.length c)/\Wa.grownBy W' (Z g)) (by kernel_rfl) (SH.out _ (c_ (aO Wa _))) (fun hHeld=>?_);refine tK 0 27 ?_;refine tK 1 28 ?_;refine tK 2 29 ?_;refine tK 3 30 ?_;refine tK 4 31 ?_;refine qE 5 32 (TI.out _ (Below.refl _ _).drew (c_ (aO Wa _))) ?_;clear hHeld;rintro _ W5 hHeld ⟨K,k,rfl,hK,hb5⟩;refine tK 6 33 ?_;refine tK 7 34 ?_;obtain⟨g',C',c',hE',_,_,_,e1',_,f5',_⟩:=(FRZ.out.below hb5).at hlt;obtain rfl:g=g':=by injection hE' with hE';injection hE'
  clear hE';refine mU (w':=W5.setCell ⟨g,i*3+1,N⟩ (H K m.to.length k)) (i:=8) N rfl rfl (by kernel_rfl) (by rfl) (by go_simp) (SH.out _ (bJ (p:=⟨g,i*3+1,N⟩) (hHeld.2.2) _)) ?_;try simp only[Act.put]
  refine wpAnyH_done (by kernel_rfl) ?_ _;have hgr:=bF (cT HW.out HBA.out) hHeld.2.2
  have hput:=PUT.out K k W5 (FRZ.out.below hb5) (lQ hK) (Sl.of_own hK) (fun _ q hq=>by
   have h1:Wa.heap.size<=q:=(dD hK hq).1
   exact⟨by omega,by omega⟩)
  have HGR:=G hgr;have HPT:=G hput;clear hHeld SH TI FRZ e1' f5' hgr hput hK hb5 PUT HMi HBA XA XRa HXr HXs;go_wp2_with fail;go_roundw
  case rel=>exact⟨i+1,by omega,by go_num,HPT.out,bJ (p:=⟨g,i*3+1,N⟩) HGR.out _⟩
  simp[intOf];omega
 obtain rfl:i=x.dec.length:=by omega
 have X0r:=HXr.out;have c0:=X0r.c 0 rfl;have c1:=X0r.c 1 rfl;have c2:=X0r.c 2 rfl;have X1r:=HXs.out;have f0:=X1r.free 0;have f1:=X1r.free 1;have f2:=X1r.free 2;have g0:=X1r.c 0 rfl;have g1:=X1r.c 1 rfl;have g2:=X1r.c 2 rfl;have hwz:w.heap.size+1<W2.heap.size:=hz3;have MF:fB (((wr.setCell ⟨w.heap.size+1,0,N⟩ (H E0 x.cls.length e0)).setCell ⟨w.heap.size+1,1,N⟩ (H E1 x.dec.length e1)).setCell ⟨w.heap.size+1,2,N⟩ (H E2 x.exc.length e2)) W2.heap.size (w.heap.size+1) E1 e1 x.dec:=((hm.off hwz ⟨w.heap.size+1,0,N⟩ rfl _).off hwz ⟨w.heap.size+1,1,N⟩ rfl _).off hwz ⟨w.heap.size+1,2,N⟩ rfl _;have ZF:Box (((wr.setCell ⟨w.heap.size+1,0,N⟩ (H E0 x.cls.length e0)).setCell ⟨w.heap.size+1,1,N⟩ (H E1 x.dec.length e1)).setCell ⟨w.heap.size+1,2,N⟩ (H E2 x.exc.length e2)) (w.heap.size+1) 28 [H E0 x.cls.length e0,H E1 x.dec.length e1,H E2 x.exc.length e2]:=((X1r.set 0 _).set 1 _).set 2 _;have GF:wr.grownBy (((wr.setCell ⟨w.heap.size+1,0,N⟩ (H E0 x.cls.length e0)).setCell ⟨w.heap.size+1,1,N⟩ (H E1 x.dec.length e1)).setCell ⟨w.heap.size+1,2,N⟩ (H E2 x.exc.length e2)) (Z (w.heap.size+1)):=bJ (p:=⟨w.heap.size+1,2,N⟩) (bJ (p:=⟨w.heap.size+1,1,N⟩) (dU wr ⟨w.heap.size+1,0,N⟩ _) _) _;have WFE:∃Wf,(((wr.setCell ⟨w.heap.size+1,0,N⟩ (H E0 x.cls.length e0)).setCell ⟨w.heap.size+1,1,N⟩ (H E1 x.dec.length e1)).setCell ⟨w.heap.size+1,2,N⟩ (H E2 x.exc.length e2))=Wf:=⟨_,rfl⟩;have HHG:=G hg;clear hm hg X0r X1r HXr HXs;go_wp2_with fail;obtain⟨Wf,hWf⟩:=WFE;try rw[hWf]at MF ZF GF|-
 clear hWf;have z0:=ZF.c 0 rfl;have z1':=ZF.c 1 rfl;have z2:=ZF.c 2 rfl;(try simp only[Exit.inBlock,Exit.then]);refine bodyPost_ret (nK rfl _ _ (b:=w.heap.size+1) (v0:=H E0 x.cls.length e0) (v1:=H E1 x.dec.length e1) (v2:=H E2 x.exc.length e2) rfl z0 z1' z2) rfl ?_;have hcf:Chg (fun q=>blk E1=Z q\/q=w.heap.size+1) W3 Wf:=(Chg.of_grown HHG.out (fun q e=>.inl e)).trans (Chg.of_grown GF (fun q e=>.inr (by injection e with e;exact e.symm)))
 have h0:aZ Wf E0 x.cls:=hcf.sl (Sl.of_own HO0.out) (fun _ q hq hS=>by
  have b1:=Q0.out q hq
  rcases hS with g|g
  ·have:=HE1.out q g;omega
  ·omega)
 have h2:Rgs Wf E2 x.exc:=hcf.sl (Sl.of_own HO2.out) (fun _ q hq hS=>by
  have b1:=Q2.out q hq
  rcases hS with g|g
  ·have:=HE1.out q g;omega
  ·omega)
 have bel:By w Wf:=HB0.out.trans (hcf.below (n:=w.heap.size) (by omega) (fun k hk=>by
  rcases hk with g|g
  ·have:=HE1.out k g;omega
  ·omega))
 exact⟨E0,e0,E1,e1,E2,e2,rfl,HFIN.out E0 E1 E2 Wf h0 MF.is h2,bel⟩
def nX(c:Col)(w:Wv)(e:Ending)(w':Wv):Prop:=∃A a B b,e=.returned (aQ A c.ents.length a B c.grps.length b c)/\aU w' A c.ents.length B c.grps.length c/\By w w'
theorem XE{fn:Func}(hr:fn.results=#[.cell 2 32])(tmps:Array Value)(w:Wv){b:Nat}{v0 v1 v2 v3 v4:Value}(ha:tmps.getD 2 undef=.pointer (Z ⟨b,0,N⟩))
  (c0:w.cell? ⟨b,0,N⟩=Z v0) (c1:w.cell? ⟨b,1,N⟩=Z v1) (c2:w.cell? ⟨b,2,N⟩=Z v2) (c3:w.cell? ⟨b,3,N⟩=Z v3) (c4:w.cell? ⟨b,4,N⟩=Z v4) :
  (results fn tmps).run prog w=.ok (.agg #[v0,v1,v2,v3,v4]) w:=by
 unfold results;rw[hr];simp only[ha,List.mapM_toArray,List.mapM_cons,List.mapM_nil,asAddr];go_simp
theorem JZ(A:Oa)(n a:Nat)(B:Oa)(m b:Nat)(c:Col)(w:Wv)(hC:aU w A n B m c)(hz:bW c):
  Calls prog 39 #[aQ A n a B m b c] w (nX c w):=by
 obtain⟨hE,hG,rfl,rfl,hs⟩:=hC;unfold aQ nX;unfold aQ;have B0:By w ((w.alloc (.cells #[H A c.ents.length a,H B c.grps.length b,I J c.base,I J c.second,I J c.third] 32)).alloc (.cells #[H N 0 0,H N 0 0,I J 0,I J 0,I J 0] 32)):=(ba _ _).alloc (by simp) _;have X0:Box ((w.alloc (.cells #[H A c.ents.length a,H B c.grps.length b,I J c.base,I J c.second,I J c.third] 32)).alloc (.cells #[H N 0 0,H N 0 0,I J 0,I J 0,I J 0] 32)) w.heap.size 32 [H A c.ents.length a,H B c.grps.length b,I J c.base,I J c.second,I J c.third]:=aS (Box.new w 32 [H A c.ents.length a,H B c.grps.length b,I J c.base,I J c.second,I J c.third] rfl) _;have X1:Box ((w.alloc (.cells #[H A c.ents.length a,H B c.grps.length b,I J c.base,I J c.second,I J c.third] 32)).alloc (.cells #[H N 0 0,H N 0 0,I J 0,I J 0,I J 0] 32)) (w.heap.size+1) 32 [H N 0 0,H N 0 0,I J 0,I J 0,I J 0]:=Box.new _ _ _ (by simp);have W0E:∃W0,((w.alloc (.cells #[H A c.ents.length a,H B c.grps.length b,I J c.base,I J c.second,I J c.third] 32)).alloc (.cells #[H N 0 0,H N 0 0,I J 0,I J 0,I J 0] 32))=W0:=⟨_,rfl⟩;obtain⟨cs1,hc1,hl1,h11,hin⟩:=LY hE;have z0:=hz.n;have z1:=hz.m;have C0:=G (fun W(hb:By w W)=>JE B c.grps.length b (aF Grp.cells c.grps) W (Sl.below hG hb) (gJ Grp.cells 3 (fun _=>rfl) c.grps) (OA _) (by omega));have C1:=G (fun W(hb:By w W)=>JD A c.ents.length a cs1 W (Sl.below hc1 hb) hl1 h11 (by omega));have HIN:=G hin;have CI:=G (fun i(hi:i<c.ents.length)C k W(hI:aA W C c.ents[i].codes)=>jC C c.ents[i].codes.length k c.ents[i].codes W hI rfl (hz.e i hi).1);have CE:=G (fun i(hi:i<c.ents.length)C k W(hI:cJ W C c.ents[i].elems)=>JA C c.ents[i].elems.length k c.ents[i].elems W hI rfl (hz.e i hi).2);have HFIN:=G (fun A' B' W(h0:g_ W A' c.ents)(h1:jK W B' c.grps)=>(⟨h0,h1,rfl,rfl,hs⟩:aU W A' c.ents.length B' c.grps.length c));have SZ:=G (fun i(hi:i<c.ents.length)=>hz.e i hi);unfold lB at C0 C1;unfold bE at CI;unfold n_ at CE;clear hE hG hs hz hc1 hl1 h11 hin;go_enter func39,ntmps39;go_upto_region 1 with(fail)
 obtain⟨W0,hW0⟩:=W0E;try rw[hW0]at B0 X0 X1|-
 clear hW0;have s0:=X0.lt;have s1:=X1.lt;have d0:=X0.c 1 rfl;go_wp2_with fail;with_reducible refine(C0.out W0 B0).mono ?_
 rintro e Wa ⟨E1,e1,rfl,O1,hba⟩;have f0:=(X0.below hba s0).free 1;have g0:=(X0.below hba s0).c 1 rfl;have Y0:Box (Wa.setCell ⟨w.heap.size,1,N⟩ (H E1 c.grps.length e1)) w.heap.size 32 [H A c.ents.length a,H E1 c.grps.length e1,I J c.base,I J c.second,I J c.third]:=(X0.below hba s0).set 1 _;have Y1:Box (Wa.setCell ⟨w.heap.size,1,N⟩ (H E1 c.grps.length e1)) (w.heap.size+1) 32 [H N 0 0,H N 0 0,I J 0,I J 0,I J 0]:=bG (X1.below hba s1) _ (by simp) _;have Bb:By w (Wa.setCell ⟨w.heap.size,1,N⟩ (H E1 c.grps.length e1)):=(B0.trans (hba.mono B0.size)).setCell (Nat.le_refl _) _;have NO1:=ownsRow_setCell_below O1 (a:=⟨w.heap.size,1,N⟩) s0 (H E1 c.grps.length e1);have hsz:W0.heap.size<=(Wa.setCell ⟨w.heap.size,1,N⟩ (H E1 c.grps.length e1)).heap.size:=by have:=hba.size;simpa using this
 have hlq:Below W0.heap.size w (Wa.setCell ⟨w.heap.size,1,N⟩ (H E1 c.grps.length e1))->True:=fun _=>trivial
 have WE:∃W,(Wa.setCell ⟨w.heap.size,1,N⟩ (H E1 c.grps.length e1))=W:=⟨_,rfl⟩;clear O1 d0 X0 X1 hba B0 hlq;go_upto_region 2 with(fail)
 obtain⟨W1,hW⟩:=WE;try rw[hW]at Bb Y0 Y1 hsz NO1|-
 clear hW f0 g0 C0;have O1:=NO1;clear NO1;have X0:=Y0;have X1:=Y1;have B0:=Bb;have zW0:=hsz;have tW0:=s1;clear Y0 Y1 Bb hsz s1;have sW0:=s0;clear s0;have s0:=X0.lt;have s1:=X1.lt;have Q1:=G (fun q(hq:blk E1=Z q)=>dD O1 hq);have d0:=X0.c 0 rfl;go_wp2_with fail;with_reducible refine(C1.out W1 B0).mono ?_
 rintro e Wb ⟨E0,e0,rfl,O0,hba⟩;have f0:=(X0.below hba s0).free 0;have g0:=(X0.below hba s0).c 0 rfl;have Y0:Box (Wb.setCell ⟨w.heap.size,0,N⟩ (H E0 c.ents.length e0)) w.heap.size 32 [H E0 c.ents.length e0,H E1 c.grps.length e1,I J c.base,I J c.second,I J c.third]:=(X0.below hba s0).set 0 _;have Y1:Box (Wb.setCell ⟨w.heap.size,0,N⟩ (H E0 c.ents.length e0)) (w.heap.size+1) 32 [H N 0 0,H N 0 0,I J 0,I J 0,I J 0]:=bG (X1.below hba s1) _ (by simp) _;have Bb:By w (Wb.setCell ⟨w.heap.size,0,N⟩ (H E0 c.ents.length e0)):=(B0.trans (hba.mono B0.size)).setCell (Nat.le_refl _) _;have NO0:=ownsRow_setCell_below O0 (a:=⟨w.heap.size,0,N⟩) s0 (H E0 c.ents.length e0);have NO1:=ownsRow_setCell_below (aK O1 hba) (a:=⟨w.heap.size,0,N⟩) (by omega) (H E0 c.ents.length e0);have hsz:W1.heap.size<=(Wb.setCell ⟨w.heap.size,0,N⟩ (H E0 c.ents.length e0)).heap.size:=by have:=hba.size;simpa using this
 have hlq:Below W1.heap.size w (Wb.setCell ⟨w.heap.size,0,N⟩ (H E0 c.ents.length e0))->True:=fun _=>trivial
 have WE:∃W,(Wb.setCell ⟨w.heap.size,0,N⟩ (H E0 c.ents.length e0))=W:=⟨_,rfl⟩;have HM:=HIN.out W1.heap.size (w.heap.size+1) E0 e0 _ Bb B0.size (by omega) NO0;clear NO0 O0 O1 d0 X0 X1 hba B0 hlq HIN;go_upto_region 3 with(fail)
 obtain⟨W2,hW⟩:=WE;try rw[hW]at Bb Y0 Y1 hsz HM NO1|-
 clear hW f0 g0 C1;have O1:=NO1;clear NO1;have X0:=Y0;have X1:=Y1;have B0:=Bb;have zW1:=hsz;have tW1:=s1;clear Y0 Y1 Bb hsz s1;have sW1:=s0;clear s0;have s0:=X0.lt;have s1:=X1.lt;have HO1:=G O1;have HX0:=G X0;have HX1:=G X1;have HB0:=G B0;have HMM:=G HM
 have HE1:=G (fun q(hq:blk E0=Z q)=>show W1.heap.size<=q from by
  obtain⟨vs,_,h2,_⟩:=HM.ex
  exact(dD h2 hq).1)
 have hz3:w.heap.size+1<W1.heap.size:=by omega
 have hz2:W1.heap.size<=W2.heap.size:=by omega
 have q1:=X0.c 0 rfl;clear O1 X0 X1 B0 HM s0 s1;go_wp2_with fail;go_loopw [16] (fun u wr=>∃i:Nat,i<=c.ents.length/\u=I J i/\fA wr W1.heap.size (w.heap.size+1) E0 e0 c.ents/\W2.grownBy wr (blk E0)) (fun u _=>c.ents.length-(intOf u).toNat)
 case atStart=>exact⟨0,Nat.zero_le _,rfl,HMM.out,aO _ _⟩
 obtain⟨i,hi,rfl,hm,hg⟩:=hrel;have hws:=hg.size;have HW:=G hg;have n0:Z w.heap.size≠blk E0:=fun e=>by have:=HE1.out _ e.symm;omega
 have n1:Z (w.heap.size+1)≠blk E0:=fun e=>by have:=HE1.out _ e.symm;omega
 have HXr:=G (HX0.out.grown hg n0);have HXs:=G (HX1.out.grown hg n1);clear n0 n1;by_cases hlt:i<c.ents.length
 ·obtain⟨g,C,cc,E,ec,hEq,hge,hgl,c0,c1,f0,f1,hC,hEl⟩:=hm.at hlt
  subst hEq;have HMi:=G hm;have PUT:=G (fun(K:Oa) (k:Nat) (D:Oa) (d:Nat) (W:Wv) (h:fA W W1.heap.size (w.heap.size+1) (Z ⟨g,0,N⟩) e0 c.ents) hK hap hD hape=>h.put (C:=K) (c:=k) (E:=D) (d:=d) hlt hK hap hD hape);have CIi:=G (CI.out i hlt);have CEi:=G (CE.out i hlt);have HC:=G hC;have HEl:=G hEl;clear hm hg hC hEl;have hcap:=SZ.out i hlt;generalize c.ents[i]=en at *;obtain⟨cd,el⟩:=en;dsimp only at *;have hne:¬g=wr.heap.size:=by omega
  have c0':wr.cell? ⟨g,0+i*2,N⟩=Z (H C cd.length cc):=by rw[Nat.zero_add];exact c0
  have BA:By wr (wr.alloc (.cells #[H C cd.length cc,H E el.length ec] 109)):=ba _ _;have XA:Box (wr.alloc (.cells #[H C cd.length cc,H E el.length ec] 109)) wr.heap.size 109 [H C cd.length cc,H E el.length ec]:=Box.new wr 109 [H C cd.length cc,H E el.length ec] rfl;have WaE:∃Wa,(wr.alloc (.cells #[H C cd.length cc,H E el.length ec] 109))=Wa:=⟨_,rfl⟩;go_upto_region 6 with(fail)
  obtain⟨Wa,hWa⟩:=WaE;try rw[hWa]at BA XA|-
  clear hWa c0 c1 c0';have sa:=XA.lt;have XRa:=HXr.out.below BA HXr.out.lt;have sw:=XRa.lt;have hgw:g<Wa.heap.size:=by omega
  have hga:g≠w.heap.size:=by omega
  have hgb:g≠wr.heap.size:=by omega
  have k1:=XRa.c 0 rfl;have k2:=XA.c 0 rfl;have k3:=XA.c 1 rfl;have SH:=G (fun W'(hg':Wa.grownBy W' (Z g))=>show W'.cell? ⟨w.heap.size,0,N⟩=Z (H (Z ⟨g,0,N⟩) c.ents.length e0)/\W'.cell? ⟨wr.heap.size,0,N⟩=Z (H C cd.length cc)/\W'.cell? ⟨wr.heap.size,1,N⟩=Z (H E el.length ec)/\Wa.grownBy W' (Z g)from⟨(World.cell?_of_block (hg'.block _ sw (fun e=>hga (by injection e with e;exact e.symm)))).trans k1,(World.cell?_of_block (hg'.block _ sa (fun e=>hgb (by injection e with e;exact e.symm)))).trans k2,(World.cell?_of_block (hg'.block _ sa (fun e=>hgb (by injection e with e;exact e.symm)))).trans k3,hg'⟩);have FRZ:=G (fA.below HMi.out BA);have TI:=G (fun W(hb':By Wa W)(hg':Wa.grownBy W (Z g))=>(CIi.out C cc W ((HC.out.below BA).below hb')).mono (R':=fun e' W'=>∃v,e'=.returned v/\(W'.cell? ⟨w.heap.size,0,N⟩=Z (H (Z ⟨g,0,N⟩) c.ents.length e0)/\W'.cell? ⟨wr.heap.size,0,N⟩=Z (H C cd.length cc)/\W'.cell? ⟨wr.heap.size,1,N⟩=Z (H E el.length ec)/\Wa.grownBy W' (Z g))/\(∃K k,v=H K cd.length k/\W'.ownsRow Wa.heap.size 3 1 (H K cd.length k) cd.length (cd.map (Value.int .i64))/\By Wa W')) (fun e' W'⟨K,k,he,g1,g2⟩=>⟨_,he,SH.out W' (cT hg' g2),K,k,rfl,eL g1 hb'.size,hb'.trans (g2.mono hb'.size)⟩));have TE:=G (fun W(hb':By Wa W)(hg':Wa.grownBy W (Z g))=>(CEi.out E ec W ((HEl.out.below BA).below hb')).mono (R':=fun e' W'=>∃v,e'=.returned v/\(W'.cell? ⟨w.heap.size,0,N⟩=Z (H (Z ⟨g,0,N⟩) c.ents.length e0)/\W'.cell? ⟨wr.heap.size,0,N⟩=Z (H C cd.length cc)/\W'.cell? ⟨wr.heap.size,1,N⟩=Z (H E el.length ec)/\Wa.grownBy W' (Z g))/\(∃K k,v=H K el.length k/\W'.ownsRow Wa.heap.size 106 4 (H K el.length k) el.length (aF Elt.cells el)/\By Wa W'/\By W W')) (fun e' W'⟨K,k,he,g1,g2⟩=>⟨_,he,SH.out W' (cT hg' g2),K,k,rfl,eL g1 hb'.size,hb'.trans (g2.mono hb'.size),g2⟩));have HBA:=G BA;clear k1 k2 k3 BA;go_wp2_with fail;refine wp_region_held_drew (S:=fun W'=>W'.cell? ⟨w.heap.size,0,N⟩=Z (H (Z ⟨g,0,N⟩) c.ents.length e0)/\W'.cell? ⟨wr.heap.size,0,N⟩=Z (H C cd.length cc)/\W'.cell? ⟨wr.heap.size,1,N⟩=Z (H E el.length ec)/\Wa.grownBy W' (Z g)) (by kernel_rfl) (SH.out _ (c_ (aO Wa _))) (fun hHeld=>?_);refine tK 0 21 ?_;refine tK 1 22 ?_;refine tK 2 23 ?_;refine tK 3 24 ?_;refine tK 4 25 ?_;refine tK 6 27 ?_;refine tK 7 28 ?_;refine qE 5 26 (TI.out _ (Below.refl _ _).drew (c_ (aO Wa _))) ?_;clear hHeld;rintro _ W5 hHeld ⟨K,k,rfl,hK,hb5⟩;refine qE 8 29 (TE.out _ hb5 hHeld.2.2.2) ?_;clear hHeld;rintro _ W6 hHeld ⟨D,dd,rfl,hD,hb6,hb56⟩;refine tK 9 30 ?_;refine tK 10 31 ?_;obtain⟨g',_,_,_,_,hE',_,_,e0',e1',f0',f1',_⟩:=(FRZ.out.below hb6).at hlt;obtain rfl:g=g':=by injection hE' with hE';injection hE'
  clear hE';have g1':(W6.setCell ⟨g,i*2,N⟩ (H K cd.length k)).frozen? ⟨g,i*2+1,N⟩=false:=by simpa using f1'
  refine mU (w':=(W6.setCell ⟨g,i*2,N⟩ (H K cd.length k)).setCell ⟨g,i*2+1,N⟩ (H D el.length dd)) (i:=11) N rfl rfl (by kernel_rfl) (by rfl) (by go_simp) (SH.out _ (bJ (p:=⟨g,i*2+1,N⟩) (bJ (p:=⟨g,i*2,N⟩) (hHeld.2.2.2) _) _)) ?_;try simp only[Act.put]
  refine wpAnyH_done (by kernel_rfl) ?_ _;have hgr:=bF (cT HW.out HBA.out) hHeld.2.2.2
  have hput:=PUT.out K k D dd W6 (FRZ.out.below hb6) (aA.below (Sl.of_own hK) hb56) (fun _ q hq=>by
   have h1:=(dD hK hq).1
   exact⟨by omega,by omega⟩) (Sl.of_own hD) (fun _ q hq=>by
   have h1:=(dD hD hq).1
   exact⟨by omega,by omega⟩)
  have HGR:=G hgr;have HPT:=G hput;clear hHeld SH TI TE FRZ e0' e1' f0' f1' g1' hgr hput hK hD hb5 hb6 hb56 PUT HMi HBA XA XRa HXr HXs;go_wp2_with fail;go_roundw
  case rel=>exact⟨i+1,by omega,by go_num,HPT.out,bJ (p:=⟨g,i*2+1,N⟩) (bJ (p:=⟨g,i*2,N⟩) HGR.out _) _⟩
  simp[intOf];omega
 obtain rfl:i=c.ents.length:=by omega
 have X0r:=HXr.out;have c0:=X0r.c 0 rfl;have c1:=X0r.c 1 rfl;have c2:=X0r.c 2 rfl;have c3:=X0r.c 3 rfl;have c4:=X0r.c 4 rfl;have X1r:=HXs.out;have f0:=X1r.free 0;have f1:=X1r.free 1;have f2:=X1r.free 2;have f3:=X1r.free 3;have f4:=X1r.free 4;have g0:=X1r.c 0 rfl;have g1:=X1r.c 1 rfl;have g2:=X1r.c 2 rfl;have g3:=X1r.c 3 rfl;have g4:=X1r.c 4 rfl;have hwz:w.heap.size+1<W1.heap.size:=hz3;have MF:fA (((((wr.setCell ⟨w.heap.size+1,0,N⟩ (H E0 c.ents.length e0)).setCell ⟨w.heap.size+1,1,N⟩ (H E1 c.grps.length e1)).setCell ⟨w.heap.size+1,2,N⟩ (I J c.base)).setCell ⟨w.heap.size+1,3,N⟩ (I J c.second)).setCell ⟨w.heap.size+1,4,N⟩ (I J c.third)) W1.heap.size (w.heap.size+1) E0 e0 c.ents:=((((hm.off hwz ⟨w.heap.size+1,0,N⟩ rfl _).off hwz ⟨w.heap.size+1,1,N⟩ rfl _).off hwz ⟨w.heap.size+1,2,N⟩ rfl _).off hwz ⟨w.heap.size+1,3,N⟩ rfl _).off hwz ⟨w.heap.size+1,4,N⟩ rfl _;have ZF:Box (((((wr.setCell ⟨w.heap.size+1,0,N⟩ (H E0 c.ents.length e0)).setCell ⟨w.heap.size+1,1,N⟩ (H E1 c.grps.length e1)).setCell ⟨w.heap.size+1,2,N⟩ (I J c.base)).setCell ⟨w.heap.size+1,3,N⟩ (I J c.second)).setCell ⟨w.heap.size+1,4,N⟩ (I J c.third)) (w.heap.size+1) 32 [H E0 c.ents.length e0,H E1 c.grps.length e1,I J c.base,I J c.second,I J c.third]:=((((X1r.set 0 _).set 1 _).set 2 _).set 3 _).set 4 _;have GF:wr.grownBy (((((wr.setCell ⟨w.heap.size+1,0,N⟩ (H E0 c.ents.length e0)).setCell ⟨w.heap.size+1,1,N⟩ (H E1 c.grps.length e1)).setCell ⟨w.heap.size+1,2,N⟩ (I J c.base)).setCell ⟨w.heap.size+1,3,N⟩ (I J c.second)).setCell ⟨w.heap.size+1,4,N⟩ (I J c.third)) (Z (w.heap.size+1)):=bJ (p:=⟨w.heap.size+1,4,N⟩) (bJ (p:=⟨w.heap.size+1,3,N⟩) (bJ (p:=⟨w.heap.size+1,2,N⟩) (bJ (p:=⟨w.heap.size+1,1,N⟩) (dU wr ⟨w.heap.size+1,0,N⟩ _) _) _) _) _;have WFE:∃Wf,(((((wr.setCell ⟨w.heap.size+1,0,N⟩ (H E0 c.ents.length e0)).setCell ⟨w.heap.size+1,1,N⟩ (H E1 c.grps.length e1)).setCell ⟨w.heap.size+1,2,N⟩ (I J c.base)).setCell ⟨w.heap.size+1,3,N⟩ (I J c.second)).setCell ⟨w.heap.size+1,4,N⟩ (I J c.third))=Wf:=⟨_,rfl⟩;have HHG:=G hg;clear hm hg X0r X1r HXr HXs;go_wp2_with fail;obtain⟨Wf,hWf⟩:=WFE;try rw[hWf]at MF ZF GF|-
 clear hWf;have z0:=ZF.c 0 rfl;have z1':=ZF.c 1 rfl;have z2:=ZF.c 2 rfl;have z3:=ZF.c 3 rfl;have z4:=ZF.c 4 rfl;(try simp only[Exit.inBlock,Exit.then]);refine bodyPost_ret (XE rfl _ _ (b:=w.heap.size+1) rfl z0 z1' z2 z3 z4) rfl ?_;have hcf:Chg (fun q=>blk E0=Z q\/q=w.heap.size+1) W2 Wf:=(Chg.of_grown HHG.out (fun q e=>.inl e)).trans (Chg.of_grown GF (fun q e=>.inr (by injection e with e;exact e.symm)))
 have h1:jK Wf E1 c.grps:=hcf.sl (Sl.of_own HO1.out) (fun _ q hq hS=>by
  have b1:=Q1.out q hq
  rcases hS with g|g
  ·have:=HE1.out q g;omega
  ·omega)
 have bel:By w Wf:=HB0.out.trans (hcf.below (n:=w.heap.size) (by omega) (fun k hk=>by
  rcases hk with g|g
  ·have:=HE1.out k g;omega
  ·omega))
 exact⟨E0,e0,E1,e1,rfl,HFIN.out E0 E1 Wf MF.is h1,bel⟩
end
end Go.Proofs.YtpfbnikbebccjaaGreatDoor
