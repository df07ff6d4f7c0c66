import Derived.Test.YtkhmjidaeliccaaGreatDoorS15
set_option maxRecDepth 100000
set_option maxHeartbeats 51200000
namespace Go.Proofs.YtkhmjidaeliccaaGreatDoor
open Option renaming none->N,some->Z
open Value renaming int->I,slice->H
open IntKind renaming i64->J
open Go.Proofs.Tryz
section
open Go.RowKit Go.Maps Go.WideMaps
def mH:Value->Nat
 | H _ n _=>n
 |_=>0
def aT(x:Nrm)(c:Col)(t:Li):List Elt:=Mtc.elems (cls (usN x).cls) (aF (aW c).ents) (aZ (aW c)) (dtx x false t)
structure EL(cl:Int->Int)(ent:Li->Option (List Elt))(imp:Int->List Elt)(els:List Elt)(tot:Nat)(b:Nat)(w1:Wv)(t:Li)(A:Oa)(cap:Nat)(E:Oa)(k:Nat)(es:List Elt)(W:Wv):Prop where
 eq:es++Mtc.elems cl ent imp t=els
 own:W.ownsRow w1.heap.size 77 4 (H E es.length k) es.length (aB Elt.cells es)
 gr:w1.grownBy W (Z b)
 bd:es.length+16*t.length<=16*tot
 cp:t.length<=cap
 cm:cap<=9223372036854775807
 row:t≠[]->b<w1.heap.size/\∃off pre post,A=Z ⟨b,off,N⟩/\Row W b off 3 pre post t
 io:∀z∈t,iok z
section
variable {cl:Int->Int}{ent:Li->Option (List Elt)}{imp:Int->List Elt}{els:List Elt}{tot b:Nat}{w1:Wv}{t:Li}{A:Oa}{cap:Nat}{E:Oa}{k:Nat}{es:List Elt}{W:Wv}
theorem EL.own_match(h:EL cl ent imp els tot b w1 t A cap E k es W)(ht:t≠[]){W':Wv}(hg:W.grownBy W' (Z b)):W'.ownsRow w1.heap.size 77 4 (H E es.length k) es.length (aB Elt.cells es):=by
 refine h.own.kept hg ?_;cases E with
 |none=>exact .inl rfl
 |some a=>
  right;intro e;have d:a.block=b:=by injection e
  rcases h.own.2 with⟨hv,_⟩|⟨g,cp,c,hv,f,_⟩
  ·cases hv
  injection hv with hv;injection hv with hv;subst hv;have:=(h.row ht).1;dsimp only at d;omega
theorem EL.next(h:EL cl ent imp els tot b w1 t A cap E k es W)(ht:t≠[]){off:Nat}{pre post:Lv}{W' W2:Wv}(hg:W.grownBy W' (Z b))(hp:(Mtc.ofPart ent imp (Mtc.matched cl ent t).1 (Mtc.matched cl ent t).2.2).length<=16)(hrow:A=Z ⟨b,off,N⟩/\Row W' b off 3 pre post ((Mtc.matched cl ent t).1++(Mtc.matched cl ent t).2.1))
  {E':Oa} {k':Nat} (ho:W2.ownsRow w1.heap.size 77 4 (H E' (es.length+(Mtc.ofPart ent imp (Mtc.matched cl ent t).1 (Mtc.matched cl ent t).2.2).length) k') (es.length+(Mtc.ofPart ent imp (Mtc.matched cl ent t).1 (Mtc.matched cl ent t).2.2).length) (aB Elt.cells es++aB Elt.cells (Mtc.ofPart ent imp (Mtc.matched cl ent t).1 (Mtc.matched cl ent t).2.2))) (hb:Below w1.heap.size W' W2) :
  EL cl ent imp els tot b w1 (Mtc.matched cl ent t).2.1 (cD A cap (Mtc.matched cl ent t).1.length) (cap-(Mtc.matched cl ent t).1.length) E' k' (es++Mtc.ofPart ent imp (Mtc.matched cl ent t).1 (Mtc.matched cl ent t).2.2) W2:=by
 obtain⟨o,p⟩:=Mtc.matched_len (cl:=cl) (ent:=ent) ht;obtain⟨i,hrow⟩:=hrow;have n:=h.cp;have m:=h.cm;have j:=h.bd;have d:=Mtc.matched_mem (cl:=cl) (ent:=ent) (t:=t);have c:=h.eq;rw[Mtc.elems_step ht,<-List.append_assoc]at c;have a:=(h.row ht).1;have f:=h.io;have e:=h.gr;generalize Mtc.matched cl ent t=mt at *;generalize Mtc.ofPart ent imp mt.1 mt.2.2=l at *;refine⟨c,by rw[List.length_append,iA];exact ho,yN (bK e hg) hb (Nat.le_refl _),by rw[List.length_append];omega,O,O,λhne=>⟨a,off+mt.1.length,pre++mt.1.map (Value.int .i64),post,?_,?_⟩,λz hz=>f z ((d z).1 (by simp[hz]))⟩
 ·have:=List.length_pos_iff.2 hne
  unfold cD;rw[if_neg O,i,Option.map_some,Addr.add_lit]
 refine⟨by rw[List.length_append,List.length_map,hrow.1],?_⟩;have g:=(hrow.keep (hb.block b a)).2;unfold Blk at g|-;rw[g,List.map_append];simp only[List.append_assoc]
theorem EL.first{d:Li}{n:Nat}{wb:Wv}(hA:w1.ownsRow wb.heap.size 3 1 (H A n cap) n (d.map (Value.int .i64)))(hn:d.length=n)(hio:∀z∈d,iok z)(hb:∀g o,A=Z ⟨g,o,N⟩->g=b):EL cl ent imp (Mtc.elems cl ent imp d) d.length b w1 d A cap N 0 [] w1:=by
 refine⟨rfl,World.ownsRow_nil _ _ _ _,aP _ _,L,?_,?_,λhne=>?_,hio⟩
 ·obtain⟨_,_,hv,hc⟩:=iC hA
  injection hv with _ _ hv;subst hv;omega
 ·rcases hA.2 with⟨hv,_⟩|⟨g,cp,h,hv,_,_,_,e,_⟩
  ·injection hv with _ _ hv
   omega
  injection hv with _ _ hv;unfold maxLen at e;omega
 have f:=List.length_pos_iff.2 hne;obtain⟨g,a,rfl,i,c,j,k,e⟩:=AR hA O;obtain rfl:=hb g 0 rfl;exact⟨c.lt,0,[],a,rfl,c⟩
end
theorem uE{c:Col}(h:aK c=0)(p:Li)(q:Bool):(Mtc.ofPart (aF c.ents) (aZ c) p q).length<=16:=by
 unfold Mtc.ofPart;split
 ·exact RA h p
 unfold aZ;split<;>simp
theorem ND(A0:Oa)(n0 k0:Nat)(A1:Oa)(n1 k1:Nat)(A2:Oa)(n2 k2:Nat)(x:Nrm)(C:Oa)(n a:Nat)(B:Oa)(m b:Nat)(c:Col)(D:Oa)(dn dk:Nat)(t:Li)(w:Wv)(hN:cB w A0 n0 A1 n1 A2 n2 x)(hz:cZ x)(hL:dX w)(hC:aO w C n B m c)(hcz:aQ c)(hD:aA w D t)(hn:t.length=dn)(hbig:dn<=16384)(hio:∀z∈t,iok z):
  Calls prog 22 #[.agg #[H A0 n0 k0,H A1 n1 k1,H A2 n2 k2],aJ C n a B m b c,H D dn dk] w (jO (aT x c t) w):=by
 subst hn;have B0:By w ((w.alloc (.cells #[H A0 n0 k0,H A1 n1 k1,H A2 n2 k2] 28)).alloc (.cells #[H C n a,H B m b,I J c.base,I J c.second,I J c.third] 32)):=(ba _ _).alloc L _;have X0:Box ((w.alloc (.cells #[H A0 n0 k0,H A1 n1 k1,H A2 n2 k2] 28)).alloc (.cells #[H C n a,H B m b,I J c.base,I J c.second,I J c.third] 32)) w.heap.size 28 [H A0 n0 k0,H A1 n1 k1,H A2 n2 k2]:=(Box.new w 28 [H A0 n0 k0,H A1 n1 k1,H A2 n2 k2] rfl).below (B:=w.heap.size+1) ((Below.refl _ _).alloc L _) O;have X1:Box ((w.alloc (.cells #[H A0 n0 k0,H A1 n1 k1,H A2 n2 k2] 28)).alloc (.cells #[H C n a,H B m b,I J c.base,I J c.second,I J c.third] 32)) (w.heap.size+1) 32 [H C n a,H B m b,I J c.base,I J c.second,I J c.third]:=Box.new _ _ _ L;have bd:∃Q,((w.alloc (.cells #[H A0 n0 k0,H A1 n1 k1,H A2 n2 k2] 28)).alloc (.cells #[H C n a,H B m b,I J c.base,I J c.second,I J c.third] 32))=Q:=⟨_,rfl⟩;have bu:=xK (x:=x) false hio;have cz:=pE x false t;have HE:=U (aT x c t=Mtc.elems (cls (usN x).cls) (aF (aW c).ents) (aZ (aW c)) (dtx x false t)) rfl;have MC:=G (λW(hb:By w W)=>zK C n a B m b c W (hC.below hb) hcz);have WC:=G (λW T(hb:By w W)R hT=>FX A0 n0 k0 A1 n1 k1 A2 n2 k2 x T (aW c) w W hN hz hL hb R hT);have DC:=G (λW(hb:By w W)=>sI A0 n0 k0 A1 n1 k1 A2 n2 k2 x D t.length dk t false W (hN.below hb) hz (hL.below hb) (hD.below hb) rfl hbig hio);have X:=nR c;have PL:=G (uE X);have bn:=FW X;have ap:=(kN X).2;have cy:=hz.us.z0;have bm:=FO x;clear hN hz hL hC hcz hD hio X;generalize aT x c t=els at *;generalize dtx x false t=d at *;generalize (usN x).cls=cs at *;unfold aJ at *;go_enter func22,ntmps22;go_wp2_with fail;obtain⟨Q,am⟩:=bd;try rw[am]at B0 X0 X1|-
 clear am;obtain⟨ay,az,a0⟩:=X0.k3;obtain⟨a1,a2,a3,a4,a5⟩:=X1.k5;have l0:=X0.lt;have l1:=X1.lt;have SH:=G (λW'(hb':By Q W')=>show W'.cell? ⟨w.heap.size,0,N⟩=Z (H A0 n0 k0)/\W'.cell? ⟨w.heap.size,1,N⟩=Z (H A1 n1 k1)/\W'.cell? ⟨w.heap.size,2,N⟩=Z (H A2 n2 k2)/\W'.cell? ⟨w.heap.size+1,0,N⟩=Z (H C n a)/\W'.cell? ⟨w.heap.size+1,1,N⟩=Z (H B m b)/\W'.cell? ⟨w.heap.size+1,2,N⟩=Z (I J c.base)/\W'.cell? ⟨w.heap.size+1,3,N⟩=Z (I J c.second)/\W'.cell? ⟨w.heap.size+1,4,N⟩=Z (I J c.third)/\By Q W' from⟨(hb'.cell l0).trans ay,(hb'.cell l0).trans az,(hb'.cell l0).trans a0,(hb'.cell l1).trans a1,(hb'.cell l1).trans a2,(hb'.cell l1).trans a3,(hb'.cell l1).trans a4,(hb'.cell l1).trans a5,hb'⟩);have TM:=G (λW(hb':By Q W)=>(MC.o W (tb B0 hb')).mono (R':=λe W'=>∃v,e=.returned v/\(W'.cell? ⟨w.heap.size,0,N⟩=Z (H A0 n0 k0)/\W'.cell? ⟨w.heap.size,1,N⟩=Z (H A1 n1 k1)/\W'.cell? ⟨w.heap.size,2,N⟩=Z (H A2 n2 k2)/\W'.cell? ⟨w.heap.size+1,0,N⟩=Z (H C n a)/\W'.cell? ⟨w.heap.size+1,1,N⟩=Z (H B m b)/\W'.cell? ⟨w.heap.size+1,2,N⟩=Z (I J c.base)/\W'.cell? ⟨w.heap.size+1,3,N⟩=Z (I J c.second)/\W'.cell? ⟨w.heap.size+1,4,N⟩=Z (I J c.third)/\By Q W')/\(∃T,v=.pointer (Z ⟨T,0,N⟩)/\W.heap.size<=T/\d_ W' T (aW c) (H N 0 0) 0)) (λe W'⟨T,he,g1,g2,g3⟩=>⟨_,he,SH.o W' (tb hb' g3),T,rfl,g1,g2⟩));clear ay az a0 a1 a2 a3 a4 a5;refine wp_region_held_drew (S:=λW'=>W'.cell? ⟨w.heap.size,0,N⟩=Z (H A0 n0 k0)/\W'.cell? ⟨w.heap.size,1,N⟩=Z (H A1 n1 k1)/\W'.cell? ⟨w.heap.size,2,N⟩=Z (H A2 n2 k2)/\W'.cell? ⟨w.heap.size+1,0,N⟩=Z (H C n a)/\W'.cell? ⟨w.heap.size+1,1,N⟩=Z (H B m b)/\W'.cell? ⟨w.heap.size+1,2,N⟩=Z (I J c.base)/\W'.cell? ⟨w.heap.size+1,3,N⟩=Z (I J c.second)/\W'.cell? ⟨w.heap.size+1,4,N⟩=Z (I J c.third)/\By Q W') oK_ (SH.o _ ((Below.refl _ _).drew)) (λf=>?_);refine tK 0 13 ?_;refine tK 2 15 ?_;refine qE 1 14 (TM.o _ f.2.2.2.2.2.2.2.2) ?_;clear f;rintro _ W1 f ⟨T,rfl,R,ab⟩;have TW:=G ((WC.o W1 T (B0.trans (f.2.2.2.2.2.2.2.2.mono B0.size)) (by have:=B0.size;have:Q.heap.size<=T:=R;omega) ab).mono (R':=λe W'=>∃v,e=.returned v/\(W'.cell? ⟨w.heap.size,0,N⟩=Z (H A0 n0 k0)/\W'.cell? ⟨w.heap.size,1,N⟩=Z (H A1 n1 k1)/\W'.cell? ⟨w.heap.size,2,N⟩=Z (H A2 n2 k2)/\W'.cell? ⟨w.heap.size+1,0,N⟩=Z (H C n a)/\W'.cell? ⟨w.heap.size+1,1,N⟩=Z (H B m b)/\W'.cell? ⟨w.heap.size+1,2,N⟩=Z (I J c.base)/\W'.cell? ⟨w.heap.size+1,3,N⟩=Z (I J c.second)/\W'.cell? ⟨w.heap.size+1,4,N⟩=Z (I J c.third)/\By Q W')/\(v=.pointer (Z ⟨T,0,N⟩)/\(∃A k,d_ W' T (aW c) (H A cs.length k) (fO cs)/\bG W' A cs))) (λe W'⟨he,h2,h3⟩=>⟨_,he,SH.o W' (f.2.2.2.2.2.2.2.2.trans (lB h3 (show Q.heap.size<=T from R) f.2.2.2.2.2.2.2.2.size)),rfl,h2⟩));refine qE 3 16 (TW.o) ?_;clear f;rintro _ s f ⟨rfl,AX,kX,y,aa⟩;refine tK 4 7 ?_;refine wpAnyH_done oK_ ?_ _;have bk:=f.2.2.2.2.2.2.2.2;have E:=tb B0 bk;have bw:=f.1;have bx:=f.2.1;have bz:=f.2.2.1;have HT:=G y;have HS:=G aa;have KD:=G (DC.o s E);have cv:=E.size;clear f SH TM TW WC MC ab y aa DC;go_wp2_with fail;refine KD.o.mono ?_
 rintro e W3 ⟨E0,d0,rfl,F,ae⟩;have HM:=U (∀b,s.heap.size<=b->qR T (aW c) cs AX kX b s) (λb hb=>⟨HT.o,HS.o,hb,bm,O,bn,⟨ap.1,ap.2.1⟩⟩)
 obtain⟨bq,ao,ah⟩:∃bq,s.heap.size<=bq/\∀g o,E0=Z ⟨g,o,N⟩->g=bq:=by
  cases E0 with
  |none=>exact⟨_,Nat.le_refl _,λg o h=>by cases h⟩
  |some ad=>
   rcases F.2 with⟨hv,_⟩|⟨g,cp,ct,hv,h1,_⟩
   ·cases hv
   injection hv with hv;injection hv with hv;subst hv;exact⟨g,h1,λg' o h=>by injection h with h;injection h with h1 h2;exact h1.symm⟩
 have HF:=G (EL.first (cl:=cls cs) (ent:=aF (aW c).ents) (imp:=aZ (aW c)) F rfl bu ah);rw[<-HE.o]at HF;have MT:=G (HM.o bq ao);clear HM ah F KD bw bx bz HT HS;go_wp2;go_loopw [8,9] (λu v wr=>∃(r:Li)(A':Oa)(j:Nat)(E':Oa)(k':Nat)(es:List Elt),u=H E' es.length k'/\v=H A' r.length j/\EL (cls cs) (aF (aW c).ents) (aZ (aW c)) els d.length bq W3 r A' j E' k' es wr) (λ_ v _=>mH v)
 case atStart=>exact⟨d,E0,d0,N,0,[],rfl,rfl,HF.o⟩
 obtain⟨r,A',j,E',k',es,rfl,rfl,i⟩:=hrel;have HL:=G i;have bp:=i.cp;have bo:=i.cm;have cg:=i.bd;have av:=i.gr.size;have au:By s wr:=ae.trans (lB i.gr ao ae.size);by_cases hne:r=[]
 ·have aq:=i.eq
  rw[hne,Mtc.elems_nil,List.append_nil]at aq;have bs:r.length=0:=by rw[hne];rfl
  have HO:=G i.own;have bl:=tb E au;have h3:=ae.size;clear i HL;subst hne;subst aq;go_wp2;go_ret;exact⟨E',k',rfl,eR HO.o O,bl⟩
 have ar:=List.length_pos_iff.2 hne;obtain⟨cw,q,P,l,rfl,p⟩:=i.row hne;have TC:=G (FI T (aW c) cs AX kX bq q j P l r s wr MT.o au p hne O bp bo i.io);have ML:=Mtc.matched_len (cl:=cls cs) (ent:=aF (aW c).ents) hne;have bt:=PL.o (Mtc.matched (cls cs) (aF (aW c).ents) r).1 (Mtc.matched (cls cs) (aF (aW c).ents) r).2.2;have OM:=G (λW' hg=>i.own_match hne (W':=W') hg);have NX:=G (λ(W' s:Wv) (q:Nat) (P l:Lv) hg p (E2:Oa) (k2:Nat) ho hb=>HL.o.next hne (off:=q) (pre:=P) (post:=l) (W':=W') (W2:=s) hg bt p (E':=E2) (k':=k2) ho hb);unfold oQ qZ at TC;have bs:decide ((0:Int)<(r.length:Int))=true:=by simpa using ar
 clear i HL p;generalize hmt:Mtc.matched (cls cs) (aF (aW c).ents) r=mt at *;clear hmt;generalize hpt:Mtc.ofPart (aF (aW c).ents) (aZ (aW c)) mt.1 mt.2.2=pt at *;clear hpt;obtain⟨m1,m2,mk⟩:=mt;dsimp only at *;have hcut:=λ(W:Wv)=>oG (Z ⟨bq,q,N⟩) r.length j m1.length O W
 go_wp2_with fail;refine TC.o.mono ?_
 rintro e W4 ⟨E4,d4,rfl,al,M,Y⟩;have ak:=G (OM.o W4 Y);have ai:=G al;have aj:=G (λs=>NX.o W4 s q P l Y ⟨rfl,M⟩);have bi:W3.heap.size<=W4.heap.size:=Nat.le_trans av Y.size;clear al M Y OM NX TC;go_wp2_with(at_builtin;refine a_ _ _ 54 77 (.agg #[I J 0,I J 0,I J 0,.bool false]) 4 32 rfl rfl underlying54 gU rfl V V rfl ak.o rfl ai.o (fY Elt.cells 4 (λ_=>rfl) _) (gX _) O bi ?_;intro B5 k5 w5 K cx an br bj);have bb:=G (aj.o w5 B5 k5 K an);clear K an br bj aj ak ai;go_wp2;go_roundw
 case rel=>exact⟨m2,_,_,B5,k5,es++pt,by rw[List.length_append],by rw[show r.length-m1.length=m2.length by omega],bb.o⟩
 simp[mH];omega
end
section
open Go.RowKit
def RvK(d d':Li)(i:Nat):Prop:=d'.length=d.length/\∀k,k<d.length->d'[k]?=if k<i\/d.length-1-k<i then d[d.length-1-k]? else d[k]?
theorem RvK.zero(d:Li):RvK d d 0:=⟨rfl,λk _=>by rw[if_neg O]⟩
theorem RvK.done{d d':Li}{i:Nat}(h:RvK d d' i)(hi:d.length<=2*i+1)(_h2:2*i<=d.length):d'=d.reverse:=by
 refine List.ext_getElem? λk=>?_
 by_cases hk:k<d.length
 ·rw[h.2 k hk,List.getElem?_reverse hk]
  split
  ·rfl
  congr 1;omega
 rw[List.getElem?_eq_none (by rw[h.1];omega),List.getElem?_eq_none (by rw[List.length_reverse];omega)]
theorem RvK.step{d d':Li}{i j:Nat}(h:RvK d d' i)(hij:i<j)(hj:j=d.length-1-i)(h2:2*i<=d.length){x y:Int}(hx:d'[i]?=Z x)(hy:d'[j]?=Z y):RvK d ((d'.set i y).set j x) (i+1):=by
 have hl:=h.1;have a:=h.2 i O;have b:=h.2 j O;rw[if_neg O]at a b;refine⟨by simp[hl],λk hk=>?_⟩;rw[List.getElem?_set,List.length_set,hl];by_cases e1:j=k
 ·subst e1
  rw[if_pos rfl,if_pos O,if_pos O,<-hx,a];congr 1;omega
 rw[if_neg e1,List.getElem?_set,hl];by_cases e2:i=k
 ·subst e2
  rw[if_pos rfl,if_pos O,if_pos O,<-hy,b];congr 1
 rw[if_neg e2,h.2 k hk];by_cases c:k<i\/d.length-1-k<i
 ·rw[if_pos c,if_pos O]
 rw[if_neg c,if_neg O]
def mG(e:Elt):Bool:=decide (e.p=0)&&decide (e.s=0)&&decide (e.t=0)
def jY(e:Elt)(k:Nat):Int:=if k=0 then e.p else if k=1 then e.s else if k=2 then e.t else 0
end
section
open Go.RowKit Go.Maps Go.WideMaps
structure kK(w:Wv)(s:Nat)(va:Int)(a:Bool):Prop where
 b0:Box w s 3 [I J va]
 b1:Box w (s+1) 4 [.bool a]
theorem kK.below{w w':Wv}{s:Nat}{va:Int}{a:Bool}(h:kK w s va a)(hb:By w w'):kK w' s va a:=⟨h.b0.below hb h.b0.lt,h.b1.below hb h.b1.lt⟩
theorem yL{a w:Wv}{r:Option Nat}(h:a.grownBy w r)(o:Obj):a.grownBy (w.alloc o) r:=cT h (ba _ _)
theorem iT{a w:Wv}{r:Option Nat}(h:a.grownBy w r)(p:Addr)(hp:a.heap.size<=p.block)(v:Value):a.grownBy (w.setCell p v) r:=
 ⟨h.os,h.tape,h.output,by simp[World.setCell];exact h.size,λk hk hne=>(Below.heap_setCell w p v k O).trans (h.block k hk hne)⟩
theorem aC{a w:Wv}{p:Addr}(h:a.grownBy w (Z p.block))(v:Value):a.grownBy (w.setCell p v) (Z p.block):=bK h (bR _ _ _)
theorem fB{w:Wv}{b:Nat}{t:TypeId}{cs:Lv}(h:Box w b t cs)(o:Obj):Box (w.alloc o) b t cs:=h.below (ba _ _) h.lt
theorem dS{w:Wv}{b:Nat}{t:TypeId}{cs:Lv}(h:Box w b t cs)(p:Addr)(hp:b≠p.block)(v:Value):Box (w.setCell p v) b t cs:=(Below.heap_setCell w p v b (λe=>hp e)).trans h
set_option linter.unusedSimpArgs false
end
section
open Go.RowKit
def blk(A:Oa):Option Nat:=A.map (λa=>a.block)
theorem bH(A:Oa)(n c:Nat):Value.ownBlock (H A n c)=blk A:=by cases A<;>rfl
def upd{α:Type}(f:Nat->α)(j:Nat)(v:α):Nat->α:=λk=>if k=j then v else f k
theorem eJ{α:Type}(f:Nat->α)(j:Nat)(v:α):upd f j v j=v:=if_pos rfl
theorem eK{α:Type}{f:Nat->α}{j k:Nat}{v:α}(h:k≠j):upd f j v k=f k:=if_neg h
structure R4(w:Wv)(base:Nat)(A:Nat->Oa)(C:Nat->Nat)(R:Nat->Li):Prop where
 own:∀k,k<4->w.ownsRow base 3 1 (H (A k) (R k).length (C k)) (R k).length ((R k).map (Value.int .i64))
 ne:∀j k,j<4->k<4->j≠k->blk (A j)=N\/blk (A j)≠blk (A k)
section
variable {w w':Wv}{base:Nat}{A:Nat->Oa}{C:Nat->Nat}{R:Nat->Li}
theorem R4.nil(w:Wv)(base:Nat):R4 w base (λ_=>N) (λ_=>0) (λ_=>[]):=⟨λ_ _=>World.ownsRow_nil _ _ _ _,λ_ _ _ _ _=>.inl rfl⟩
theorem R4.lt(h:R4 w base A C R){k q:Nat}(hk:k<4)(hq:blk (A k)=Z q):base<=q/\q<w.heap.size:=(h.own k hk).lt q (by rw[bH];exact hq)
theorem R4.keep(h:R4 w base A C R){q:Nat}(hg:w.grownBy w' (Z q))(hq:q<base):R4 w' base A C R:=by
 refine⟨λk hk=>(h.own k hk).kept hg ?_,h.ne⟩;rw[bH];cases hb:blk (A k)with
 |none=>exact .inl rfl
 |some g=>
  right;intro e;injection e with e;have:=(h.lt hk hb).1;omega
theorem R4.below(h:R4 w base A C R)(hb:By w w'):R4 w' base A C R:=⟨λk hk=>aG (h.own k hk) hb,h.ne⟩
theorem R4.put(h:R4 w base A C R){j:Nat}(hj:j<4){B:Oa}{k:Nat}{zs:Li}(ho:w'.ownsRow base 3 1 (H B zs.length k) zs.length (zs.map (Value.int .i64)))(hg:w.grownBy w' (blk (A j)))(hB:B=A j\/B=Z ⟨w.heap.size,0,N⟩):
  R4 w' base (upd A j B) (upd C j k) (upd R j zs):=by
 refine⟨λi hi=>?_,λi l hi hl hne=>?_⟩
 ·by_cases e:i=j
  ·subst e
   rw[eJ,eJ,eJ];exact ho
  rw[eK e,eK e,eK e];refine(h.own i hi).kept hg ?_;rw[bH];exact h.ne i j hi hj e
 have nb:∀i,i<4->i≠j->blk (A i)=N\/blk (A i)≠blk B:=λi hi e=>by
  rcases hB with rfl|rfl
  ·exact h.ne i j hi hj e
  cases hb:blk (A i)with
  |none=>exact .inl rfl
  |some g=>
   right;intro a;have b:g=w.heap.size:=by injection a
   have:=(h.lt hi hb).2;omega
 by_cases e:i=j
 ·subst e
  rw[eJ,eK (λg=>hne g.symm)];cases hb:blk B with
  |none=>exact .inl rfl
  |some g=>
   right;rcases nb l hl (λg=>hne g.symm)with g1|g1
   ·rw[g1];simp
   rw[hb]at g1;exact λe=>g1 e.symm
 rw[eK e];by_cases a:l=j
 ·subst a
  rw[eJ];exact nb i hi e
 rw[eK a];exact h.ne i l hi hl hne
end
end
section
open Go.RowKit Go.Maps Go.WideMaps
theorem MZ(C:Oa)(n a:Nat)(B:Oa)(m b:Nat)(c:Col)(w:Wv)(h:aO w C n B m c)(hz:aQ c)(he:¬aK c=0):
  Calls prog 157 #[aJ C n a B m b c] w (λe w'=>e=.returned (aJ N 0 0 N 0 0 gP)/\By w w'):=by
 have g:By w ((w.alloc (.cells #[H C n a,H B m b,I J c.base,I J c.second,I J c.third] 32)).alloc (.cells #[H N 0 0,H N 0 0,I J 0,I J 0,I J 0] 32)):=(ba _ _).alloc L _;have i:Box ((w.alloc (.cells #[H C n a,H B m b,I J c.base,I J c.second,I J c.third] 32)).alloc (.cells #[H N 0 0,H N 0 0,I J 0,I J 0,I J 0] 32)) w.heap.size 32 [H C n a,H B m b,I J c.base,I J c.second,I J c.third]:=fB (Box.new w 32 [H C n a,H B m b,I J c.base,I J c.second,I J c.third] rfl) _;have j:Box ((w.alloc (.cells #[H C n a,H B m b,I J c.base,I J c.second,I J c.third] 32)).alloc (.cells #[H N 0 0,H N 0 0,I J 0,I J 0,I J 0] 32)) (w.heap.size+1) 32 [H N 0 0,H N 0 0,I J 0,I J 0,I J 0]:=Box.new _ _ _ L;have l:∃k,((w.alloc (.cells #[H C n a,H B m b,I J c.base,I J c.second,I J c.third] 32)).alloc (.cells #[H N 0 0,H N 0 0,I J 0,I J 0,I J 0] 32))=k:=⟨_,rfl⟩;have o:=G (λW(hb:By w W)=>uG C n a B m b c W (h.below hb) hz);clear h hz;generalize aK c=er at *;have q:(er !=0)=true:=by simpa using he
 clear he;unfold aJ gP at *;go_enter func157,ntmps157;go_wp2_with fail;obtain⟨k,f⟩:=l;rw[f]at g i j|-;clear f;have V:=i.lt;have D:=j.lt;obtain⟨v,x,y,z,A⟩:=i.k5;go_wp2_with fail;refine(o.o k g).mono ?_
 rintro e t ⟨rfl,d⟩;have p:=j.below d D;have r:=tb g d;clear v x y z A i j g d o;obtain⟨E,F,K,M,O⟩:=p.k5;obtain⟨P,Q,R,S,T⟩:=p.f5;have s:=G (λ(u0 u1 u2 u3 u4:Value)=>show By w (((((t.setCell ⟨w.heap.size+1,0,N⟩ u0).setCell ⟨w.heap.size+1,1,N⟩ u1).setCell ⟨w.heap.size+1,2,N⟩ u2).setCell ⟨w.heap.size+1,3,N⟩ u3).setCell ⟨w.heap.size+1,4,N⟩ u4)from((((r.setCell L _).setCell L _).setCell L _).setCell L _).setCell L _);go_wp2_with fail;(try simp only[Exit.inBlock,Exit.then]);refine bodyPost_ret (CQ _ _ (b:=w.heap.size+1) (v0:=H N 0 0) (v1:=H N 0 0) (z0:=64448) (z1:=32) (z2:=2) rfl oS_ oS_ oS_ oS_ oS_) rfl ?_;exact⟨rfl,s.o _ _ _ _ _⟩
noncomputable def cdV(C:Oa)(n a:Nat)(B:Oa)(m b:Nat)(c:Col):Value:=if aK c=0 then aJ C n a B m b c else aJ N 0 0 N 0 0 gP
theorem xE(C:Oa)(n a:Nat)(B:Oa)(m b:Nat)(c:Col)(w:Wv)(h:aO w C n B m c)(hz:aQ c):
  Calls prog 157 #[aJ C n a B m b c] w (λe w'=>e=.returned (cdV C n a B m b c)/\By w w'):=by
 unfold cdV;by_cases he:aK c=0
 ·rw[if_pos he];exact M_ C n a B m b c w h hz he
 rw[if_neg he];exact MZ C n a B m b c w h hz he
theorem aQ.d{c:Col}(h:aQ c):aQ (aW c):=by
 by_cases he:aK c=0
 ·rw[o_ he];exact h
 rw[oZ he];exact⟨λi hi=>by simp[gP]at hi,by simp[gP],by simp[gP]⟩
theorem MD(w:Wv):aO w N 0 N 0 gP:=⟨⟨[],rfl,Sl.nil _ _,λi hi=>by simp[gP]at hi⟩,Sl.nil _ _,rfl,rfl,λg hg=>by simp[gP]at hg⟩
theorem wH{C:Oa}{n:Nat}{B:Oa}{m:Nat}{c:Col}{w:Wv}(h:aO w C n B m c)(a b:Nat):∃C' n' a' B' m' b',cdV C n a B m b c=aJ C' n' a' B' m' b' (aW c)/\∀W,By w W->aO W C' n' B' m' (aW c):=by
 unfold cdV;by_cases he:aK c=0
 ·rw[if_pos he,o_ he]
  exact⟨_,_,_,_,_,_,rfl,λW hb=>h.below hb⟩
 rw[if_neg he,oZ he];exact⟨_,_,_,_,_,_,rfl,λW _=>MD W⟩
theorem WA(A:Oa)(n a:Nat)(zs:Li)(x:Int)(w:Wv)(hA:aA w A zs)(hn:zs.length=n)(hb:n<=2097152):
  Calls prog 188 #[H A n a,I J x] w (fR (zs++[x]) w):=by
 subst hn;have e:By w (w.alloc (.cells #[] 3)):=ba _ _;go_enter func188,ntmps188;go_wp2_with(first|(at_builtin;refine a_ _ _ 33 3 (I J 0) 1 8 rfl rfl underlying33 cU rfl V V rfl (jG [] 3 1 0 w.heap.size rfl rfl (Nat.le_refl _) O) rfl (Sl.alloc hA _) L (cJ _) O L ?_;intro r s q b g c m j;simp only[Nat.zero_add,List.nil_append]at b g)|(at_builtin;refine a_ _ _ 33 3 (I J 0) 1 8 rfl rfl underlying33 cU rfl V V rfl (b.alloc _) rfl (fI q [x] _ rfl) L (cJ _) O (by have:=c.size;simp at this|-;omega) ?_;intro h p t d l f o k));go_ret;refine⟨h,p,by rw[List.length_append];rfl,by rw[List.length_append,List.map_append];exact d,e.trans (c.trans ?_)⟩;have i:=c.size;simp at i;exact((Below.refl _ _).alloc O _).trans f
theorem V_(C:Oa)(n a:Nat)(B:Oa)(m b:Nat)(c:Col)(x:Int)(w:Wv)(h:aO w C n B m c)(hz:aQ c):
  Calls prog 159 #[aJ C n a B m b c,I J x] w (vG (aZ (aW c) x) w):=by
 have j:By w (w.alloc (.cells #[H C n a,H B m b,I J c.base,I J c.second,I J c.third] 32)):=ba _ _;have p:Box (w.alloc (.cells #[H C n a,H B m b,I J c.base,I J c.second,I J c.third] 32)) w.heap.size 32 [H C n a,H B m b,I J c.base,I J c.second,I J c.third]:=Box.new w 32 [H C n a,H B m b,I J c.base,I J c.second,I J c.third] rfl;have o:∃s,(w.alloc (.cells #[H C n a,H B m b,I J c.base,I J c.second,I J c.third] 32))=s:=⟨_,rfl⟩;have V:=G (λW=>fM x W);have k:=G (λW(hb:By w W)=>xE C n a B m b c W (h.below hb) hz);obtain⟨M,R,O,K,Q,P,hv,_⟩:=wH h a b;have i:=kN (nR c);rw[hv]at k;clear hv h hz;unfold aJ at *;generalize aW c=e at *;by_cases hx:0<=x/\x<=1114111
 ·have hv:inR 0 1114111 x=true:=f_ hx.1 hx.2
  have f:=U (aZ e x=[⟨e.base+x/32768,e.second,e.third,false⟩,⟨32768+x%32768,0,0,false⟩]) (if_pos hx);generalize aZ e x=l at *;obtain rfl:=f.o;rw[hv]at V;clear hv f;obtain⟨_,v,y,_⟩:=i;generalize e.base=eb at *;generalize e.second=es at *;generalize e.third=et at *;go_enter func159,ntmps159;go_upto_region 1 with(fail)
  obtain⟨s,g⟩:=o;rw[g]at j p|-;clear g;go_wp2_with fail;refine(V.o _).mono ?_
  rintro r t ⟨rfl,rfl⟩;obtain⟨z,A,D,E,F⟩:=p.k5;go_wp2_with fail;refine(k.o _ j).mono ?_
  rintro r t ⟨rfl,q⟩;have d:=tb j q;clear z A D E F p k V;go_wp2;go_ret;exact⟨_,_,rfl,bI _ _ _ L,(d.alloc d.size _).alloc (by have:=d.size;simp;omega) _⟩
 have hv:inR 0 1114111 x=false:=by rw[lJ];omega
 have f:=U (aZ e x=[]) (if_neg hx);generalize aZ e x=l at *;obtain rfl:=f.o;rw[hv]at V;clear hv f i;go_enter func159,ntmps159;go_wp2_with fail;refine(V.o _).mono ?_
 rintro r t ⟨rfl,rfl⟩;go_wp2;go_ret;exact⟨N,0,rfl,Sl.nil _ _,j⟩
theorem R4.fresh{w w':Wv}{base:Nat}{A:Nat->Oa}{C:Nat->Nat}{R:Nat->Li}(h:R4 w base A C R)(hbs:base<=w.heap.size){j:Nat}{B:Oa}{k:Nat}{zs:Li}(hb:By w w')(ho:w'.ownsRow w.heap.size 3 1 (H B zs.length k) zs.length (zs.map (Value.int .i64))):
  R4 w' base (upd A j B) (upd C j k) (upd R j zs):=by
 have b:∀q,blk B=Z q->w.heap.size<=q:=λq hq=>(ho.lt q (by rw[bH];exact hq)).1
 refine⟨λi hi=>?_,λi l hi hl hne=>?_⟩
 ·by_cases e:i=j
  ·subst e
   rw[eJ,eJ,eJ];exact eR ho hbs
  rw[eK e,eK e,eK e];exact aG (h.own i hi) hb
 by_cases e:i=j
 ·subst e
  rw[eJ,eK (λg=>hne g.symm)];cases hB:blk B with
  |none=>exact .inl rfl
  |some g=>
   right;intro a;have:=b g hB;have:=(h.lt hl a.symm).2;omega
 rw[eK e];by_cases a:l=j
 ·subst a
  rw[eJ];cases hA:blk (A i)with
  |none=>exact .inl rfl
  |some g=>
   right;intro a;have:=b g a.symm;have:=(h.lt hi hA).2;omega
 rw[eK a];exact h.ne i l hi hl hne
def R2(p l:Li):Nat->Li:=λk=>if k=0 then p else if k=1 then l else []
theorem GP(p l q:Li):upd (R2 p l) 0 q=R2 q l:=by
 funext k;unfold upd R2;by_cases h:k=0
 ·simp[h]
 simp[h]
theorem qU(p l q:Li):upd (R2 p l) 1 q=R2 p q:=by
 funext k;unfold upd R2;by_cases h:k=1
 ·subst h;simp
 simp[h]
theorem R4.len{w:Wv}{base:Nat}{A:Nat->Oa}{C:Nat->Nat}{R:Nat->Li}(h:R4 w base A C R){k:Nat}(hk:k<4):(R k).length<=C k:=by
 obtain⟨_,_,hv,hc⟩:=iC (h.own k hk);injection hv with _ _ hv;subst hv;exact hc
theorem R4.low{w w':Wv}{base:Nat}{A:Nat->Oa}{C:Nat->Nat}{R:Nat->Li}(h:R4 w base A C R)(hbs:base<=w.heap.size){k:Nat}(hk:k<4){n c:Nat}(hg:w.grownBy w' (Value.ownBlock (H (A k) n c))):Below base w w':=by
 rw[bH]at hg;exact⟨hg.os,hg.tape,hg.output,hg.size,λq hq=>hg.block q O (λe=>by have:=(h.lt hk e.symm).1;omega)⟩
def vH(A:Oa)(mt:Li×Li×Bool)(w:Wv)(e:Ending)(w':Wv):Prop:=
 ∃P p L l,e=.returned (.tuple #[H P mt.1.length p,H L mt.2.1.length l,.bool mt.2.2])/\aA w' P mt.1/\aA w' L mt.2.1/\mt.1.length<=p/\mt.2.1.length<=l/\(∀q,blk L=Z q->blk A=Z q\/w.heap.size<=q)/\By w w'
theorem JS(A:Oa)(a lo:Nat):blk (cD A a lo)=blk A:=by
 unfold cD;split
 ·rfl
 cases A with
 |none=>rfl
 |some x=>simp[blk,Addr.add];split<;>rfl
theorem WG(A0:Oa)(k0:Nat)(cs:List Spn)(C:Oa)(n a':Nat)(B:Oa)(m b:Nat)(c:Col)(A:Oa)(a:Nat)(t:Li)(w:Wv)(hS:bG w A0 cs)(hcs:cs.length<=1099511627776)(hC:aO w C n B m c)(hcz:aQ c)(he:aK c=0)(hA:aA w A t)(hna:t.length<=a)(ht:t≠[])(hbig:t.length<=1048576):
  Calls prog 158 #[H A0 cs.length k0,aJ C n a' B m b c,H A t.length a] w (vH A (Mtc.matched (clz cs) (aF c.ents) t) w):=by
 have B0:By w (w.alloc (.cells #[H C n a',H B m b,I J c.base,I J c.second,I J c.third] 32)):=ba _ _;have X0:Box (w.alloc (.cells #[H C n a',H B m b,I J c.base,I J c.second,I J c.third] 32)) w.heap.size 32 [H C n a',H B m b,I J c.base,I J c.second,I J c.third]:=Box.new w 32 [H C n a',H B m b,I J c.base,I J c.second,I J c.third] rfl;have c9:∃W0,(w.alloc (.cells #[H C n a',H B m b,I J c.base,I J c.second,I J c.third] 32))=W0:=⟨_,rfl⟩;have FC:=G (λ(E:Oa) k kc zs W (hb:By w W) (hE:aA W E zs) hk a6=>BU C n a' B m b c E k kc zs W (hC.below hb) hcz hE hk a6);have LF:=G (zC he);have CC:=G (λx W(hb:By w W)=>pW A0 cs.length k0 cs x W (hS.below hb) rfl hcs);have SC:=G (λx W(hb:By w W)=>WM A0 cs.length k0 cs x W (hS.below hb) rfl hcs);have HA:=G (λW(hb:By w W)=>hA.below hb);have dr:0<t.length:=List.length_pos_iff.2 ht;have M0:=G (zO (cl:=clz cs) (ent:=aF c.ents) (t:=t));have M1:=G (λz=>zP (cl:=clz cs) (ent:=aF c.ents) (t:=t) (z:=z));have ak:=G (λ(E:Oa) k kc zs W (hb:By w W) (hE:aA W E zs) hk a6=>by have h:=FC.o E k kc zs W hb hE hk a6;rw[<-LF.o zs]at h;exact h);clear hS hcs hC hcz he hA FC LF ht;unfold aJ at *;generalize aF c.ents=ent at *;generalize clz cs=cl at *;generalize hmt:Mtc.matched cl ent t=mt at *;clear hmt;go_enter func158,ntmps158;go_upto_region 1 with(fail)
 obtain⟨W0,ca⟩:=c9;rw[ca]at B0 X0|-;clear ca;have l0:=X0.lt;have HX:=G X0;have SH:=G (λW'(hb':By W0 W')=>show W'.cell? ⟨w.heap.size,0,N⟩=Z (H C n a')/\W'.cell? ⟨w.heap.size,1,N⟩=Z (H B m b)/\W'.cell? ⟨w.heap.size,2,N⟩=Z (I J c.base)/\W'.cell? ⟨w.heap.size,3,N⟩=Z (I J c.second)/\W'.cell? ⟨w.heap.size,4,N⟩=Z (I J c.third)/\By W0 W' from⟨(hb'.cell l0).trans (HX.o.c 0 rfl),(hb'.cell l0).trans (HX.o.c 1 rfl),(hb'.cell l0).trans (HX.o.c 2 rfl),(hb'.cell l0).trans (HX.o.c 3 rfl),(hb'.cell l0).trans (HX.o.c 4 rfl),hb'⟩);have ad:=G (λW'(hb':By W0 W')=>tb B0 hb');have dv:=G B0;have d5:=B0.size;clear X0 B0;go_wp2;go_loopw [9,10] (λu v wr=>∃k:Nat,1<=k/\k<=t.length+1/\u=I J (Mtc.sz ent t (k-1))/\v=I J k/\By W0 wr) (λ_ v _=>t.length+1-(intOf v).toNat)
 case atStart=>exact⟨1,O,O,rfl,rfl,Below.refl _ _⟩
 obtain⟨k,d3,a6,rfl,rfl,Y⟩:=hrel;by_cases hlt:k<=t.length
 ·have hcut:=λ(W:Wv)=>uN A t.length a k O W
  have ao:=U (∀W,By w W->aA W (cD A a 0) (t.take k)) (λW hb=>by have h:=(HA.o W hb).sub (a:=a) (lo:=0) (hi:=k) O hlt hna;simpa using h);rw[Nat.sub_zero,Nat.sub_zero]at hcut;generalize cD A a 0=DP at *;have TF:=G (λW(hb':By W0 W)(hE:aA W DP (t.take k))=>(ak.o DP k a (t.take k) W (ad.o W hb') hE (by rw[List.length_take];omega) O).mono (R':=λe W'=>∃v,e=.returned v/\(W'.cell? ⟨w.heap.size,0,N⟩=Z (H C n a')/\W'.cell? ⟨w.heap.size,1,N⟩=Z (H B m b)/\W'.cell? ⟨w.heap.size,2,N⟩=Z (I J c.base)/\W'.cell? ⟨w.heap.size,3,N⟩=Z (I J c.second)/\W'.cell? ⟨w.heap.size,4,N⟩=Z (I J c.third)/\By W0 W')/\(∃E d,v=.tuple #[H E ((ent (t.take k)).getD []).length d,.bool (ent (t.take k)).isSome])) (λe W'⟨E,d,he,g1,g2⟩=>⟨_,he,SH.o W' (tb hb' g2),E,d,rfl⟩))
  have aq:=G (λ(h:(ent (t.take k)).isSome=true)=>show Mtc.sz ent t k=k from by
   obtain⟨y,rfl⟩:∃y,k=y+1:=⟨k-1,O⟩
   exact Mtc.sz_hit h)
  have ab:=G (λ(h:¬(ent (t.take k)).isSome=true)=>show Mtc.sz ent t k=Mtc.sz ent t (k-1)from by
   obtain⟨y,rfl⟩:∃y,k=y+1:=⟨k-1,O⟩
   exact Mtc.sz_miss h)
  generalize hsz:Mtc.sz ent t (k-1)=z at *;clear hsz;go_wp2_with fail;refine wp_region_held_drew (S:=λW'=>W'.cell? ⟨w.heap.size,0,N⟩=Z (H C n a')/\W'.cell? ⟨w.heap.size,1,N⟩=Z (H B m b)/\W'.cell? ⟨w.heap.size,2,N⟩=Z (I J c.base)/\W'.cell? ⟨w.heap.size,3,N⟩=Z (I J c.second)/\W'.cell? ⟨w.heap.size,4,N⟩=Z (I J c.third)/\By W0 W') oK_ (SH.o _ (Y.drew)) (λf=>?_);refine tK 0 27 ?_;refine tK 1 28 ?_;refine tK 2 29 ?_;refine tV 3 30 (H DP k a) ?_ ?_
  ·intro w av;(try dsimp only at av);go_split_ands;go_simp
  try simp only[Act.put,sA,sB,sC]
  refine qE 4 31 (TF.o _ f.2.2.2.2.2 (ao.o _ (ad.o _ (f.2.2.2.2.2)))) ?_;clear f;rintro _ W2 f ⟨E2,d2,rfl⟩;refine tK 5 26 ?_;refine tK 6 32 ?_;refine tK 7 33 ?_;refine tK 8 11 ?_;refine tK 9 12 ?_;refine wpAnyH_done oK_ ?_ _;have bx:=G (f.2.2.2.2.2);clear f TF ao hcut;generalize ((ent (t.take k)).getD []).length=el at *;cases hsm:(ent (t.take k)).isSome with
  |true=>
   have HS:=G (aq.o hsm);clear aq ab hsm;go_wp2;go_roundw
   case rel=>exact⟨k+1,O,O,by rw[Nat.add_sub_cancel,HS.o],oN_,bx.o⟩
   exact oI_
  |false=>
   have HS:=G (ab.o (by rw[hsm];simp));clear aq ab hsm;go_wp2;go_roundw
   case rel=>exact⟨k+1,O,O,by rw[Nat.add_sub_cancel,HS.o],oN_,bx.o⟩
   exact oI_
 obtain rfl:k=t.length+1:=O;rw[Nat.add_sub_cancel];have ck:=Mtc.sz_le (ent:=ent) t t.length;generalize hsz:Mtc.sz ent t t.length=z at *;have b5:=G hsz;clear hsz;by_cases hz0:z=0
 ·have HM:=G (M0.o hz0)
  have c1:=λ(W:Wv)=>show(Instr.sliceAt 33 (H A t.length a) N (Z (I J 1)) N).run prog W=.ok (H (cD A a 0) (1-0) (a-0)) W from uN A t.length a 1 O W
  have c2:=λ(W:Wv)=>show(Instr.sliceAt 33 (H A t.length a) (Z (I J 1)) N N).run prog W=.ok (H (cD A a 1) (t.length-1) (a-1)) W from oG A t.length a 1 O W
  have cv:=U (∀q,blk (cD A a 1)=Z q->blk A=Z q\/w.heap.size<=q) (λq h=>.inl (by rw[JS]at h;exact h));have HP:=U (∀W,By w W->aA W (cD A a 0) (t.take 1)) (λW hb=>by have h:=(HA.o W hb).sub (a:=a) (lo:=0) (hi:=1) O O hna;simpa using h);have HL:=U (∀W,By w W->aA W (cD A a 1) (t.drop 1)) (λW hb=>by have h:=(HA.o W hb).sub (a:=a) (lo:=1) (hi:=t.length) O O hna;simpa using h);rw[Nat.sub_zero,Nat.sub_zero]at c1;generalize cD A a 0=P0 at *;generalize cD A a 1=P1 at *;have P:=ad.o wr Y;subst hz0;obtain rfl:=HM.o;clear M0 M1 HM SH ak CC SC;go_wp2_with fail;refine wp_region_held_drew (S:=λ_=>True) oK_ trivial (λf=>?_);refine tK 0 38 ?_;refine tV 1 39 (H P0 1 a) ?_ ?_
  ·intro w av;(try dsimp only at av);go_split_ands;go_simp
  try simp only[Act.put,sA,sB,sC]
  refine tK 2 40 ?_;refine tV 3 41 (H P1 (t.length-1) (a-1)) ?_ ?_
  ·intro w av;(try dsimp only at av);go_split_ands;go_simp
  try simp only[Act.put,sA,sB,sC]
  refine tK 4 6 ?_;refine tK 5 7 ?_;refine tK 6 8 ?_;refine wpAnyH_done oK_ ?_ _;go_wp2_with fail;go_ret3;have M:By w wr.drew:=P.drew;exact⟨P0,a,P1,a-1,by simp only[List.length_take,List.length_drop];rw[show min 1 t.length=1 by omega];rfl,HP.o _ M,HL.o _ M,by rw[List.length_take];omega,by rw[List.length_drop];omega,cv.o,M⟩
 have a8:0<z:=O;have qz:((z:Int)==0)=false:=by rw[beq_eq_false_iff_ne];omega
 have b4:=G (Mtc.MG.start (cl:=cl) (ent:=ent) (t:=t) a8 ck (by have:=Mtc.sz_some (ent:=ent) (t:=t) (k:=t.length) (by rw[b5.o];exact a8);rw[b5.o]at this;exact this));have c1:=λ(W:Wv)=>uN A t.length a z O W
 have ao:=U (∀W,By w W->aA W (cD A a 0) (t.take z)) (λW hb=>by have h:=(HA.o W hb).sub (a:=a) (lo:=0) (hi:=z) O ck hna;simpa using h);rw[Nat.sub_zero,Nat.sub_zero]at c1;generalize cD A a 0=DP at *;have P:=ad.o wr Y;have de:=Y.size;have b0:=G Y;have b2:=G (ao.o wr P);clear hz0 M0 ao Y;obtain⟨R,rfl⟩:∃R,R=wr:=⟨wr,rfl⟩;have HQ:=G P;have al:=G (λ(o:Obj)=>show By R (R.alloc o)from ba _ _);clear P;go_wp2_with(at_builtin;refine a_ _ _ 33 3 (I J 0) 1 8 rfl rfl underlying33 cU rfl V V rfl (jG [] 3 1 0 R.heap.size rfl rfl (Nat.le_refl _) O) rfl (Sl.below b2.o (al.o _)) (by rw[List.length_map,List.length_take];omega) (cJ _) O L ?_;intro B3 k3 w3 ae cd X dd db;simp only[Nat.zero_add,List.nil_append]at ae cd)
 have HF:=U (R4 w3 R.heap.size (upd (λ_=>N) 0 B3) (upd (λ_=>0) 0 k3) (R2 (t.take z) [])/\R.heap.size<=w3.heap.size/\By R w3) (by
  have hb:=(al.o (.cells #[] 3)).trans X
  refine⟨?_,hb.size,hb⟩
  have hl:(t.take z).length=z:=by rw[List.length_take];omega
  have e:upd (λ_=>[]) 0 (t.take z)=R2 (t.take z) []:=by funext k;unfold upd R2;by_cases h:k=0<;>simp[h]
  rw[<-e]
  exact(R4.nil R R.heap.size).fresh (Nat.le_refl _) hb (by rw[hl];exact ae))
 have bj:=G (λW(hb:By R W)=>show By W0 W from b0.o.trans (hb.mono de));have ch:(t.take z).length=z:=by rw[List.length_take];omega
 have cx:=G ch;clear ae cd X dd db al b2 b0 ch c1;go_wp2;go_loopw [13,14,15,16] (λu v y q wr=>∃(l r d:Li)(hi:Int)(i:Nat)(A2:Nat->Oa)(C2:Nat->Nat),u=H (A2 0) l.length (C2 0)/\v=H (A2 1) r.length (C2 1)/\y=I J hi/\q=I J i/\R4 wr R.heap.size A2 C2 (R2 l r)/\Mtc.MG cl ent t z d l r i hi/\R.heap.size<=wr.heap.size/\By R wr) (λ_ _ _ q _=>t.length-(intOf q).toNat)
 case atStart=>exact⟨t.take z,[],t,0,z,_,_,by rw[cx.o];rfl,rfl,rfl,rfl,HF.o.1,b4.o,HF.o.2.1,HF.o.2.2⟩
 obtain⟨l,r,d,hi,i,A2,C2,rfl,rfl,rfl,rfl,hR,a7,ci,M⟩:=hrel;have HR:=G hR;have aj:=G a7;have d4:=a7.at_;have a5:=a7.le;have Y:=bj.o wr M;have P:=ad.o wr Y;have bz:=G M;clear hR a7 M HF b4;by_cases hlt:i<t.length
 ·have d1:decide ((i:Int)<(t.length:Int))=true:=by simpa using hlt
  obtain⟨bb,oo,rfl,ay⟩:=(HA.o wr P).at hlt;have c0:=ay i hlt;have dc:=World.block_lt_of_cell? wr _ c0;have au:=G (λh=>aj.o.stop hlt h);have K:=G (λ(hi':Int) h0 h1 hh=>aj.o.leave (hi':=hi') hlt h0 h1 hh);have ag:=G (λh0 h1 h2=>aj.o.take hlt h0 h1 h2);clear ay;generalize t[i]=x at *;have SX:=G (SC.o x wr P);go_wp2_with fail;refine SX.o.mono ?_
  rintro e W2 ⟨rfl,a4⟩;have bl:=G (HR.o.below a4);have af:=G (bz.o.trans (a4.mono ci));have bg:=af.o.size;have cc:=bj.o W2 af.o;have be:=ad.o W2 cc;have c2:=(a4.cell (p:=⟨bb,oo+i,N⟩) dc).trans c0;clear c0 SX a4;by_cases hk0:cl x=0
  ·have qk:(cl x==0)=true:=by simpa using hk0
   have ap:=G (au.o hk0);rw[qk];clear K ag au hk0 qk c2 aj;have HM:=U (mt=(l,r++t.drop i,true)) (by rw[M1.o z rfl a8,ap.o]);have cf:=λ(W:Wv)=>oG (Z ⟨bb,oo,N⟩) t.length a i a5 W
   have bk:=U (aA W2 (cD (Z ⟨bb,oo,N⟩) a i) (t.drop i)) (by have h:=(HA.o W2 be).sub (a:=a) (lo:=i) (hi:=t.length) a5 (Nat.le_refl _) hna;simpa using h);obtain rfl:=HM.o;clear HM M1 ap ak CC SC SH;generalize cD (Z ⟨bb,oo,N⟩) a i=DP2 at *;have ar:=U (W2.ownsRow R.heap.size 3 1 (H (A2 1) r.length (C2 1)) r.length (r.map (Value.int .i64))) (bl.o.own 1 O);have cg:r.length<=t.length:=O;go_wp2_with(at_builtin;refine a_ _ _ 33 3 (I J 0) 1 8 rfl rfl underlying33 cU rfl V V rfl ar.o rfl bk.o L (cJ _) O bg ?_;intro B9 k9 w9 s aw F aa T);have D:=G (bl.o.put (j:=1) O (zs:=r++t.drop i) (by rw[List.length_append,List.map_append,List.length_drop];exact s) (by rw[<-bH (A2 1) r.length (C2 1)];exact aa) T);rw[qU]at D;have bi:=G (HQ.o.trans ((af.o.trans F).mono HQ.o.size));clear s aw F aa T;go_wp2_with fail;go_ret3;exact⟨A2 0,C2 0,B9,k9,by simp only[List.length_append,List.length_drop];rfl,by have h:=D.o.own 0 O;rw[eK O,eK O]at h;exact Sl.of_own h,by have h:=D.o.own 1 O;rw[eJ,eJ]at h;exact Sl.of_own h,by have h:=D.o.len (k:=0) O;rw[eK O]at h;exact h,by have h:=D.o.len (k:=1) O;rw[eJ]at h;exact h,λq hq=>.inr (by have h:=(D.o.lt (k:=1) O (by rw[eJ];exact hq)).1;have:=HQ.o.size;omega),bi.o⟩
  have qk:(cl x==0)=false:=by simpa using hk0
  rw[qk];have CX:=G (CC.o x W2 be);generalize hcx:cl x=k at *;have dw:=G hcx;clear hcx qk au;go_wp2_with fail;refine CX.o.mono ?_
  rintro e W3 ⟨rfl,X⟩;have b3:=G (bl.o.below X);have am:=G (af.o.trans (X.mono bg));have cj:=am.o.size;have bd:=bj.o W3 am.o;have cb:bb<W3.heap.size:=by have:=X.size;have:=World.block_lt_of_cell? W2 _ c2;simp at this;omega
  have c3:=(X.cell (p:=⟨bb,oo+i,N⟩) (World.block_lt_of_cell? W2 _ c2)).trans c2;clear c2 CX X
  have a2:=G (λW'(hb':By W3 W')=>show W'.cell? ⟨w.heap.size,0,N⟩=Z (H C n a')/\W'.cell? ⟨w.heap.size,1,N⟩=Z (H B m b)/\W'.cell? ⟨w.heap.size,2,N⟩=Z (I J c.base)/\W'.cell? ⟨w.heap.size,3,N⟩=Z (I J c.second)/\W'.cell? ⟨w.heap.size,4,N⟩=Z (I J c.third)/\W'.cell? ⟨bb,oo+i,N⟩=Z (I J x)/\By W3 W' from by
   have h:=SH.o W' (tb bd hb')
   exact⟨h.1,h.2.1,h.2.2.1,h.2.2.2.1,h.2.2.2.2.1,(hb'.cell (p:=⟨bb,oo+i,N⟩) cb).trans c3,hb'⟩)
  have JC:=G (λW(hb':By W3 W)=>WA (A2 0) l.length (C2 0) l x W (Sl.of_own ((b3.o.below hb').own 0 O)) rfl O);have JB:=G (λW(hb':By W3 W)=>(JC.o W hb').mono (R':=λe W'=>∃v,e=.returned v/\(W'.cell? ⟨w.heap.size,0,N⟩=Z (H C n a')/\W'.cell? ⟨w.heap.size,1,N⟩=Z (H B m b)/\W'.cell? ⟨w.heap.size,2,N⟩=Z (I J c.base)/\W'.cell? ⟨w.heap.size,3,N⟩=Z (I J c.second)/\W'.cell? ⟨w.heap.size,4,N⟩=Z (I J c.third)/\W'.cell? ⟨bb,oo+i,N⟩=Z (I J x)/\By W3 W')/\(∃E d,v=H E (l++[x]).length d/\aA W' E (l++[x]))) (λe W'⟨E,d,he,g1,g2⟩=>⟨_,he,a2.o W' (tb hb' g2),E,d,rfl,Sl.of_own g1⟩));have FB:=G (λ(E:Oa) d W (hb':By W3 W) (hE:aA W E (l++[x]))=>(ak.o E (l++[x]).length d (l++[x]) W (ad.o W (tb bd hb')) hE rfl oU_).mono (R':=λe W'=>∃v,e=.returned v/\(W'.cell? ⟨w.heap.size,0,N⟩=Z (H C n a')/\W'.cell? ⟨w.heap.size,1,N⟩=Z (H B m b)/\W'.cell? ⟨w.heap.size,2,N⟩=Z (I J c.base)/\W'.cell? ⟨w.heap.size,3,N⟩=Z (I J c.second)/\W'.cell? ⟨w.heap.size,4,N⟩=Z (I J c.third)/\W'.cell? ⟨bb,oo+i,N⟩=Z (I J x)/\By W3 W')/\(∃E d,v=.tuple #[H E ((ent (l++[x])).getD []).length d,.bool (ent (l++[x])).isSome])) (λe W'⟨E,d,he,g1,g2⟩=>⟨_,he,a2.o W' (tb hb' g2),E,d,rfl⟩));go_wp2_with fail;refine wp_region_held_drew (S:=λW'=>W'.cell? ⟨w.heap.size,0,N⟩=Z (H C n a')/\W'.cell? ⟨w.heap.size,1,N⟩=Z (H B m b)/\W'.cell? ⟨w.heap.size,2,N⟩=Z (I J c.base)/\W'.cell? ⟨w.heap.size,3,N⟩=Z (I J c.second)/\W'.cell? ⟨w.heap.size,4,N⟩=Z (I J c.third)/\W'.cell? ⟨bb,oo+i,N⟩=Z (I J x)/\By W3 W') oK_ (a2.o _ ((Below.refl _ _).drew)) (λf=>?_);refine tK 0 68 ?_;refine tK 1 69 ?_;refine tK 2 70 ?_;refine tK 3 71 ?_;refine tK 4 72 ?_;refine tK 5 73 ?_;refine qE 6 74 (JB.o _ f.2.2.2.2.2.2) ?_;clear f;rintro _ W7 f ⟨E7,d7,rfl,b9⟩;refine qE 7 75 (FB.o E7 d7 _ f.2.2.2.2.2.2 b9) ?_;clear f;rintro _ W8 f ⟨E8,d8,rfl⟩;refine tK 8 67 ?_;refine tK 9 76 ?_;refine tK 10 77 ?_;refine tK 11 18 ?_;refine tK 12 19 ?_;refine wpAnyH_done oK_ ?_ _;have bn:=f.2.2.2.2.2.2;have bm:=G (b3.o.below bn);have an:=G (am.o.trans (bn.mono cj));have az:=an.o.size;have c8:=f.2.2.2.2.2.1;have c6:=G (JC.o W8 bn);clear f a2 JB FB JC b9 c3;have a9:=G (λ(o:Obj)=>show By W8 (W8.alloc o)from ba _ _);generalize ((ent (l++[x])).getD []).length=el at *;have br:∃bs,(ent (l++[x])).isSome=bs:=⟨_,rfl⟩;obtain⟨bs,bo⟩:=br;have b1:=G bo;rw[bo];clear bo;by_cases htk:bs=true/\hi<k
  ·obtain⟨rfl,bf⟩:=htk
   have c4:=G (ag.o hk0 b1.o bf);have q2:decide (hi<k)=true:=by simpa using bf
   clear ag K;go_wp2_with fail;refine c6.o.mono ?_
   rintro e W9 ⟨E9,d9,rfl,s,F⟩;have D:=G (bm.o.fresh (j:=0) az F s);rw[GP]at D;have Q:=G (an.o.trans (F.mono az));clear s F;go_wp2;go_roundw
   case rel=>exact⟨l++[x],r,_,hi,i+1,_,_,by rw[eJ,eJ,List.length_append];rfl,by rw[eK O,eK O],rfl,oN_,D.o,c4.o,Q.o.size,Q.o⟩
   exact oI_
  obtain⟨mx,bp⟩:∃mx:Int,mx=max hi k:=⟨_,rfl⟩
  have cw:=G (K.o mx hk0 (by
   cases bs with
   |false=>exact .inl (by rw[b1.o];simp)
   | true=>exact .inr (Int.not_lt.1 (λg=>htk ⟨rfl,g⟩))) bp)
  have dq:=λ(W:Wv) (ts:Array TypeId) (ty:TypeId)=>show(Builtin.max_ ts ty #[I J hi,I J k]).run prog W=.ok (I J mx) W from by
   rw[run_max_int2];congr 2;rw[bp];split<;>omega
  have hq:∃bq,decide (hi<k)=bq:=⟨_,rfl⟩;obtain⟨bq,M⟩:=hq;have ax:(bs&&bq)=false:=by
   cases bs with
   |false=>rfl
   |true=>
    cases bq with
    |false=>rfl
    |true=>exact absurd ⟨rfl,of_decide_eq_true M⟩ htk
  have ce:bs=false\/(bs=true/\bq=false):=by
   cases bs with
   |false=>exact .inl rfl
   |true=>exact .inr ⟨rfl,by simpa using ax⟩
  clear ag K bp htk ax;have ar:=U (W8.ownsRow R.heap.size 3 1 (H (A2 1) r.length (C2 1)) r.length (r.map (Value.int .i64))) (bm.o.own 1 O);have cg:r.length<=t.length:=O;rcases ce with rfl|⟨rfl,rfl⟩
  all_goals
   go_wp2_with(at_builtin;refine a_ _ _ 33 3 (I J 0) 1 8 rfl rfl underlying33 cU rfl V V rfl (ar.o.alloc _) rfl (fI W8 [x] _ rfl) L (cJ _) O oU_ ?_;intro B9 k9 w9 s aw F aa T);have D:=G ((bm.o.below (a9.o _)).put (j:=1) O (zs:=r++[x]) (by rw[List.length_append,List.map_append];exact s) (by rw[<-bH (A2 1) r.length (C2 1)];exact aa) T);rw[qU]at D;have Q:=G (an.o.trans (((a9.o _).mono az).trans F));clear s aw F aa T;go_wp2;go_roundw
   case rel=>exact⟨l,r++[x],d,mx,i+1,_,_,by rw[eK O,eK O],by rw[eJ,eJ,List.length_append];rfl,rfl,oN_,D.o,cw.o,Q.o.size,Q.o⟩
   exact oI_
 have d1:decide ((i:Int)<(t.length:Int))=false:=by simpa using hlt
 have ap:=G (aj.o.fin (.inl O));clear aj;have HM:=U (mt=(l,r++t.drop i,true)) (by rw[M1.o z rfl a8,ap.o]);have cf:=λ(W:Wv)=>oG A t.length a i a5 W
 have bk:=U (aA wr (cD A a i) (t.drop i)) (by have h:=(HA.o wr P).sub (a:=a) (lo:=i) (hi:=t.length) a5 (Nat.le_refl _) hna;simpa using h);obtain rfl:=HM.o;clear HM M1 ap ak CC SC SH;generalize cD A a i=DP2 at *;have ar:=U (wr.ownsRow R.heap.size 3 1 (H (A2 1) r.length (C2 1)) r.length (r.map (Value.int .i64))) (HR.o.own 1 O);have cg:r.length<=t.length:=O;go_wp2_with(at_builtin;refine a_ _ _ 33 3 (I J 0) 1 8 rfl rfl underlying33 cU rfl V V rfl ar.o rfl bk.o L (cJ _) O ci ?_;intro B9 k9 w9 s aw F aa T);have D:=G (HR.o.put (j:=1) O (zs:=r++t.drop i) (by rw[List.length_append,List.map_append,List.length_drop];exact s) (by rw[<-bH (A2 1) r.length (C2 1)];exact aa) T);rw[qU]at D;have bi:=G (HQ.o.trans ((bz.o.trans F).mono HQ.o.size));clear s aw F aa T;go_wp2_with fail;go_ret3;exact⟨A2 0,C2 0,B9,k9,by simp only[List.length_append,List.length_drop];rfl,by have h:=D.o.own 0 O;rw[eK O,eK O]at h;exact Sl.of_own h,by have h:=D.o.own 1 O;rw[eJ,eJ]at h;exact Sl.of_own h,by have h:=D.o.len (k:=0) O;rw[eK O]at h;exact h,by have h:=D.o.len (k:=1) O;rw[eJ]at h;exact h,λq hq=>.inr (by have h:=(D.o.lt (k:=1) O (by rw[eJ];exact hq)).1;have:=HQ.o.size;omega),bi.o⟩
end
end Go.Proofs.YtkhmjidaeliccaaGreatDoor
