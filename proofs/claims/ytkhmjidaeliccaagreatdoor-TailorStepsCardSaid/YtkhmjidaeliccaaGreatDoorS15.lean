import Derived.Test.YtkhmjidaeliccaaGreatDoorS14
set_option maxRecDepth 100000
set_option maxHeartbeats 51200000
namespace Go.Proofs.YtkhmjidaeliccaaGreatDoor
open Option renaming none->N,some->Z
open Value renaming int->I,slice->H
open IntKind renaming i64->J
open Go.Proofs.Tryz
section
open Go.RowKit Go.Shelf
attribute [local go_sem] Oper.semAt_some
theorem Sl.not_box{W:Wv}{A:Oa}{cs:Lv}{B:Nat}{t:TypeId}{v:Value}(h:Sl W A cs)(hb:Boxed W B t v)(hv:∀k i,v≠.int k i){x:Value}{r:Lv}(hcs:cs=x::r){k:IntKind}{i:Int}(hx:x=.int k i):∀b o,A=Z ⟨b,o,N⟩->b≠B:=by
 rintro b o rfl rfl;subst hcs;subst hx;obtain⟨c,d,a,hc⟩:=h L;injection a with a;injection a with h1 h2;subst h1;subst h2;have:=hc 0 _ rfl;rw[cell_of_row W b _ _ _ (0,0) hb]at this;simp at this;cases o with
 |zero=>simp at this;exact hv _ _ this
 |succ o=>simp at this
theorem bG.not_box{W:Wv}{A:Oa}{ts:List Spn}{B:Nat}{t:TypeId}{v:Value}(h:bG W A ts)(hb:Boxed W B t v)(hv:∀k i,v≠.int k i)(hne:ts≠[]):∀b o,A=Z ⟨b,o,N⟩->b≠B:=by
 cases ts with
 |nil=>exact absurd rfl hne
 |cons s r=>exact Sl.not_box (cs:=gQ (s::r)) h hb hv rfl rfl
theorem Sl.set_box{W:Wv}{A:Oa}{cs:Lv}{B:Nat}(h:Sl W A cs)(hne:cs≠[]->∀b o,A=Z ⟨b,o,N⟩->b≠B)(v:Value):Sl (W.setCell ⟨B,0,N⟩ v) A cs:=by
 intro hc;obtain⟨b,o,rfl,a⟩:=h hc;refine⟨b,o,rfl,λj u hu=>?_⟩;have:b≠B:=hne hc b o rfl;rw[<-a j u hu];exact World.cell?_of_block (w:=W) (Below.heap_setCell _ _ _ b (by rintro rfl;exact this rfl))
theorem JJ{n:Nat}{w W:Wv}(h:Below n w W){B:Nat}(hB:n<=B)(v:Value):Below n w (W.setCell ⟨B,0,N⟩ v):=
 ⟨h.os,h.tape,h.output,by have:=h.size;simpa[World.setCell]using this,λk hk=>(Below.heap_setCell _ _ _ k (λe=>by have:k=B:=(by first|exact e|exact e.symm);omega)).trans (h.block k hk)⟩
theorem jA.mono{n n' bo:Nat}{A:Oa}(h:jA n bo A)(hn:n<=n'):jA n' bo A:=λb o e=>⟨Nat.lt_of_lt_of_le (h b o e).1 hn,(h b o e).2⟩
theorem UM{w:Wv}{base top:Nat}{e:TypeId}{A:Oa}{n c:Nat}{xs:Lv}(h:w.ownsRow base e 1 (H A n c) n xs)(hb:base<=top):∃bo,base<=bo/\(bo<w.heap.size\/bo=top)/\∀g o,A=Z ⟨g,o,N⟩->g=bo:=by
 rcases h.2 with⟨hv,_⟩|⟨g,b,d,hv,hg,a,_⟩
 ·injection hv with hA
  exact⟨top,hb,.inr rfl,λg o e=>by rw[hA]at e;cases e⟩
 injection hv with hA;exact⟨g,hg,.inl (Array.getElem?_eq_some_iff.1 a).1,λg' o e=>by rw[hA]at e;injection e with e;injection e with e;exact e.symm⟩
theorem QB{W W':Wv}{b:Nat}{c:Array Value}{t:TypeId}{f:Nat×Nat}(hg:W.grownBy W' (Z b))(hb:W.heap[b]?=Z (.cells c t f)):KeepsOthers W W':=
 ⟨hg.size,λk o hk ho=>(hg.block k (Array.getElem?_eq_some_iff.1 hk).1 (λe=>by injection e with e;subst e;rw[hb]at hk;cases hk;cases ho)).trans hk⟩
theorem eR{w:Wv}{base b:Nat}{e:TypeId}{size n:Nat}{v:Value}{xs:Lv}(h:w.ownsRow base e size v n xs)(hb:b<=base):w.ownsRow b e size v n xs:=by
 refine⟨h.1,?_⟩;rcases h.2 with f|⟨g,a,c,hv,d,rest⟩
 ·exact .inl f
 exact .inr ⟨g,a,c,hv,Nat.le_trans hb d,rest⟩
theorem IL(A':Oa)(ns ks:Nat)(ss ts:List Spn)(A:Oa)(nt kt:Nat)(text:Li)(w:Wv)(hS:bG w A' ss)(hT:aA w A text)
  (hnt:text.length=nt) (hns:ss.length=ns) (hb1:nt<=1048576) (hb2:ns<=1099511627776) (hL:dX w) (hts:us ss=ts) :
  Calls prog 64 #[H A' ns ks,H A nt kt] w (λe w'=>∃A1 c d,e=.returned (H A1 nt c)/\nt<=c/\w'.ownsRow w.heap.size 3 1 (H A1 nt c) nt (d.map (Value.int .i64))/\Srt.Stp (cls ts) text (rns (cls ts) text 0 N) d/\By w w'):=by
 have bc:=FU ss;have U:=G (λW hb(hL:dX W)=>FV A' ns ks ss W (bG.below (w:=w) (w':=W) hS hb) hns hb2 hL);have V:=G (FR ss);rw[hts]at bc V U;have HT:=G hT;have HL:=G hL;clear hT hS hL hts;rw[hns]at bc;refine(callsIn_wide (n:=6)).1 ?_;refine callsIn_of_wp_marks func64 rfl trivial ?_ rfl;simp only[ntmps64,List.size_toArray,List.length_cons,List.length_nil,Nat.reduceAdd,Nat.reduceSub,Array.replicate_succ,Array.replicate_zero,List.push_toArray,List.append_toArray,List.nil_append,List.cons_append];gi_wp2_with fail;refine⟨trivial,(callsIn_wide.2 (U.o _ ((Below.refl _ w).alloc (Nat.le_refl _) _) (HL.o.below ((Below.refl _ w).alloc (Nat.le_refl _) _)))).mono ?_⟩;rintro e w1 ⟨A1,C,rfl,a5,ab⟩;have bL:Boxed w1 w.heap.size 22 (H A' ns ks):=(ab.block w.heap.size L).trans (Boxed.new w 22 (H A' ns ks));have a7:By w w1:=((Below.refl _ w).alloc (Nat.le_refl _) _).trans (ab.mono L);have cL:=bL.cell;have fL:=bL.frozen;have av:=G a5;clear ab a5;gi_wp2_with fail;have S:=bL.set (H A1 ts.length C);have ak:=JJ a7 (Nat.le_refl _) (H A1 ts.length C);have az:ts≠[]->∀b o,A1=Z ⟨b,o,N⟩->b≠w.heap.size:=λa=>bG.not_box av.o bL (by rintro k i h;cases h) a
 have aj:bG (w1.setCell ⟨w.heap.size,0,N⟩ (H A1 ts.length C)) A1 ts:=Sl.set_box av.o (λh=>az (by rintro rfl;exact h rfl)) _;have cc:=G az;clear av az bL cL fL a7;obtain⟨w2,bd⟩:=exQ (w1.setCell ⟨w.heap.size,0,N⟩ (H A1 ts.length C));rw[bd]at S ak aj|-;clear bd;refine⟨trivial,(callsIn_wide.2 (rX A nt kt text w2 (HT.o.below ak) hnt hb1)).mono ?_⟩;rintro e t ⟨A3,c3,rfl,B,v⟩;have a3:Boxed t w.heap.size 22 (H A1 ts.length C):=(v.block _ S.lt).trans S;have a6:=aj.below v;have M:=tb ak v;have ck:=v.size;have b6:=S.lt;rw[hnt]at B|-;have Q:=G B;have aw:=G a6;have ax:=G (λa bo hbo=>Sl.lt aj (cs:=gQ ts) a bo hbo);clear v aj S ak B a6;have cL:=(a3.alloc (.cells #[H A3 nt c3] 33)).cell;gi_wp2_with fail;refine⟨trivial,(callsIn_wide.2 (DI A nt kt A1 ts.length C _)).mono ?_⟩;rintro e W0 ⟨rfl,T⟩;simp only[World.size_alloc]at T|-;have cl:W0.heap.size=t.heap.size+3:=by rw[<-T];simp
 have hM:Mem (t.heap.size+1+1) (t.heap.size+1) A nt kt text A1 ts.length C ts W0:=by
  rw[<-T];refine⟨?_,?_,Sl.alloc (Sl.alloc (Sl.alloc (HT.o.below M) _) _) _,Sl.alloc (Sl.alloc (Sl.alloc aw.o _) _) _⟩
  ·have h:=(Boxed.new ((t.alloc (.cells #[H A3 nt c3] 33)).alloc (.cells #[H A1 ts.length C] 22)) 33 (H A nt kt)).cell
   rw[World.size_alloc,World.size_alloc]at h;exact h
  have h:=((Boxed.new (t.alloc (.cells #[H A3 nt c3] 33)) 22 (H A1 ts.length C)).alloc (.cells #[H A nt kt] 33)).cell;rw[World.size_alloc]at h;exact h
 have br:iM (cls ts) text w2.heap.size t.heap.size w.heap.size A3 nt c3 A1 ts.length C ts w [] W0:=by
  rw[<-T];refine iM.alloc (iM.alloc ?_ _) _;exact⟨Boxed.new _ _ _,⟨text,Q.o.alloc _,rfl⟩,cL,Sl.alloc aw.o _,M.alloc M.size _⟩
 obtain⟨bo,aa,b5,aq⟩:=UM Q.o (top:=t.heap.size+3) O;obtain⟨bn,ap⟩:=XL (n:=nt) (rns (cls ts) text 0 N) (λr hr=>by have:=XU (cls ts) text 0 N (λ_ h=>by cases h) r hr;omega);have al:=G ap;clear ap;have HM:=G hM;clear hM;have HB:=G aq;clear aq;clear T cL a3 aw Q;gi_wp2_with fail
 refine wpIn_rangeFunc_ownH rfl O (gf:=166) (lb:=#[.pointer (Z ⟨t.heap.size+1+1,0,N⟩),.pointer (Z ⟨t.heap.size+1,0,N⟩)]) rfl trivial (enters_of func166 oK_ rfl)
  (DJ (α:=RgN nt) (λx=>x.1) 5 O W0.heap.size bo (t.heap.size+1+1) (t.heap.size+1) A nt kt text A1 ts.length C ts bn W0 al.o hnt rfl O O V.o ⟨O,O⟩ ⟨O,O⟩
   (λa=>(Sl.lt HT.o (by simpa using a) _ O).mono (by have:=M.size;omega)) (λa=>(ax.o (by cases ts with|nil=>exact absurd rfl a|cons s r=>simp[gQ]) _ aa).mono O) HM.o)
  (λh k=>h.trans k) (λW l o o' hl h hc hw=>nZ (belowK_b (w:=W0) O W l o o' hl h hc hw)) (Below.refl _ _) (λ_=>rfl)
  (λaf W=>iM (cls ts) text w2.heap.size t.heap.size w.heap.size A3 nt c3 A1 ts.length C ts w (af.map λx=>x.1) W/\W0.heap.size<=W.heap.size)
  (λ_ _ _=>False)
  (OwnFrom.and (iM.own _ (by have:=M.size;omega)) (λ_ _ _ _ h hg _=>Nat.le_trans h hg.size))
  (λ_ _ _ _ _ hs _ _=>hs)
  ⟨br,Nat.le_refl _⟩
  (λx a' W=>∃P,t.heap.size<P/\W.heap[P]?=Z (.cells #[I J (x.1.1:Int),I J (x.1.2:Int)] 179 (0,0))/\a'={ tmps:=#[H A' ns ks,H A nt kt,.pointer (Z ⟨w.heap.size,0,N⟩),undef,H N 0 0,.pointer (Z ⟨t.heap.size,0,N⟩),.pointer (Z ⟨P,0,N⟩),H A' ns ks,H A1 ts.length C,H A nt kt,H A3 nt c3,H A1 ts.length C,H A nt kt,.func (.func 166) #[] #[.pointer (Z ⟨t.heap.size+1+1,0,N⟩),.pointer (Z ⟨t.heap.size+1,0,N⟩)],.agg #[I J (x.1.1:Int),I J (x.1.2:Int)],undef,undef,undef,undef,undef,undef,undef,undef,undef],defers:=[] })
  (λx a' _ X Y row hs hg hr=>by
   obtain⟨P,h1,h2,h3⟩:=hs
   refine⟨P,h1,(hg.block P (Array.getElem?_eq_some_iff.1 h2).1 (λe=>?_)).trans h2,h3⟩
   obtain⟨_,o,ho,hc⟩:=hr P e.symm
   rw[h2]at ho;cases ho;cases hc)
  ?assign ?body ?done ?stop
 case assign=>
  rintro l af x W K ⟨f,ay⟩ hK;unfold mS at *;gi_wp2;exact hK _ _ ((KeepsOthers.alloc _ _).from _) (nZ ((Below.refl _ W).alloc ay _)) ⟨f.alloc _,by rw[World.size_alloc];omega⟩ ⟨W.heap.size,f.box.lt,heap_alloc_new W _,rfl⟩
 case body=>
  rintro l af ⟨⟨lo,hi⟩,be,bf⟩ a' W hl ⟨r,hr⟩ ⟨f,ay⟩ ⟨P,ch,bX,rfl⟩ cj;dsimp only at be bf bX|-;obtain⟨d,m,z⟩:=f.row;obtain⟨g,b8,rfl,bx,ao,ci,bt,bu⟩:=AR m O;obtain rfl:=HB.o g 0 rfl;have cS:=f.box.cell;have x0:W.cell? ⟨P,0,N⟩=Z (I J (lo:Int)):=by rw[cell_of_row W P 0 _ _ (0,0) bX];rfl
  have x1:W.cell? ⟨P,1,N⟩=Z (I J (hi:Int)):=by rw[cell_of_row W P 1 _ _ (0,0) bX];rfl
  have E:=G z;have R:=G ao;have HI:=G f;clear z ao m f;gi_wp2_with fail;have F:((d.drop lo).take (hi-lo)).length=hi-lo:=oU_;have am:=G (R.o.cut (lo:=lo) (hi:=hi) O O);have HC:=G (LY (b:=g) HI.o.l HI.o.sp rfl O V.o O (λa o e=>(ax.o (by cases ts with|nil=>exact absurd rfl a|cons s r=>simp[gQ]) g aa g o e).2 rfl));refine⟨trivial,(CallsIn.inRound l (callsIn_wide.2 (IJ g w.heap.size lo (hi-lo) (c3-lo) 3 (cls ts) _ _ _ W am.o F O HC.o))).mono ?_⟩;rintro e W5 ⟨rfl,d5,hD,a9,y⟩;have bz:KeepsOthers W W5:=QB y R.o.2;have b0:gI W0.heap.size g W W5:=⟨y.size,λk hk a=>y.block k O (by intro e;injection e with e;exact a e)⟩;have ba:=a9.uncut;have bw:d5.length=hi-lo:=hD.1.1.trans F;have ar:d.take lo++(d.drop lo).take (hi-lo)++d.drop hi=d:=by
   have:=Srt.parts d lo lo hi (Nat.le_refl _) O;simp only[Nat.sub_self,List.take_zero,List.nil_append]at this;exact this.symm
  have ae:Srt.Done (cls ts) d (d.take lo++d5++d.drop hi) lo hi:=by
   have h1:=Srt.Done.lift (p:=d.take lo) (q:=d.drop hi) (show Srt.Done (cls ts) ((d.drop lo).take (hi-lo)) d5 0 _ by rw[F];exact hD);rw[ar,F,show(d.take lo).length=lo by simp;omega,show lo+(hi-lo)=hi by omega]at h1;exact h1
  have bs:iM (cls ts) text w2.heap.size t.heap.size w.heap.size (Z ⟨g,0,N⟩) nt c3 A1 ts.length C ts w ((af++[(⟨(lo,hi),be,bf⟩:RgN nt)]).map λx=>x.1) W5:=by
   have ad:∀p:Addr,p.block<W.heap.size->p.block≠g->W5.cell? p=W.cell? p:=λp h1 h2=>World.cell?_of_block (w:=W) (y.block p.block h1 (λe=>h2 (by injection e)))
   refine⟨HI.o.box.kept y (λe=>?_),⟨_,YD ba bx (by simp[bw];omega) bt bu,?_⟩,?_,?_,?_⟩
   ·injection e with e;omega
   ·rw[List.map_append]
    exact Srt.Stp.snoc (r:=(lo,hi)) E.o ae
   ·exact(ad _ (World.block_lt_of_cell? W _ HI.o.l) oU_).trans HI.o.l
   ·intro a
    obtain⟨b',o',hA,bv⟩:=HI.o.sp a;refine⟨b',o',hA,λj u hu=>?_⟩;have h1:=bv j u hu;exact(ad _ (World.block_lt_of_cell? W _ h1) (by rintro rfl;exact(ax.o a _ aa _ _ hA).2 rfl)).trans h1
   exact HI.o.bel.grown y HI.o.bel.size (λk e=>by injection e with e;omega)
  have b7:=y.size;clear hD a9 ba y am HC R HI E ae ar;gi_wp2_with fail;exact⟨bz.from _,b0,bs,O⟩
 case done=>
  rintro D ys W hD rfl ⟨f,ay⟩ hK;obtain⟨d,m,z⟩:=f.row;have cS:=f.box.cell;have a1:=G (ownsRow_putObj m (.deferred N) hK rfl);have a0:=G (f.bel.trans (belowK_b (w:=w) (Nat.le_refl _) W D _ (.deferred N) (by have:=M.size;omega) hK rfl rfl));have E:=G z;have bb:nt<=c3:=by obtain⟨Av,cv,hv,bb⟩:=iC m;injection hv with _ _ h;omega
  clear m z;gi_wp2_with fail;refine⟨L,.inl ⟨_,_,rfl,run_takeDeferred hK,?_⟩⟩;refine⟨_,results_tmp rfl _ _ _,A3,c3,d,rfl,?_,eR a1.o O,?_,a0.o⟩
  ·exact bb
  have:=E.o;rw[al.o]at this;exact this
 rintro D c af W _ _ h _;exact h.elim
theorem IK(A':Oa)(ns ks:Nat)(ss:List Spn)(A:Oa)(nt kt:Nat)(text:Li)(w:Wv)(hS:bG w A' ss)(hT:aA w A text)
  (hnt:text.length=nt) (hns:ss.length=ns) (hb1:nt<=1048576) (hb2:ns<=1099511627776) (hL:dX w) :
  Calls prog 64 #[H A' ns ks,H A nt kt] w (fR (Can.srt (clz ss) text) w):=by
 refine(IL A' ns ks ss _ A nt kt text w hS hT hnt hns hb1 hb2 hL rfl).mono ?_;rintro e f ⟨a,c,d,rfl,hc,b,hs,hb⟩;obtain rfl:=Can.stp_srt (λx=>(wV ss x).1) hs;have hl:(Can.srt (clz ss) text).length=nt:=by rw[Can.srt_len,hnt]
 exact⟨a,c,by rw[hl],by rw[hl];exact b,hb⟩
end
section
open Go.RowKit Go.Maps Go.WideMaps
theorem MV(A0:Oa)(n0 k0:Nat)(A1:Oa)(n1 k1:Nat)(A2:Oa)(n2 k2:Nat)(x:Nrm)(w:Wv)(hN:cB w A0 n0 A1 n1 A2 n2 x)(hz:cZ x)(hL:dX w):
  Calls prog 62 #[.agg #[H A0 n0 k0,H A1 n1 k1,H A2 n2 k2]] w (λe w'=>e=.returned (usV x A0 k0 A1 k1 A2 k2)/\By w w'):=by
 obtain⟨s,q,r,rfl,rfl,rfl⟩:=hN;have g:By w ((w.alloc (.cells #[H A0 x.cls.length k0,H A1 x.dec.length k1,H A2 x.exc.length k2] 28)).alloc (.cells #[H N 0 0,H N 0 0,H N 0 0] 28)):=(ba _ _).alloc L _
 have d:Box ((w.alloc (.cells #[H A0 x.cls.length k0,H A1 x.dec.length k1,H A2 x.exc.length k2] 28)).alloc (.cells #[H N 0 0,H N 0 0,H N 0 0] 28)) w.heap.size 28 [H A0 x.cls.length k0,H A1 x.dec.length k1,H A2 x.exc.length k2]:=
  (Box.new w _ [H A0 x.cls.length k0,H A1 x.dec.length k1,H A2 x.exc.length k2] rfl).below (B:=w.heap.size+1) ((Below.refl _ _).alloc L _) O
 have h:Box ((w.alloc (.cells #[H A0 x.cls.length k0,H A1 x.dec.length k1,H A2 x.exc.length k2] 28)).alloc (.cells #[H N 0 0,H N 0 0,H N 0 0] 28)) (w.heap.size+1) 28 [H N 0 0,H N 0 0,H N 0 0]:=Box.new _ _ _ L;have j:∃l,((w.alloc (.cells #[H A0 x.cls.length k0,H A1 x.dec.length k1,H A2 x.exc.length k2] 28)).alloc (.cells #[H N 0 0,H N 0 0,H N 0 0] 28))=l:=⟨_,rfl⟩;have hN:∀W,By w W->cB W A0 x.cls.length A1 x.dec.length A2 x.exc.length x:=λW hb=>⟨s.below hb,q.below hb,r.below hb,rfl,rfl,rfl⟩
 have v:=G (λW(hb:By w W)=>sH A0 x.cls.length k0 A1 x.dec.length k1 A2 x.exc.length k2 x W (hN W hb) hz (hL.below hb));have z:=G (uX (x:=x) A0 k0 A1 k1 A2 k2);have A:=G (uY (x:=x) A0 k0 A1 k1 A2 k2);clear hN s q r hz;generalize hu:usV x A0 k0 A1 k1 A2 k2=y at *;generalize hc:bW x=c at *;clear hu hc;go_enter func62,ntmps62;go_wp2_with fail;obtain⟨l,f⟩:=j;rw[f]at g d h|-;clear f;have E:=d.lt;have F:=h.lt;obtain⟨n,o,p⟩:=d.k3;go_wp2_with fail;refine(v.o _ g).mono ?_
 rintro e C ⟨rfl,a⟩;have D:=d.below a E;have m:=h.below a F;have t:=tb g a;clear n o p d h g a;obtain⟨n,o,p⟩:=D.k3;obtain⟨K,M,P⟩:=m.k3;obtain⟨Q,R,S⟩:=m.f3;have k:=G (λ(u0 u1 u2:Value)=>show By w (((C.setCell ⟨w.heap.size+1,0,N⟩ u0).setCell ⟨w.heap.size+1,1,N⟩ u1).setCell ⟨w.heap.size+1,2,N⟩ u2)from((t.setCell L _).setCell L _).setCell L _);by_cases h0:c=0
 ·have i:=G (A.o h0)
  subst h0;go_wp2_with fail;(try simp only[Exit.inBlock,Exit.then]);refine bodyPost_ret (qA rfl _ _ (b:=w.heap.size+1) (v0:=H A0 x.cls.length k0) (v1:=H A1 x.dec.length k1) (v2:=H A2 x.exc.length k2) rfl oS_ oS_ oS_) rfl ?_;exact⟨by rw[i.o],k.o _ _ _⟩
 have i:=G (z.o h0);have T:(c !=0)=true:=by simpa using h0
 go_wp2_with fail;(try simp only[Exit.inBlock,Exit.then]);refine bodyPost_ret (qA rfl _ _ (b:=w.heap.size+1) (v0:=H N 0 0) (v1:=H N 0 0) (v2:=H N 0 0) rfl oS_ oS_ oS_) rfl ?_;exact⟨by rw[i.o],k.o _ _ _⟩
theorem IQ(A0:Oa)(n0 k0:Nat)(A1:Oa)(n1 k1:Nat)(A2:Oa)(n2 k2:Nat)(ms:List Mp)(compat:Bool)(w w5:Wv)
  (h:(((((w.alloc (.cells #[H A0 n0 k0,H A1 n1 k1,H A2 n2 k2] 28)).alloc (.cells #[.bool compat] 4)).alloc (.map #[] 0)).alloc (.cells #[.map (Z (w.heap.size+1+1))] 171)).alloc (.cells #[.func (.func 118) #[] #[.pointer (Z ⟨w.heap.size+1+1+1,0,N⟩),.pointer (Z ⟨w.heap.size,0,N⟩),.pointer (Z ⟨w.heap.size+1,0,N⟩),.pointer (Z ⟨w.heap.size+1+1+1+1,0,N⟩)]] 108))=w5) :
  XM A0 n0 k0 A1 n1 k1 A2 n2 k2 ms compat w.heap.size w5 0 (λ_=>N)/\By w w5:=by
 subst h;have al:∀(W:Wv)(o:Obj),By W (W.alloc o):=λW o=>ba _ _
 obtain⟨f,k⟩:=exQ (w.alloc (.cells #[H A0 n0 k0,H A1 n1 k1,H A2 n2 k2] 28));have D:Box f w.heap.size 28 [H A0 n0 k0,H A1 n1 k1,H A2 n2 k2]:=by rw[<-k];exact Box.new _ _ _ rfl
 have y:By w f:=by rw[<-k];exact al _ _
 have s:f.heap.size=w.heap.size+1:=by rw[<-k];simp
 rw[k];obtain⟨g,l⟩:=exQ (f.alloc (.cells #[.bool compat] 4));have E:Box g (w.heap.size+1) 4 [.bool compat]:=by rw[<-l];exact Box.new _ _ _ s.symm
 have z:By f g:=by rw[<-l];exact al _ _
 have t:g.heap.size=w.heap.size+2:=by rw[<-l];simp[s]
 rw[l];obtain⟨i,m⟩:=exQ (g.alloc (.map #[] 0));have F:lV i (w.heap.size+2) 0 (λ_=>N):=by rw[<-m,<-t];exact aV.made _ _ _ _ _
 have A:By g i:=by rw[<-m];exact al _ _
 have x:i.heap.size=w.heap.size+3:=by rw[<-m];simp[t]
 rw[m];obtain⟨j,n⟩:=exQ (i.alloc (.cells #[.map (Z (w.heap.size+1+1))] 171));have K:Box j (w.heap.size+3) 171 [.map (Z (w.heap.size+2))]:=by rw[<-n];exact Box.new _ _ _ x.symm
 have B:By i j:=by rw[<-n];exact al _ _
 have C:j.heap.size=w.heap.size+4:=by rw[<-n];simp[x]
 rw[n];obtain⟨w5,q⟩:=exQ (j.alloc (.cells #[.func (.func 118) #[] #[.pointer (Z ⟨w.heap.size+1+1+1,0,N⟩),.pointer (Z ⟨w.heap.size,0,N⟩),.pointer (Z ⟨w.heap.size+1,0,N⟩),.pointer (Z ⟨w.heap.size+1+1+1+1,0,N⟩)]] 108));have L:Box w5 (w.heap.size+4) 108 [.func (.func 118) #[] #[.pointer (Z ⟨w.heap.size+3,0,N⟩),.pointer (Z ⟨w.heap.size,0,N⟩),.pointer (Z ⟨w.heap.size+1,0,N⟩),.pointer (Z ⟨w.heap.size+4,0,N⟩)]]:=by rw[<-q];exact Box.new _ _ _ C.symm
 have r:By j w5:=by rw[<-q];exact al _ _
 rw[q];have p:=r;have d:=tb B r;have b:=tb A d;have a:=tb z b;exact⟨⟨bb D a,bb E b,F.below d,bb K p,L,λc v e=>(by cases e)⟩,tb y a⟩
def GS(A0:Oa)(n0 k0:Nat)(A1:Oa)(n1 k1:Nat)(A2:Oa)(n2 k2:Nat)(ms:List Mp)(compat:Bool)(w:Wv)(e:Ending)(w':Wv):Prop:=
 e=.returned (.func (.func 118) #[] #[.pointer (Z ⟨w.heap.size+3,0,N⟩),.pointer (Z ⟨w.heap.size,0,N⟩),.pointer (Z ⟨w.heap.size+1,0,N⟩),.pointer (Z ⟨w.heap.size+4,0,N⟩)])/\XM A0 n0 k0 A1 n1 k1 A2 n2 k2 ms compat w.heap.size w' 0 (λ_=>N)/\By w w'
theorem NU(A0:Oa)(n0 k0:Nat)(A1:Oa)(n1 k1:Nat)(A2:Oa)(n2 k2:Nat)(ms:List Mp)(compat:Bool)(w:Wv):
  Calls prog 63 #[.agg #[H A0 n0 k0,H A1 n1 k1,H A2 n2 k2],.bool compat] w (GS A0 n0 k0 A1 n1 k1 A2 n2 k2 ms compat w):=by
 have f:=@run_makeMap prog;have g:=λ(W:Wv) (a:Addr) (m:Mode) (fn:Fn) (x y:Array Value)=>run_store prog W a (.func fn x y) m rfl
 go_enter func63,ntmps63;go_wp2_with fail;obtain⟨e,b⟩:=exQ ((((((w.alloc (.cells #[H A0 n0 k0,H A1 n1 k1,H A2 n2 k2] 28)).alloc (.cells #[.bool compat] 4)).alloc (.map #[] 0)).alloc (.cells #[.map (Z (w.heap.size+1+1))] 171)).alloc (.cells #[.func (.func 118) #[] #[.pointer (Z ⟨w.heap.size+1+1+1,0,N⟩),.pointer (Z ⟨w.heap.size,0,N⟩),.pointer (Z ⟨w.heap.size+1,0,N⟩),.pointer (Z ⟨w.heap.size+1+1+1+1,0,N⟩)]] 108)));obtain⟨d,c⟩:=IQ A0 n0 k0 A1 n1 k1 A2 n2 k2 ms compat w e b;go_ret;exact⟨rfl,by rw[b];exact d,by rw[b];exact c⟩
def dtx(x:Nrm)(compat:Bool)(t:Li):Li:=Can.srt (clz (usN x).cls) (flM (usN x) compat t)
theorem OD(x:Nrm)(compat:Bool){t:Li}{i:Nat}(hi:i<t.length):flM x compat (t.take (i+1))=flM x compat (t.take i)++dcM x.dec compat t[i]:=by
 unfold flM;rw[List.take_succ_eq_append_getElem hi,List.flatMap_append,List.flatMap_singleton]
theorem OC{x:Nrm}(h:NOk x)(compat:Bool)(t:Li)(i:Nat):(flM x compat (t.take i)).length<=64*t.length:=by
 have:=sN h compat (t.take i);rw[List.length_take]at this;omega
theorem sI(A0:Oa)(n0 k0:Nat)(A1:Oa)(n1 k1:Nat)(A2:Oa)(n2 k2:Nat)(x:Nrm)(A:Oa)(n k:Nat)(t:Li)(compat:Bool)(w:Wv)(hN:cB w A0 n0 A1 n1 A2 n2 x)(hz:cZ x)(hL:dX w)(hA:aA w A t)(hn:t.length=n)(hbig:n<=16384)(hio:∀c∈t,iok c):
  Calls prog 21 #[.agg #[H A0 n0 k0,H A1 n1 k1,H A2 n2 k2],H A n k,.bool compat] w (fR (dtx x compat t) w):=by
 subst hn;obtain⟨j,r,K,P,M,Q,hv,ah⟩:=uW hN k0 k1 k2;have US:=G (λW(hb:By w W)=>MV A0 n0 k0 A1 n1 k1 A2 n2 k2 x W (hN.below hb) hz (hL.below hb));rw[hv]at US;have ad:=G ah;have a:=oK x;have F:=hz.us;have DF:=G (nS a.st a.hg a.en compat);have DL:=G (xF a.st a.hg a.en a.lo compat);have EX:=G (λ(W:Wv) (hb:By w W)=>λc l=>NT j (usN x).cls.length r K P M (usN x).exc.length Q W.heap.size (usN x).dec compat W rfl (ad.o W hb).s1 a.st a.co (by have:=F.z1.1;omega) (c:=c) (l:=l));have SO:=G (λ(D:Oa) (m d:Nat) (l:Li) (W:Wv) (hb:By w W) (hD:aA W D l) (hm:l.length=m) (hm2:m<=1048576)=>IK j (usN x).cls.length r (usN x).cls D m d l W (ad.o W hb).s0 hD hm rfl hm2 (by have:=F.z0;omega) (hL.below hb));have FT:=G (λi(hi:i<t.length)=>OD (usN x) compat hi);have FL:=G (λi=>OC a compat t i);have HA:=G hA;have az:=G hio;have b8:unmarked (uM (usN x).dec) (mkF (λ_=>N))<=2000000:=by
  have h1:=FJ (uM (usN x).dec) (mkF (λ_=>N));rw[zAt]at h1;have:=F.z1.1;omega
 unfold dtx;clear hN hz hL hA hv ah a F hio;generalize usN x=y at *;have X0:Box (w.alloc (.cells #[H A0 n0 k0,H A1 n1 k1,H A2 n2 k2] 28)) w.heap.size 28 [H A0 n0 k0,H A1 n1 k1,H A2 n2 k2]:=Box.new w _ [H A0 n0 k0,H A1 n1 k1,H A2 n2 k2] rfl;have H0:By w (w.alloc (.cells #[H A0 n0 k0,H A1 n1 k1,H A2 n2 k2] 28)):=ba _ _;have a3:∃W0,(w.alloc (.cells #[H A0 n0 k0,H A1 n1 k1,H A2 n2 k2] 28))=W0:=⟨_,rfl⟩;go_enter func21,ntmps21;go_wp2_with fail;obtain⟨W0,ai⟩:=a3;try rw[ai]at X0 H0|-
 clear ai;have s0:=X0.lt;obtain⟨g0,g1,g2⟩:=X0.k3;go_wp2_with fail;refine(US.o _ H0).mono ?_
 rintro e W1 ⟨rfl,Y⟩;have X1:=X0.below Y s0;have H1:=tb H0 Y;obtain⟨f0,f1,f2⟩:=X1.f3;obtain⟨e0,e1,e2⟩:=X1.k3;have X2:Box (((W1.setCell ⟨w.heap.size,0,N⟩ (H j y.cls.length r)).setCell ⟨w.heap.size,1,N⟩ (H K y.dec.length P)).setCell ⟨w.heap.size,2,N⟩ (H M y.exc.length Q)) w.heap.size 28 [H j y.cls.length r,H K y.dec.length P,H M y.exc.length Q]:=((X1.set 0 _).set 1 _).set 2 _;have H2:By w (((W1.setCell ⟨w.heap.size,0,N⟩ (H j y.cls.length r)).setCell ⟨w.heap.size,1,N⟩ (H K y.dec.length P)).setCell ⟨w.heap.size,2,N⟩ (H M y.exc.length Q)):=((H1.setCell L _).setCell L _).setCell L _;have a5:∃z,(((W1.setCell ⟨w.heap.size,0,N⟩ (H j y.cls.length r)).setCell ⟨w.heap.size,1,N⟩ (H K y.dec.length P)).setCell ⟨w.heap.size,2,N⟩ (H M y.exc.length Q))=z:=⟨_,rfl⟩;clear US X0 H0 g0 g1 g2 s0 Y;go_wp2_with fail;obtain⟨z,aj⟩:=a5;try rw[aj]at X2 H2|-
 clear aj X1 H1 f0 f1 f2 e0 e1 e2;have s2:=X2.lt;obtain⟨g0,g1,g2⟩:=X2.k3;have EC:=G (NU j y.cls.length r K y.dec.length P M y.exc.length Q y.dec compat z);go_wp2_with fail;refine EC.o.mono ?_
 rintro e W5 ⟨rfl,X,C⟩;have H5:=tb H2 C;have X5:=X2.below C s2;have EO:=G (EX.o z H2);have a1:=G X;have am:z.heap.size+4<W5.heap.size:=X.bX.lt;have ay:=G (show Below z.heap.size z W5 from C);clear EC EX X C X2 g0 g1 g2;generalize z.heap.size=s at *;go_wp2
 go_loopw [8,18] (λu q wr=>∃(i n':Nat)(f':Int->Option Value)(B:Oa)(k:Nat),i<=t.length/\u=H B ((flM y compat (t.take i))).length k/\q=I J i/\jQ j y.cls.length r K y.dec.length P M y.exc.length Q y.dec compat s (λ_=>True) (flM y compat (t.take i)) W5 W5 0 (λ_=>N) B k wr n' f')
  (λ_ q _=>t.length-(intOf q).toNat)
 case atStart=>
  exact⟨0,0,_,N,0,Nat.zero_le _,rfl,rfl,⟨World.ownsRow_nil _ _ _ _,a1.o,aP _ _,Nat.le_refl _,λx E' m d e=>.inl e,λx e=>.inl e,lS.nil _⟩⟩
 obtain⟨i,n',f',B,k',bl,rfl,rfl,T⟩:=hrel;have S:=G T;have aa:Below s z wr:=ay.o.trans (lB T.gr O O);have h:=H2.trans (aa.mono (by omega:w.heap.size<=s));clear T;have a9:=FL.o i;by_cases hi:i<t.length
 ·obtain⟨b,o,rfl,f⟩:=(HA.o.below h).at hi
  have b4:=f i hi;clear f;have R:t[i]∈t:=List.getElem_mem hi;have CL:=G (EO.o t[i] _ (DF.o t[i]) (az.o _ R) (by have:=DL.o t[i];omega) wr n' f' S.o.st aa (by have:=S.o.pot;omega));have NX:=G (λ(E2:Oa) W n9 f9 (p:oU j y.cls.length r K y.dec.length P M y.exc.length Q y.dec compat s t[i] (dcM y.dec compat t[i]) wr n' f' E2 W n9 f9)=>S.o.call (Nat.le_refl _) am (λ_ _=>trivial) p);have FSq:=G (FT.o i hi);have b7:=DL.o t[i];clear R;generalize dcM y.dec compat t[i]=ve at *;generalize t[i]=te at *;generalize flM y compat (t.take i)=fl at *;go_wp2_with fail;refine CL.o.mono ?_
  rintro e W ⟨E2,d2,n9,f9,rfl,b6,hp⟩;have v:=G (NX.o E2 W n9 f9 hp);have ab:=G hp.ints;clear hp CL NX S h aa;go_wp2_with(at_builtin;refine a_ _ _ 33 3 (I J 0) 1 8 rfl rfl underlying33 cU rfl V V rfl v.o.own rfl ab.o L (cJ _) O v.o.lt ?_;intro B3 k3 w3 g b5 ak al ag);have a0:=G (v.o.app am g ak al ag);clear g ak al ag v ab;go_wp2;go_roundw
  case rel=>exact⟨i+1,n9,f9,B3,k3,O,by rw[FSq.o,List.length_append],oN_,by rw[FSq.o];exact a0.o⟩
  exact oI_
 have bb:i=t.length:=O;subst bb;rw[List.take_length]at S a9|-;have q0:wr.cell? ⟨w.heap.size,0,N⟩=Z (H j y.cls.length r):=(S.o.gr.cell (X5.c 0 rfl) oU_);have CS:=G (SO.o B _ k' _ wr h (Sl.of_own S.o.own) rfl O);generalize Can.srt (clz y.cls) (flM y compat t)=sr at *;go_wp2_with fail;refine CS.o.mono ?_
 rintro e W ⟨E,d,rfl,ho,hb⟩;have HO:=G ho;clear CS ho;go_wp2;go_ret;exact⟨E,d,rfl,eR HO.o h.size,tb h hb⟩
def gP:Col:=⟨[],[],64448,32,2⟩
theorem MI:aK gP=0:=by
 decide
theorem o_{c:Col}(h:aK c=0):aW c=c:=if_pos h
theorem oZ{c:Col}(h:¬aK c=0):aW c=gP:=if_neg h
theorem nR(c:Col):aK (aW c)=0:=by
 by_cases h:aK c=0
 ·rw[o_ h];exact h
 rw[oZ h];exact MI
theorem RS(A:Oa)(n a:Nat)(B:Oa)(m b:Nat)(c:Col)(w:Wv)(h:aO w A n B m c)(hz:aQ c)(he:¬aK c=0):
  Calls prog 60 #[aJ A n a B m b c] w (rH gP w):=by
 have o:By w (w.alloc (.cells #[H A n a,H B m b,I J c.base,I J c.second,I J c.third] 32)):=ba _ _;have k:Box (w.alloc (.cells #[H A n a,H B m b,I J c.base,I J c.second,I J c.third] 32)) w.heap.size 32 [H A n a,H B m b,I J c.base,I J c.second,I J c.third]:=Box.new w 32 [H A n a,H B m b,I J c.base,I J c.second,I J c.third] rfl;have x:∃v,w.alloc (.cells #[H A n a,H B m b,I J c.base,I J c.second,I J c.third] 32)=v:=⟨_,rfl⟩;have CK:=G (λW(hb:By w W)=>rV A n a B m b c W (h.below hb) hz);have M:=@run_makeMap prog;clear h hz;generalize aK c=er at *;have q:(er !=0)=true:=by simpa using he
 clear he;unfold aJ at *;generalize c.base=u2 at *;generalize c.second=u3 at *;generalize c.third=u4 at *;clear c;go_enter func60,ntmps60;go_wp2_with fail;obtain⟨v,f⟩:=x;rw[f]at o k|-;clear f;obtain⟨R,S,T,V,X⟩:=k.k5;have Q:=k.lt;go_wp2_with fail;refine(CK.o v o).mono ?_
 rintro e y ⟨rfl,j⟩;clear CK R S T V X;have K:=tb o j;have l:=k.below j Q;obtain⟨f0,f1,f2,f3,f4⟩:=l.f5;obtain⟨e0,e1,e2,e3,e4⟩:=l.k5;have F:Box (((((y.setCell ⟨w.heap.size,0,N⟩ (H N 0 0)).setCell ⟨w.heap.size,1,N⟩ (H N 0 0)).setCell ⟨w.heap.size,2,N⟩ (I J 64448)).setCell ⟨w.heap.size,3,N⟩ (I J 32)).setCell ⟨w.heap.size,4,N⟩ (I J 2)) w.heap.size 32 [H N 0 0,H N 0 0,I J 64448,I J 32,I J 2]:=((((l.set 0 _).set 1 _).set 2 _).set 3 _).set 4 _;have p:By w (((((y.setCell ⟨w.heap.size,0,N⟩ (H N 0 0)).setCell ⟨w.heap.size,1,N⟩ (H N 0 0)).setCell ⟨w.heap.size,2,N⟩ (I J 64448)).setCell ⟨w.heap.size,3,N⟩ (I J 32)).setCell ⟨w.heap.size,4,N⟩ (I J 2)):=((((K.setCell L _).setCell L _).setCell L _).setCell L _).setCell L _;have D:∃d,(((((y.setCell ⟨w.heap.size,0,N⟩ (H N 0 0)).setCell ⟨w.heap.size,1,N⟩ (H N 0 0)).setCell ⟨w.heap.size,2,N⟩ (I J 64448)).setCell ⟨w.heap.size,3,N⟩ (I J 32)).setCell ⟨w.heap.size,4,N⟩ (I J 2))=d:=⟨_,rfl⟩;go_upto_region 3 with(fail)
 obtain⟨d,i⟩:=D;rw[i]at p F|-;clear i f0 f1 f2 f3 f4 e0 e1 e2 e3 e4 l;obtain⟨R,S,T,V,X⟩:=F.k5;have am:=F.lt;have an:¬w.heap.size=d.heap.size:=O;have ao:¬w.heap.size=d.heap.size+1:=O;have Y:By d ((d.alloc (.map #[] 0)).alloc (.cells #[H N 0 0,H N 0 0,I J 64448,I J 32,I J 2,.map (Z d.heap.size),I J 0,H N 0 0,I J 0] 167)):=(ba _ _).alloc L _;have E:Box ((d.alloc (.map #[] 0)).alloc (.cells #[H N 0 0,H N 0 0,I J 64448,I J 32,I J 2,.map (Z d.heap.size),I J 0,H N 0 0,I J 0] 167)) (d.heap.size+1) 167 (lR N 0 0 N 0 0 gP d.heap.size (dE gP.ents) (H N 0 0) 0):=Box.new _ _ _ L;have t:aV prog 169 jU kok ((d.alloc (.map #[] 0)).alloc (.cells #[H N 0 0,H N 0 0,I J 64448,I J 32,I J 2,.map (Z d.heap.size),I J 0,H N 0 0,I J 0] 167)) d.heap.size 0 (λ_=>N):=(aV.made prog _ jU kok d).alloc _;have C:∃z,((d.alloc (.map #[] 0)).alloc (.cells #[H N 0 0,H N 0 0,I J 64448,I J 32,I J 2,.map (Z d.heap.size),I J 0,H N 0 0,I J 0] 167))=z:=⟨_,rfl⟩;have P:=p.size;go_wp2_with fail;obtain⟨z,g⟩:=C;rw[g]at Y E t|-;clear g R S T V X M;have s:=G E;have r:=G t;clear E t;go_loopw [17] (λu wr=>u=I J 0/\wr=z) (λu _=>0-(intOf u).toNat)
 case atStart=>exact⟨rfl,rfl⟩
 obtain⟨rfl,rfl⟩:=hrel;go_wp2;go_ret;exact⟨_,rfl,O,⟨_,_,_,_,_,_,_,_,_,s.o,r.o,gK.nil _⟩,p.trans (Y.mono P)⟩
theorem zK(A:Oa)(n a:Nat)(B:Oa)(m b:Nat)(c:Col)(w:Wv)(h:aO w A n B m c)(hz:aQ c):
  Calls prog 60 #[aJ A n a B m b c] w (rH (aW c) w):=by
 by_cases he:aK c=0
 ·rw[o_ he];exact RT A n a B m b c w h hz he
 rw[oZ he];exact RS A n a B m b c w h hz he
end
section
open Go.RowKit
theorem xK{x:Nrm}(compat:Bool){t:Li}(h:∀z∈t,iok z):∀z∈dtx x compat t,iok z:=λz hz=>((OE (oK x) compat h).1 z hz).1
theorem pE(x:Nrm)(compat:Bool)(t:Li):(dtx x compat t).length<=64*t.length:=by
 unfold dtx;rw[Can.srt_len];exact sN (oK x) compat t
theorem FO(x:Nrm):Asc (usN x).cls:=by
 unfold usN;split
 ·next h=>exact v_ (tT h).1.c
 exact λi j _ hj=>by simp at hj
end
section
open Go.RowKit Go.Maps Go.WideMaps
theorem CQ(tmps:Array Value)(w:Wv){b:Nat}{v0 v1:Value}{z0 z1 z2:Int}(ha:tmps.getD 2 undef=.pointer (Z ⟨b,0,N⟩))
  (c0:w.cell? ⟨b,0,N⟩=Z v0) (c1:w.cell? ⟨b,1,N⟩=Z v1) (c2:w.cell? ⟨b,2,N⟩=Z (I J z0)) (c3:w.cell? ⟨b,3,N⟩=Z (I J z1)) (c4:w.cell? ⟨b,4,N⟩=Z (I J z2)) :
  (results f157 tmps).run prog w=.ok (.agg #[v0,v1,I J z0,I J z1,I J z2]) w:=by
 have hr:f157.results=#[.cell 2 32]:=rfl;unfold results;rw[hr];simp only[ha,List.mapM_toArray,List.mapM_cons,List.mapM_nil,asAddr];go_simp
theorem M_(A:Oa)(n a:Nat)(B:Oa)(m b:Nat)(c:Col)(w:Wv)(h:aO w A n B m c)(hz:aQ c)(he:aK c=0):
  Calls prog 157 #[aJ A n a B m b c] w (λe w'=>e=.returned (aJ A n a B m b c)/\By w w'):=by
 have o:By w ((w.alloc (.cells #[H A n a,H B m b,I J c.base,I J c.second,I J c.third] 32)).alloc (.cells #[H N 0 0,H N 0 0,I J 0,I J 0,I J 0] 32)):=(ba _ _).alloc L _;have S:((w.alloc (.cells #[H A n a,H B m b,I J c.base,I J c.second,I J c.third] 32)).alloc (.cells #[H N 0 0,H N 0 0,I J 0,I J 0,I J 0] 32)).heap.size=w.heap.size+2:=L;have t:((w.alloc (.cells #[H A n a,H B m b,I J c.base,I J c.second,I J c.third] 32)).alloc (.cells #[H N 0 0,H N 0 0,I J 0,I J 0,I J 0] 32)).cell? ⟨w.heap.size,0,N⟩=Z (H A n a):=L;have v:((w.alloc (.cells #[H A n a,H B m b,I J c.base,I J c.second,I J c.third] 32)).alloc (.cells #[H N 0 0,H N 0 0,I J 0,I J 0,I J 0] 32)).cell? ⟨w.heap.size,1,N⟩=Z (H B m b):=L;have x:((w.alloc (.cells #[H A n a,H B m b,I J c.base,I J c.second,I J c.third] 32)).alloc (.cells #[H N 0 0,H N 0 0,I J 0,I J 0,I J 0] 32)).cell? ⟨w.heap.size,2,N⟩=Z (I J c.base):=L;have y:((w.alloc (.cells #[H A n a,H B m b,I J c.base,I J c.second,I J c.third] 32)).alloc (.cells #[H N 0 0,H N 0 0,I J 0,I J 0,I J 0] 32)).cell? ⟨w.heap.size,3,N⟩=Z (I J c.second):=L;have z:((w.alloc (.cells #[H A n a,H B m b,I J c.base,I J c.second,I J c.third] 32)).alloc (.cells #[H N 0 0,H N 0 0,I J 0,I J 0,I J 0] 32)).cell? ⟨w.heap.size,4,N⟩=Z (I J c.third):=L;have C:((w.alloc (.cells #[H A n a,H B m b,I J c.base,I J c.second,I J c.third] 32)).alloc (.cells #[H N 0 0,H N 0 0,I J 0,I J 0,I J 0] 32)).cell? ⟨w.heap.size+1,0,N⟩=Z (H N 0 0):=L;have D:((w.alloc (.cells #[H A n a,H B m b,I J c.base,I J c.second,I J c.third] 32)).alloc (.cells #[H N 0 0,H N 0 0,I J 0,I J 0,I J 0] 32)).cell? ⟨w.heap.size+1,1,N⟩=Z (H N 0 0):=L;have E:((w.alloc (.cells #[H A n a,H B m b,I J c.base,I J c.second,I J c.third] 32)).alloc (.cells #[H N 0 0,H N 0 0,I J 0,I J 0,I J 0] 32)).cell? ⟨w.heap.size+1,2,N⟩=Z (I J 0):=L;have F:((w.alloc (.cells #[H A n a,H B m b,I J c.base,I J c.second,I J c.third] 32)).alloc (.cells #[H N 0 0,H N 0 0,I J 0,I J 0,I J 0] 32)).cell? ⟨w.heap.size+1,3,N⟩=Z (I J 0):=L;have K:((w.alloc (.cells #[H A n a,H B m b,I J c.base,I J c.second,I J c.third] 32)).alloc (.cells #[H N 0 0,H N 0 0,I J 0,I J 0,I J 0] 32)).cell? ⟨w.heap.size+1,4,N⟩=Z (I J 0):=L;have lf:∀j,((w.alloc (.cells #[H A n a,H B m b,I J c.base,I J c.second,I J c.third] 32)).alloc (.cells #[H N 0 0,H N 0 0,I J 0,I J 0,I J 0] 32)).frozen? ⟨w.heap.size+1,j,N⟩=false:=λj=>L
 have r:∃k,((w.alloc (.cells #[H A n a,H B m b,I J c.base,I J c.second,I J c.third] 32)).alloc (.cells #[H N 0 0,H N 0 0,I J 0,I J 0,I J 0] 32))=k:=⟨_,rfl⟩;have M:=G (λW(hb:By w W)=>uG A n a B m b c W (h.below hb) hz);have q:=G he;clear h hz he;unfold aJ at *;go_enter func157,ntmps157;go_wp2_with fail;obtain⟨k,l⟩:=r;rw[l]at o S t v x y z C D E F K lf|-;clear l;have i:w.heap.size<k.heap.size:=O;have f:w.heap.size+1<k.heap.size:=O;refine(M.o k o).mono ?_
 rw[q.o];rintro e P ⟨rfl,d⟩;have s:=tb o d;have Y:=(d.cell (p:=⟨w.heap.size,0,N⟩) i).trans t;have f1:=(d.cell (p:=⟨w.heap.size,1,N⟩) i).trans v;have f2:=(d.cell (p:=⟨w.heap.size,2,N⟩) i).trans x;have f3:=(d.cell (p:=⟨w.heap.size,3,N⟩) i).trans y;have f4:=(d.cell (p:=⟨w.heap.size,4,N⟩) i).trans z;have g0:=(d.cell (p:=⟨w.heap.size+1,0,N⟩) f).trans C;have g1:=(d.cell (p:=⟨w.heap.size+1,1,N⟩) f).trans D;have g2:=(d.cell (p:=⟨w.heap.size+1,2,N⟩) f).trans E;have g3:=(d.cell (p:=⟨w.heap.size+1,3,N⟩) f).trans F;have g4:=(d.cell (p:=⟨w.heap.size+1,4,N⟩) f).trans K;have Q:w.heap.size<P.heap.size:=by have:=d.size;omega
 have R:w.heap.size+1<P.heap.size:=by have:=d.size;omega
 have T:=(d.frozen (p:=⟨w.heap.size+1,0,N⟩) f).trans (lf 0);have V:=(d.frozen (p:=⟨w.heap.size+1,1,N⟩) f).trans (lf 1);have X:=(d.frozen (p:=⟨w.heap.size+1,2,N⟩) f).trans (lf 2);have z3:=(d.frozen (p:=⟨w.heap.size+1,3,N⟩) f).trans (lf 3);have z4:=(d.frozen (p:=⟨w.heap.size+1,4,N⟩) f).trans (lf 4);clear t v x y z C D E F K lf M;go_wp2_with fail;(try simp only[Exit.inBlock,Exit.then]);refine bodyPost_ret (CQ _ _ (b:=w.heap.size+1) (v0:=H A n a) (v1:=H B m b) (z0:=c.base) (z1:=c.second) (z2:=c.third) rfl oS_ oS_ oS_ oS_ oS_) rfl ?_;have g:w.heap.size<=w.heap.size+1:=O;exact⟨rfl,((((s.setCell (p:=⟨w.heap.size+1,0,N⟩) g _).setCell (p:=⟨w.heap.size+1,1,N⟩) g _).setCell (p:=⟨w.heap.size+1,2,N⟩) g _).setCell (p:=⟨w.heap.size+1,3,N⟩) g _).setCell (p:=⟨w.heap.size+1,4,N⟩) g _⟩
def kP(es:List Ent)(zs:Li):Option (List Elt):=(es.find? (λx=>decide (x.codes=zs))).map Ent.elems
theorem NZ{es:List Ent}{zs:Li}{k:Nat}(hk:k<es.length)(h:es[k].codes=zs)(hb:∀t,(ht:t<es.length)->t<k->es[t].codes≠zs):kP es zs=Z es[k].elems:=by
 unfold kP
 rw[List.find?_eq_some_iff_getElem.2 ⟨by simpa using h,k,hk,rfl,λj hj=>by simp[hb j O hj]⟩];rfl
theorem N_{es:List Ent}{zs:Li}(h:∀t,(ht:t<es.length)->es[t].codes≠zs):kP es zs=N:=by
 unfold kP
 rw[List.find?_eq_none.2]
 ·rfl
 intro x hx;obtain⟨t,ht,rfl⟩:=List.getElem_of_mem hx;simp[h t ht]
theorem BU(A:Oa)(n a:Nat)(B:Oa)(m b:Nat)(c:Col)(C:Oa)(kn kc:Nat)(zs:Li)(w:Wv)(h:aO w A n B m c)(hz:aQ c)
  (hC:aA w C zs) (hkn:zs.length=kn) (hk2:kn<=1048576) :
  Calls prog 160 #[aJ A n a B m b c,H C kn kc] w (qX (kP c.ents zs) w):=by
 have R:By w (w.alloc (.cells #[H A n a,H B m b,I J c.base,I J c.second,I J c.third] 32)):=ba _ _;have M:(w.alloc (.cells #[H A n a,H B m b,I J c.base,I J c.second,I J c.third] 32)).cell? ⟨w.heap.size,0,N⟩=Z (H A n a):=L;have s0:(w.alloc (.cells #[H A n a,H B m b,I J c.base,I J c.second,I J c.third] 32)).heap.size=w.heap.size+1:=L;have X:∃y,(w.alloc (.cells #[H A n a,H B m b,I J c.base,I J c.second,I J c.third] 32))=y:=⟨_,rfl⟩;have HE:=G h.ents;have HC:=G hC;have hn:=h.hn;have au:=hz.n;have HZ:=G hz.e;have F1:=G (λk hk hh hb=>NZ (es:=c.ents) (zs:=zs) (k:=k) hk hh hb);have F0:=G (N_ (es:=c.ents) (zs:=zs));clear h hz hC;unfold aJ at *;generalize kP c.ents zs=r at *
 generalize c.ents=es at *;subst hn;subst hkn;go_enter func160,ntmps160;go_wp2_with fail;obtain⟨y,F⟩:=X;rw[F]at R s0 M|-;clear F;have q:w.heap.size<y.heap.size:=O;go_loopw [6] (λu wr=>∃i:Nat,i<=es.length/\u=I J i/\(∀t,(ht:t<es.length)->t<i->es[t].codes≠zs)/\By y wr) (λu _=>es.length-(intOf u).toNat)
 case atStart=>exact⟨0,Nat.zero_le _,rfl,λt _ h=>O,Below.refl _ _⟩
 obtain⟨i,hi,rfl,K,j⟩:=hrel;have l:=G K;clear K;have f0:=(j.cell (p:=⟨w.heap.size,0,N⟩) q).trans M;have av:w.heap.size<wr.heap.size:=by have:=j.size;omega
 have o:=tb R j;by_cases hlt:i<es.length
 ·obtain⟨b1,o1,rfl,aa,g⟩:=(HE.o.below o).at hlt
  obtain⟨D,cc,E,dd,c1,c2,hD,hE⟩:=g i hlt;obtain⟨z1,z2⟩:=HZ.o i hlt;have W:=G hE;have EQ:=G (GK D C _ zs.length cc kc es[i].codes zs wr hD (HC.o.below o) rfl rfl O O);have T:=G (λhh=>F1.o i hlt hh l.o);have S:=G (λhh=>dI (P:=λx=>x.codes≠zs) hlt l.o hh);have ar:(i:Int)<(es.length:Int):=O;clear g hD hE;generalize es[i].codes=cds at *;generalize es[i].elems=els at *;go_wp2_with fail;refine EQ.o.mono ?_
  rintro e Q ⟨rfl,hq⟩;have f:=tb j hq.below;have g0:=(f.cell (p:=⟨w.heap.size,0,N⟩) q).trans M;have g2:=(hq.below.cell (p:=⟨b1,o1+i*2+1,N⟩) aa).trans c2;have aw:w.heap.size<Q.heap.size:=by have:=f.size;omega
  have ax:b1<Q.heap.size:=by have:=hq.below.size;omega
  clear EQ;by_cases hcz:cds=zs
  ·have q1:decide (cds=zs)=true:=by simpa using hcz
   obtain rfl:=T.o hcz;have s:=G (W.o.below hq.below);clear T S F1 F0 hcz;generalize decide (cds=zs)=dz at *;subst q1;have z:By y (Q.alloc (.cells #[] 77)):=f.alloc f.size _;have f9:=(z.cell (p:=⟨w.heap.size,0,N⟩) q).trans M;go_wp2_with(at_builtin;refine a_ _ _ 54 77 (.agg #[I J 0,I J 0,I J 0,.bool false]) 4 32 rfl rfl underlying54 gU rfl V V rfl (jG [] 77 4 0 Q.heap.size rfl rfl (Nat.le_refl _) O) rfl (Sl.alloc s.o _) (fY Elt.cells 4 (λ_=>rfl) els) (gX _) O L ?_;intro A1 c1 w9 d ab Y _ _;simp only[Nat.zero_add,List.nil_append]at d ab;have v:=G d;clear d);go_ret2;refine⟨A1,c1,?_,Sl.of_own v.o,(tb R z).trans (Y.mono O)⟩;simp
  have q1:decide (cds=zs)=false:=by simpa using hcz
  have HN:=G (S.o hcz);clear T S hcz;generalize decide (cds=zs)=dz at *;subst q1;go_wp2;go_roundw
  case rel=>exact⟨i+1,O,oN_,HN.o,f⟩
  exact oI_
 obtain rfl:=F0.o (λt ht=>l.o t ht O);go_wp2_with fail;go_ret2;exact⟨N,0,rfl,Sl.nil _ _,o⟩
end
section
open Go.RowKit
theorem wX:∀xs ys:Li,aE xs ys=-1\/aE xs ys=0\/aE xs ys=1
 | [],[]=>.inr (.inl rfl)
 | [],_::_=>.inl rfl
 |_::_,[]=>.inr (.inr rfl)
 |a::p,b::q=>by
  simp only[aE];split
  ·exact .inl rfl
  split
  ·exact .inr (.inr rfl)
  exact wX p q
theorem mQ:∀{xs ys zs:Li},aE xs ys<0->aE ys zs<0->aE xs zs<0
 | [],[],_,h,_=>by simp[aE]at h
 |_::_,[],_,h,_=>by simp[aE]at h
 |_,_::_,[],_,h=>by simp[aE]at h
 | [],_::_,_::_,_,_=>by simp[aE]
 |a::_,b::_,c::_,h1,h2=>by
  simp only[aE]at *;by_cases e1:a<b
  ·by_cases e2:b<c
   ·rw[if_pos O];omega
   rw[if_neg e2]at h2;by_cases e3:c<b
   ·rw[if_pos e3]at h2;omega
   rw[if_pos O];omega
  rw[if_neg e1]at h1;by_cases e4:b<a
  ·rw[if_pos e4]at h1;omega
  rw[if_neg e4]at h1;by_cases e2:b<c
  ·rw[if_pos O];omega
  rw[if_neg e2]at h2;by_cases e3:c<b
  ·rw[if_pos e3]at h2;omega
  rw[if_neg e3]at h2;rw[if_neg O,if_neg O];exact mQ h1 h2
theorem LU(xs:Li):aE xs xs=0:=(mP xs xs).2 rfl
theorem wW{xs ys:Li}(h:aE xs ys<0):xs≠ys:=λe=>by rw[e,LU]at h;omega
theorem xZ{base:Int}{x:Ent}{r:List Ent}{p:Option Ent}(h:eD base (x::r) p=0):cA base x=0/\(∀y,p=Z y->aE y.codes x.codes<0)/\eD base r (Z x)=0:=by
 unfold eD at h;by_cases h1:cA base x=0
 ·simp only[h1,ne_eq,not_true_eq_false,if_false]at h
  cases p with
  |none=>exact⟨h1,(λy e=>by cases e),h⟩
  |some z=>
   simp only at h;split at h
   ·cases h
   next h2=>exact⟨h1,(λy e=>by injection e with e;subst e;omega),h⟩
 rw[if_pos h1]at h;exact absurd h h1
theorem mC{base:Int}:∀{es:List Ent}{p:Option Ent},eD base es p=0->es.Pairwise (λx y=>aE x.codes y.codes<0)/\∀y,p=Z y->∀x∈es,aE y.codes x.codes<0
 | [],_,_=>⟨List.Pairwise.nil,λ_ _ _ h=>by cases h⟩
 |x::r,p,h=>by
  obtain⟨_,a,c⟩:=xZ h;obtain⟨d,b⟩:=mC c;refine⟨List.pairwise_cons.2 ⟨b x rfl,d⟩,λy hy z hz=>?_⟩;rcases List.mem_cons.1 hz with rfl|hz
  ·exact a y hy
  exact mQ (a y hy) (b x rfl z hz)
theorem pP(x:Ent)(r:List Ent)(zs:Li):aF (x::r) zs=match aF r zs with|some e=>Z e|none=>if x.codes=zs then Z x.elems else N:=by
 have:∀(l:List Ent)(q:Option (List Elt)),l.foldl (λr x=>if x.codes=zs then Z x.elems else r) q=match l.foldl (λr x=>if x.codes=zs then Z x.elems else r) N with|some e=>Z e|none=>q:=by
  intro l;induction l with
  |nil=>intro q;rfl
  |cons y l ih=>
   intro q;simp only[List.foldl_cons];rw[ih,ih (if y.codes=zs then Z y.elems else N)];split
   ·rfl
   split<;>rfl
 unfold aF;rw[List.foldl_cons,this]
theorem zA:∀{es:List Ent},es.Pairwise (λx y=>aE x.codes y.codes<0)->∀zs,aF es zs=kP es zs
 | [],_,_=>rfl
 |x::r,h,zs=>by
  obtain⟨a,b⟩:=List.pairwise_cons.1 h;rw[pP,zA b zs];unfold kP
  by_cases e:x.codes=zs
  ·rw[List.find?_cons_of_pos (by simpa using e)]
   have:r.find? (λx=>decide (x.codes=zs))=N:=by
    rw[List.find?_eq_none];intro y hy;have:=wW (a y hy);rw[e]at this;simpa using λe'=>this e'.symm
   rw[this];simp[e]
  rw[List.find?_cons_of_neg (by simpa using e)];cases r.find? (λx=>decide (x.codes=zs))<;>simp[e]
theorem zC{c:Col}(h:aK c=0)(zs:Li):aF c.ents zs=kP c.ents zs:=zA (mC (fC h)).1 zs
theorem kN{c:Col}(h:aK c=0):cC c.base c.grps=0/\1<=c.base/\c.base<=65502/\(1<=c.second/\c.second<=65535)/\(1<=c.third/\c.third<=65535):=by
 unfold aK at h;split at h
 ·cases h
 next h0=>
 split at h
 ·next h1=>exact absurd h h1
 next h1=>
 have a:inR 1 65535 c.second=true:=by cases hh:inR 1 65535 c.second<;>simp_all
 have b:inR 1 65535 c.third=true:=by cases hh:inR 1 65535 c.third<;>simp_all
 exact⟨by simpa using h1,O,O,iU.1 a,iU.1 b⟩
theorem sZ{base:Int}{gs:List Grp}(h:cC base gs=0):(gs.map Grp.name).Nodup/\(∀g∈gs,cF g.name=true)/\(∀g∈gs,1<=g.lo/\g.lo<=g.hi/\g.hi<base)/\gap gs=false:=by
 unfold cC at h;split at h
 ·cases h
 next h0=>
 split at h
 ·cases h
 next h1=>
 split at h
 ·cases h
 next h2=>
 split at h
 ·cases h
 next h3=>
 refine⟨by simpa using h1,λg hg=>?_,λg hg=>?_,by simpa using h3⟩
 ·simp at h0;exact h0 g hg
 simp at h2;have:=h2 g hg;unfold fA at this;omega
end
namespace Mtc
open Go.RowKit
section
variable {E:Type}{cl:Int->Int}{ent:Li->Option (List E)}{imp:Int->List E}
def partsF(cl:Int->Int)(ent:Li->Option (List E)):Nat->Li->List (Li×Bool)
 |0,_=>[]
 |_+1,[]=>[]
 |f+1,x::t=>((matched cl ent (x::t)).1,(matched cl ent (x::t)).2.2)::partsF cl ent f (matched cl ent (x::t)).2.1
theorem partsF_more:∀(f g:Nat)(t:Li),t.length<=f->t.length<=g->partsF cl ent f t=partsF cl ent g t
 |0,0,t,_,_=>rfl
 |0,g+1,t,h,_=>by
  obtain rfl:t=[]:=List.length_eq_zero_iff.1 O;rfl
 |f+1,0,t,_,h=>by
  obtain rfl:t=[]:=List.length_eq_zero_iff.1 O;rfl
 |f+1,g+1,[],_,_=>rfl
 |f+1,g+1,x::t,h1,h2=>by
  have h:=(matched_len (cl:=cl) (ent:=ent) (t:=x::t) L).1;unfold partsF;rw[partsF_more f g _ O O]
def parts(cl:Int->Int)(ent:Li->Option (List E))(t:Li):List (Li×Bool):=partsF cl ent t.length t
theorem parts_step{t:Li}(h:t≠[]):parts cl ent t=((matched cl ent t).1,(matched cl ent t).2.2)::parts cl ent (matched cl ent t).2.1:=by
 cases t with
 |nil=>exact absurd rfl h
 |cons x t=>
  have hl:=(matched_len (cl:=cl) (ent:=ent) (t:=x::t) L).1;show((matched cl ent (x::t)).1,(matched cl ent (x::t)).2.2)::partsF cl ent t.length (matched cl ent (x::t)).2.1=_
  rw[partsF_more (cl:=cl) (ent:=ent) t.length (matched cl ent (x::t)).2.1.length (matched cl ent (x::t)).2.1 (by simp at hl;omega) (Nat.le_refl _)];rfl
theorem parts_ind{P:Li->Prop}(cl:Int->Int)(ent:Li->Option (List E))(h0:P [])(h1:∀t,t≠[]->P (matched cl ent t).2.1->P t)(t:Li):P t:=by
 have a:∀(n:Nat)(t:Li),t.length<=n->P t:=by
  intro n;induction n with
  |zero=>intro t h;obtain rfl:t=[]:=List.length_eq_zero_iff.1 O;exact h0
  |succ n ih=>
   intro t h;by_cases ht:t=[]
   ·rw[ht];exact h0
   have:=(matched_len (cl:=cl) (ent:=ent) ht).1;exact h1 t ht (ih _ O)
 exact a t.length t (Nat.le_refl _)
theorem elems_parts(t:Li):elems cl ent imp t=(parts cl ent t).flatMap (λp=>ofPart ent imp p.1 p.2):=by
 refine parts_ind cl ent (P:=λt=>elems cl ent imp t=(parts cl ent t).flatMap (λp=>ofPart ent imp p.1 p.2)) rfl (λt ht ih=>?_) t;rw[elems_step ht,parts_step ht,List.flatMap_cons,ih]
def known(cl:Int->Int)(ent:Li->Option (List E))(t:Li):Bool:=(parts cl ent t).all (λp=>p.2)
theorem known_step{t:Li}(h:t≠[]):known cl ent t=((matched cl ent t).2.2&&known cl ent (matched cl ent t).2.1):=by
 unfold known;rw[parts_step h,List.all_cons]
theorem grow_mem:∀(r part left:Li)(hi:Int)(x:Int),x∈(grow cl ent part left hi r).1++(grow cl ent part left hi r).2 ↔ x∈part++left++r
 | [],part,left,hi,x=>by simp[grow]
 |y::r,part,left,hi,x=>by
  unfold grow;split
  ·simp
  split
  ·rw[grow_mem r];simp only[List.mem_append,List.mem_cons,List.not_mem_nil,or_false]
   constructor
   ·rintro(((h|h)|h)|h)<;>simp[h]
   rintro((h|h)|h|h)<;>simp[h]
  rw[grow_mem r];simp only[List.mem_append,List.mem_cons,List.not_mem_nil,or_false];constructor
  ·rintro((h|h|h)|h)<;>simp[h]
  rintro((h|h)|h|h)<;>simp[h]
theorem grow_head:∀(r part left:Li)(hi:Int),part≠[]->(grow cl ent part left hi r).1.head?=part.head?
 | [],part,left,hi,_=>by simp[grow]
 |y::r,part,left,hi,h=>by
  unfold grow;split
  ·rfl
  split
  ·rw[grow_head r _ _ _ L]
   cases part with
   |nil=>exact absurd rfl h
   |cons a p=>rfl
  rw[grow_head r _ _ _ h]
theorem matched_mem{t:Li}(x:Int):x∈(matched cl ent t).1++(matched cl ent t).2.1 ↔ x∈t:=by
 unfold matched;split
 ·rw[List.take_append_drop]
 rw[grow_mem,List.append_nil,List.take_append_drop]
theorem matched_head{t:Li}(h:t≠[]):(matched cl ent t).1.head?=t.head?:=by
 cases t with
 |nil=>exact absurd rfl h
 |cons x t=>
  unfold matched;split
  ·rfl
  next hz=>
  have a:0<sz ent (x::t) (x::t).length:=O;have e:∀n,0<n->((x::t).take n).head?=Z x:=by
   intro n hn;cases n with
   |zero=>omega
   |succ n=>rfl
  dsimp only;rw[grow_head _ _ _ _ (λh=>by have:=e _ a;rw[h]at this;cases this),e _ a];rfl
theorem matched_known{t:Li}(h:(matched cl ent t).2.2=true):(ent (matched cl ent t).1).isSome=true:=by
 unfold matched at h|-;split
 ·next hz=>rw[if_pos hz]at h;cases h
 next hz=>exact grow_ent _ _ _ _ (sz_some O)
theorem matched_unknown{t:Li}(h:(matched cl ent t).2.2=false):(matched cl ent t).1=t.take 1:=by
 unfold matched at h|-;split
 ·rfl
 next hz=>rw[if_neg hz]at h;cases h
theorem parts_mem{t:Li}:∀p∈parts cl ent t,p.1≠[]/\(∀x∈p.1,x∈t)/\(p.2=true->(ent p.1).isSome=true)/\(p.2=false->∃x,p.1=[x]):=by
 refine parts_ind cl ent (P:=λt=>∀p∈parts cl ent t,p.1≠[]/\(∀x∈p.1,x∈t)/\(p.2=true->(ent p.1).isSome=true)/\(p.2=false->∃x,p.1=[x])) (λp hp=>by cases hp) (λt ht ih p hp=>?_) t;rw[parts_step ht]at hp;rcases List.mem_cons.1 hp with rfl|hp
 ·refine⟨λe=>?_,λx hx=>(matched_mem (cl:=cl) (ent:=ent) x).1 (by simp[hx]),matched_known,λh=>?_⟩
  ·have a:=matched_head (cl:=cl) (ent:=ent) ht
   dsimp only at e;rw[e]at a;cases t with
   |nil=>exact ht rfl
   |cons x t=>cases a
  rw[matched_unknown h];cases t with
  |nil=>exact absurd rfl ht
  |cons x t=>exact⟨x,rfl⟩
 obtain⟨a,b,c⟩:=ih p hp;exact⟨a,λx hx=>(matched_mem (cl:=cl) (ent:=ent) x).1 (by simp[b x hx]),c⟩
variable {F:Type}{ent':Li->Option (List F)}
theorem sz_congr{t:Li}(h:∀k,0<k->k<=t.length->(ent (t.take k)).isSome=(ent' (t.take k)).isSome):∀k,k<=t.length->sz ent t k=sz ent' t k
 |0,_=>rfl
 |k+1,hk=>by
  unfold sz;rw[h (k+1) O hk,sz_congr h k O]
theorem grow_congr{x0:Int}(h:∀zs,(ent (x0::zs)).isSome=(ent' (x0::zs)).isSome):∀(r part left:Li)(hi:Int),part.head?=Z x0->grow cl ent part left hi r=grow cl ent' part left hi r
 | [],part,left,hi,_=>by simp[grow]
 |y::r,part,left,hi,hp=>by
  cases part with
  |nil=>cases hp
  |cons a p=>
   injection hp with hp;subst hp;unfold grow;split
   ·rfl
   rw[show(ent (a::p++[y])).isSome=(ent' (a::p++[y])).isSome from h (p++[y])];split
   ·exact grow_congr h r _ _ _ rfl
   exact grow_congr h r _ _ _ rfl
theorem matched_congr{x0:Int}{t:Li}(h:∀zs,(ent (x0::zs)).isSome=(ent' (x0::zs)).isSome):matched cl ent (x0::t)=matched cl ent' (x0::t):=by
 have e:sz ent (x0::t) (x0::t).length=sz ent' (x0::t) (x0::t).length:=sz_congr (λk h0 _=>by
  cases k with
  |zero=>omega
  | succ k=>rw[List.take_succ_cons];exact h _) _ (Nat.le_refl _)
 unfold matched;rw[e];split
 ·rfl
 next hz=>
 have hh:((x0::t).take (sz ent' (x0::t) (x0::t).length)).head?=Z x0:=by
  cases hs:sz ent' (x0::t) (x0::t).length with
  |zero=>exact absurd hs hz
  |succ n=>rfl
 rw[grow_congr h _ _ _ _ hh]
theorem parts_congr{t:Li}(h:∀x∈t,∀zs,(ent (x::zs)).isSome=(ent' (x::zs)).isSome):parts cl ent t=parts cl ent' t:=by
 refine parts_ind cl ent (P:=λt=>(∀x∈t,∀zs,(ent (x::zs)).isSome=(ent' (x::zs)).isSome)->parts cl ent t=parts cl ent' t) (λ_=>rfl) (λt ht ih h=>?_) t h;have e:matched cl ent t=matched cl ent' t:=by
  cases t with
  |nil=>exact absurd rfl ht
  |cons x t=>exact matched_congr (h x L)
 rw[parts_step ht,parts_step ht,ih (λx hx=>h x ((matched_mem (cl:=cl) (ent:=ent) x).1 (by simp[hx]))),e]
end
end Mtc
end Go.Proofs.YtkhmjidaeliccaaGreatDoor
