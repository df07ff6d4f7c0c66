import Derived.Test.YtkhmjidaeliccaaGreatDoorS30
set_option maxRecDepth 100000
set_option maxHeartbeats 51200000
namespace Go.Proofs.YtkhmjidaeliccaaGreatDoor
open Option renaming none->N,some->Z
open Value renaming int->I,slice->H
open IntKind renaming i64->J
open Go.Proofs.Tryz
section
open Go.RowKit Go.Maps Go.WideMaps Tl
section
variable {P:Program}{ops:Array Oper}{Q:Exit->Act->Wv->Prop}{md:Region.Mode}{S:Wv->Prop}
theorem uQ{i:Nat}{oi:Oper}{fuel:Nat}{listed:Array Bool}{a:Act}{w:Wv}(d:Option Tmp)(hd:oi.dst=d)
  (s x:Operand) (t e:TypeId) (z:Value) (size bytes:Nat)
  (ho:oi.op=.call { callee:=.builtin .append,args:=#[s,x],argTypes:=#[t,t] }) (ht:P.underlying t=Z (.slice e))
  (hinfo:(P.info? e).map (λi=>(i.zero,i.size,i.bytes))=Z (Z z,size,bytes)) (hzs:z.cells.size=size) (hsz:0<size) (hby:0<bytes)
  {base:Nat} {A:Oa} {n c:Nat} {xs:Lv} (hs:a.eval s=H A n c) (hown:w.ownsRow base e size (H A n c) n xs)
  {A':Oa} {m c':Nat} {news:Lv} (hx:a.eval x=H A' m c') (hrow:Sl w A' news) (hl:news.length=m*size) (h1:∀u∈news,u.oneCell'=true)
  (hlim:(n+m)*bytes<=140737488355328) (hbase:base<=w.heap.size)
  (h:∀B k w',w'.ownsRow base e size (H B (n+m) k) (n+m) (xs++news)->n+m<=k->Below base w w'->w.grownBy w' (Value.ownBlock (H A n c))->(B=A\/B=Z ⟨w.heap.size,0,N⟩)->
   S w'/\wpAnyH P md ops Q S fuel (listed.setIfInBounds i true) (a.put d (H B (n+m) k)) w'):k_ P md ops Q S fuel listed i oi a w:=by
 subst hd
 intro K p
 obtain⟨B,k,w',b,f,g,j,l,o⟩:=qB (P:=P) t oi.type e z size bytes ht hinfo hzs hsz hby hown (c':=c') hrow hl h1 hlim hbase
 unfold Oper.wp execOp
 simp only[ho,resolve,invoke,builtin,Sem.run_bind,Sem.run_pure,Result.andThen_ok,List.map_toArray,List.map_cons,List.map_nil,hs,hx,b]
 have:=h B k w' f g j l o
 exact p.out _ _ this.1 (λ_=>this.2)
theorem IY{i j k:Nat}{oi oj ok:Oper}{fuel:Nat}{listed:Array Bool}{a:Act}{w:Wv}(hi:ops[i]?=Z oi)(hj:ops[j]?=Z oj)(hk:ops[k]?=Z ok)(hr:Region.ready md ops listed=[i,j,k])
  (hwi:Region.wanted oi (yielded ops a.tmps)=true) (hwj:Region.wanted oj (yielded ops a.tmps)=true) (hwk:Region.wanted ok (yielded ops a.tmps)=true) (Hi:k_ P md ops Q S fuel listed i oi a w) (Hj:k_ P md ops Q S fuel listed j oj a w) (Hk:k_ P md ops Q S fuel listed k ok a w):wpAnyH P md ops Q S (fuel+1) listed a w:=by
 refine wpAnyH_ready hr L (AllReadyH.cons hi (λK hK=>?_) (AllReadyH.cons hj (λK hK=>?_) (AllReadyH.cons hk (λK hK=>?_) AllReadyH.nil)))
 ·rw[if_pos hwi];exact Hi K hK
 ·rw[if_pos hwj];exact Hj K hK
 rw[if_pos hwk];exact Hk K hK
end
theorem SlN.fresh{Z Z':Nat->Prop}{w:Wv}{A:Oa}{cs:Lv}(h:SlN Z w A cs)(hz:∀q,Z' q->Z q\/w.heap.size<=q):SlN Z' w A cs:=⟨h.1,λhne q hq z=>by
 rcases hz q z with e|e
 ·exact h.2 hne q hq e
 ·have:=kW h.1 hne hq;omega⟩
theorem bZ.fresh{Z Z':Nat->Prop}{w:Wv}{v:Value×Value}{x:Ent}(h:bZ Z w v x)(hz:∀q,Z' q->Z q\/w.heap.size<=q):bZ Z' w v x:=by
 obtain⟨A,c,B,d,e,a,b⟩:=h;exact⟨A,c,B,d,e,a.fresh hz,b.fresh hz⟩
structure RmS(w W0:Wv)(c:Col)(L:List Ent)(i:Nat)(S:Oa)(k:Nat)(wr:Wv):Prop where
 ex:∃vs:List (Value×Value),vs.length=i/\wr.ownsRow W0.heap.size 75 2 (H S i k) i (aB bJ vs)/\∀j,(hj:j<L.length)->(hv:j<vs.length)->bZ (λq=>q<W0.heap.size\/blk S=Z q) wr vs[j] L[j]
 box:Box wr (w.heap.size+2) 32 [H S i k,H N 0 0,I J c.base,I J c.second,I J c.third]
 chg:Chg (λq=>q=w.heap.size+2) W0 wr
theorem RmS.push{w W0:Wv}{c:Col}{L:List Ent}{i:Nat}{S:Oa}{k:Nat}{wr V4 V5:Wv}{B5:Oa}{c5:Nat}{v:Value×Value}{x:Ent}{vs:List (Value×Value)}
  (hbox:Box wr (w.heap.size+2) 32 [H S i k,H N 0 0,I J c.base,I J c.second,I J c.third]) (hchg:Chg (λq=>q=w.heap.size+2) W0 wr) (hw0:w.heap.size+2<W0.heap.size)
  (e1:vs.length=i) (hown:wr.ownsRow W0.heap.size 75 2 (H S i k) i (aB bJ vs)) (hev:∀j,(hj:j<L.length)->(hv:j<vs.length)->bZ (λq=>q<W0.heap.size\/blk S=Z q) wr vs[j] L[j])
  (hb4:By wr V4) (hnew:bZ (λq=>q<wr.heap.size) V4 v x) (hL:∀hi:i<L.length,L[i]=x)
  (h5:V5.ownsRow W0.heap.size 75 2 (H B5 (i+1) c5) (i+1) (aB bJ vs++bJ v)) (hg5:V4.grownBy V5 (blk S)) (hB5:B5=S\/B5=Z ⟨V4.heap.size,0,N⟩) :
  RmS w W0 c L (i+1) B5 c5 (V5.setCell ⟨w.heap.size+2,0,N⟩ (H B5 (i+1) c5)):=by
 have b:∀q,blk S=Z q->W0.heap.size<=q/\q<wr.heap.size:=λq hq=>aN hown hq
 have s:=hb4.size;have r:=hchg.size
 have l:Box V5 (w.heap.size+2) 32 [H S i k,H N 0 0,I J c.base,I J c.second,I J c.third]:=
  (bb hbox hb4).grown hg5 (λe=>by have:=b _ e.symm;omega)
 have d:Chg (λq=>q<W0.heap.size\/blk S=Z q) V4 V5:=Chg.of_grown hg5 (λq hq=>.inr hq);have f:Chg (λq=>q<W0.heap.size\/blk S=Z q) V5 (V5.setCell ⟨w.heap.size+2,0,N⟩ (H B5 (i+1) c5)):=Chg.of_grown (bR _ _ _) (λq hq=>by cases hq;exact .inl hw0)
 have m:∀{v:Value×Value}{x:Ent},bZ (λq=>q<W0.heap.size\/blk S=Z q) V4 v x->bZ (λq=>q<W0.heap.size\/blk B5=Z q) (V5.setCell ⟨w.heap.size+2,0,N⟩ (H B5 (i+1) c5)) v x:=λ{v x}h=>by
  rcases hB5 with e|e
  ·subst e;exact(h.chg d).chg f
  have o:bZ (λq=>(q<W0.heap.size\/blk S=Z q)\/V4.heap.size<=q) V4 v x:=h.fresh (λq hq=>hq);have p:=(o.chg (d.mono (λq _ hq=>.inl hq))).chg (f.mono (λq _ hq=>.inl hq));refine p.mono (λq hq=>?_);rcases hq with hq|hq
  ·exact .inl (.inl hq)
  subst e;cases hq;exact .inr (Nat.le_refl _)
 refine⟨⟨vs++[v],by simp[e1],?_,λj hj hv=>?_⟩,l.set 0 _,?_⟩
 ·have e:aB bJ (vs++[v])=aB bJ vs++bJ v:=by unfold aB;rw[List.flatMap_append,List.flatMap_singleton]
  rw[e];exact ownsRow_setCell_below h5 (a:=⟨w.heap.size+2,0,N⟩) hw0 _
 ·by_cases g:j<vs.length
  ·rw[List.getElem_append_left g]
   exact m ((hev j hj g).below hb4)
  have e:j=i:=by simp at hv;omega
  subst e;rw[hL hj];have n:(vs++[v])[j]=v:=by rw[List.getElem_append_right O];simp[e1]
  rw[n];exact m (hnew.mono (λq hq=>by rcases hq with hq|hq;omega;exact(b q hq).2))
 exact((hchg.trans (Chg.of_below hb4)).trans' (Chg.of_grown (S:=λq=>blk S=Z q) hg5 (λq hq=>hq)) (λq hq=>.inr (b q hq).1)).trans (Chg.of_grown (bR _ _ _) (λq hq=>by cases hq;rfl))
theorem Chg.then{S:Nat->Prop}{a b c:Wv}(h:Chg S a b)(g:Below a.heap.size b c):Chg S a c:=⟨g.os.trans h.os,g.tape.trans h.tape,g.output.trans h.output,Nat.le_trans h.size g.size,λk hk hn=>(g.block k hk).trans (h.block k hk hn)⟩
structure RmG(w V9:Wv)(c:Col)(S:Oa)(ks:Nat)(gs:List Grp)(j:Nat)(G:Oa)(g:Nat)(wr:Wv):Prop where
 own:wr.ownsRow V9.heap.size 98 3 (H G j g) j (aB Grp.cells (gs.take j))
 box:Box wr (w.heap.size+2) 32 [H S c.ents.length ks,H G j g,I J c.base,I J c.second,I J c.third]
 chg:Chg (λq=>q=w.heap.size+2) V9 wr
theorem RmG.push{w V9:Wv}{c:Col}{S:Oa}{ks:Nat}{gs:List Grp}{j:Nat}{G:Oa}{g:Nat}{wr V4 V5:Wv}{G5:Oa}{g5:Nat}{x:Grp}(h:RmG w V9 c S ks gs j G g wr)(h2:w.heap.size+2<V9.heap.size)(hb4:By wr V4)(hj:j<gs.length)(hx:gs[j]=x)
  (h5:V5.ownsRow V9.heap.size 98 3 (H G5 (j+1) g5) (j+1) (aB Grp.cells (gs.take j)++Grp.cells x)) (hb5:Below V9.heap.size V4 V5) :
  RmG w V9 c S ks gs (j+1) G5 g5 (V5.setCell ⟨w.heap.size+2,1,N⟩ (H G5 (j+1) g5)):=by
 subst hx;have e:aB Grp.cells (gs.take (j+1))=aB Grp.cells (gs.take j)++Grp.cells gs[j]:=by
  rw[List.take_succ_eq_append_getElem hj,iA];simp[aB]
 refine⟨?_,((h.box.below hb4 h.box.lt).below hb5 h2).set 1 _,((h.chg.trans (Chg.of_below hb4)).then hb5).trans (Chg.of_grown (bR _ _ _) (λq hq=>by cases hq;rfl))⟩;rw[e];exact ownsRow_setCell_below h5 (a:=⟨w.heap.size+2,1,N⟩) h2 _
theorem NY{Y:Nat->Prop}{w W0 V9 wr Wf:Wv}{c:Col}{lv wv l:Int}{L:List Ent}{gs:List Grp}{S:Oa}{ks:Nat}{G:Oa}{g:Nat}{vs:List (Value×Value)}{u v z:Int}(hY:∀q,Y q->q<w.heap.size)(hL:c.ents.map (rsEnt lv l)=L)(hg:c.grps.map (rsG lv wv)=gs)(hs:∀g∈c.grps,g.name.size<=9223372036854775807)
  (hu:u=if lv=1 then mvd l c.base else c.base) (hv:v=if lv=2 then mvd l c.second else c.second) (hz:z=if lv=3 then mvd l c.third else c.third)
  (e1:vs.length=c.ents.length) (ho:V9.ownsRow W0.heap.size 75 2 (H S c.ents.length ks) c.ents.length (aB bJ vs)) (hev:∀j,(hj:j<L.length)->(hv:j<vs.length)->bZ (λq=>q<W0.heap.size\/blk S=Z q) V9 vs[j] L[j])
  (hr:RmG w V9 c S ks gs c.grps.length G g wr) (hch:Chg (λq=>q=w.heap.size+1\/q=w.heap.size+2) wr Wf) (h0:w.heap.size+2<W0.heap.size) (h9:W0.heap.size<=V9.heap.size) (hb:By w wr) :
  ∃A a B b,Ending.returned (.agg #[H S c.ents.length ks,H G c.grps.length g,I J u,I J v,I J z])=.returned (aJ A (roomC lv wv l c).ents.length a B (roomC lv wv l c).grps.length b (roomC lv wv l c))/\cR Y Wf A B (roomC lv wv l c)/\By w Wf:=by
 have m:Chg (λq=>q=w.heap.size+1\/q=w.heap.size+2) V9 Wf:=(hr.chg.mono (λq _ e=>.inr e)).trans hch;have h:=eQ ho m (λq hq e=>by have:=aN ho hq;omega);have d:=eQ hr.own hch (λq hq e=>by have:=aN hr.own hq;omega);have k:∀i,(hi:i<L.length)->(hv:i<vs.length)->bZ Y Wf vs[i] L[i]:=λi hi hv=>((hev i hi hv).chg (m.mono (λq _ e=>.inl (by rcases e with e|e<;>omega)))).mono (λq hq=>.inl (by have:=hY q hq;omega))
 have f:By w Wf:=hb.trans (hch.below hb.size (λq e=>by rcases e with e|e<;>omega));subst hL hg hu hv hz;rw[List.take_of_length_le oL_]at d;refine⟨S,ks,G,g,?_,⟨⟨vs,by simp[roomC,e1],SlN.own h (λq hq=>by have:=hY q hq;omega),k⟩,SlN.own d (λq hq=>by have:=hY q hq;omega),?_⟩,f⟩
 ·simp[roomC,aJ]
 intro x hx;obtain⟨y,hy,rfl⟩:=List.mem_map.1 (show x∈c.grps.map (rsG lv wv)from hx);rw[rsG_name];exact hs y hy
theorem XK(Y:Nat->Prop)(A:Oa)(a:Nat)(B:Oa)(b:Nat)(c:Col)(lv wv l:Int)(w:Wv)(hY:∀q,Y q->q<w.heap.size)(h:aO w A c.ents.length B c.grps.length c)(hz:aQ c)(hel:∀x∈c.ents,∀e∈x.elems,0<=wt lv e/\wt lv e<=1048576)(hgr:∀g∈c.grps,(0<=g.lo/\g.lo<=1048576)/\(0<=g.hi/\g.hi<=1048576))(hbs:(0<=c.base/\c.base<=1048576)/\(0<=c.second/\c.second<=1048576)/\(0<=c.third/\c.third<=1048576))(hwv:0<=wv/\wv<=1048576):
  Calls prog 50 #[aJ A c.ents.length a B c.grps.length b c,I J lv,I J wv,I J l] w (kZ Y (roomC lv wv l c) w):=by
 have B0:By w (((w.alloc (.cells #[H A c.ents.length a,H B c.grps.length b,I J c.base,I J c.second,I J c.third] 32)).alloc (.cells #[H N 0 0,H N 0 0,I J 0,I J 0,I J 0] 32)).alloc (.cells #[H N 0 0,H N 0 0,I J c.base,I J c.second,I J c.third] 32)):=((ba _ _).alloc oL_ _).alloc oU_ _;have X0:Box (((w.alloc (.cells #[H A c.ents.length a,H B c.grps.length b,I J c.base,I J c.second,I J c.third] 32)).alloc (.cells #[H N 0 0,H N 0 0,I J 0,I J 0,I J 0] 32)).alloc (.cells #[H N 0 0,H N 0 0,I J c.base,I J c.second,I J c.third] 32)) w.heap.size 32 [H A c.ents.length a,H B c.grps.length b,I J c.base,I J c.second,I J c.third]:=fB (fB (Box.new w 32 [H A c.ents.length a,H B c.grps.length b,I J c.base,I J c.second,I J c.third] rfl) _) _;have X1:Box (((w.alloc (.cells #[H A c.ents.length a,H B c.grps.length b,I J c.base,I J c.second,I J c.third] 32)).alloc (.cells #[H N 0 0,H N 0 0,I J 0,I J 0,I J 0] 32)).alloc (.cells #[H N 0 0,H N 0 0,I J c.base,I J c.second,I J c.third] 32)) (w.heap.size+1) 32 [H N 0 0,H N 0 0,I J 0,I J 0,I J 0]:=fB (Box.new _ 32 [H N 0 0,H N 0 0,I J 0,I J 0,I J 0] oL_) _;have X2:Box (((w.alloc (.cells #[H A c.ents.length a,H B c.grps.length b,I J c.base,I J c.second,I J c.third] 32)).alloc (.cells #[H N 0 0,H N 0 0,I J 0,I J 0,I J 0] 32)).alloc (.cells #[H N 0 0,H N 0 0,I J c.base,I J c.second,I J c.third] 32)) (w.heap.size+2) 32 [H N 0 0,H N 0 0,I J c.base,I J c.second,I J c.third]:=Box.new _ 32 [H N 0 0,H N 0 0,I J c.base,I J c.second,I J c.third] oL_;have fr:∃W0,(((w.alloc (.cells #[H A c.ents.length a,H B c.grps.length b,I J c.base,I J c.second,I J c.third] 32)).alloc (.cells #[H N 0 0,H N 0 0,I J 0,I J 0,I J 0] 32)).alloc (.cells #[H N 0 0,H N 0 0,I J c.base,I J c.second,I J c.third] 32))=W0:=⟨_,rfl⟩;have HE:=hG_ h.ents;have HG:=hG_ h.grps;have HS:=hG_ h.hs;have HZ:=hG_ hz.e;have hr:=hz.n;have hp:=hz.m;have d8:=hG_ hgr;have dx:=hG_ hbs;have HY:=hG_ hY;have ed:=hG_ hwv;have d6:=hG_ (λi(hi:i<c.ents.length)=>hel _ (List.getElem_mem hi));unfold aJ kZ;clear h hz hel hgr hbs hY hwv;obtain⟨L,hL⟩:=exQ (c.ents.map (rsEnt lv l));have HL:=hG_ hL;clear hL;go_enter func50,ntmps50;go_upto_region 2 with(fail)
 obtain⟨W0,e5⟩:=fr;try rw[e5]at B0 X0 X1 X2|-
 clear e5;rw[show w.heap.size+1+1=w.heap.size+2 from rfl];have ee:=hG_ X0;have ef:=hG_ X1;have eg:=hG_ X2;have dw:=hG_ B0;clear X0 X1 X2 B0;have hl:=ee.o.lt;have hm:=ef.o.lt;have ct:=eg.o.lt;have en:=U (RmS w W0 c L 0 N 0 W0) (⟨⟨[],rfl,World.ownsRow_nil _ _ _ _,λj hj hv=>absurd hv oL_⟩,eg.o,Chg.refl _ _⟩);go_wp2;go_loopw [10] (λu wr=>∃(i:Nat)(S:Oa)(k:Nat),i<=c.ents.length/\u=I J i/\RmS w W0 c L i S k wr) (λu _=>c.ents.length-(intOf u).toNat)
 case atStart=>exact⟨0,N,0,Nat.zero_le _,rfl,en.o⟩
 obtain⟨i,S,k,hi,rfl,hS⟩:=hrel;obtain⟨⟨vs,e7,cs,e8⟩,cp,aw⟩:=hS;have D:=hG_ cp;have d4:=hG_ aw;have al:=hG_ cs;have cw:=hG_ e8;have d5:=hG_ e7;have b6:=U (W0.heap.size<=wr.heap.size) aw.size;have Q:=U (By w wr) (dw.o.trans (aw.below dw.o.size (λq(hq:q=w.heap.size+2)=>O)));have eh:=hG_ (aw.box ee.o (λ(e:w.heap.size=w.heap.size+2)=>O));clear cs e8 cp aw e7;have k0:=eh.o.c 0 rfl;by_cases hlt:i<c.ents.length
 ·obtain⟨b1,o1,rfl,dg,br⟩:=HE.o.at hlt
  obtain⟨C,cc,E,dd,c1,c2,hC,hE⟩:=br i hlt;have q2:(i:Int)<(c.ents.length:Int):=O;obtain⟨z1,z2⟩:=HZ.o i hlt;have cv:=hG_ hC;have d9:=U (∀hi:i<L.length,L[i]=⟨c.ents[i].codes,c.ents[i].elems.map (rsE lv l)⟩) (λhi=>by have e:=HL.o;subst e;rw[List.getElem_map];rfl);have cz:=U ((c.ents[i].elems.map (rsE lv l)).length=c.ents[i].elems.length) (List.length_map _)
  have KA:=U (∀W,By wr W->Calls prog 53 #[H E c.ents[i].elems.length dd,I J lv,I J l] W (λe w'=>∃A' c',e=.returned (H A' c.ents[i].elems.length c')/\w'.ownsRow W.heap.size 77 4 (H A' c.ents[i].elems.length c') c.ents[i].elems.length (aB Elt.cells (c.ents[i].elems.map (rsE lv l)))/\By W w')) (λW hb=>by
   have h:=CR E dd c.ents[i].elems lv l W (hE.below (tb Q.o hb)) z2 (d6.o i hlt)
   unfold jO at h
   rw[List.length_map]at h
   exact h)
  have SH:=hG_ (λW'(hb':Chg (λq=>q=w.heap.size+2\/blk S=Z q) wr W')=>show W'.cell? ⟨w.heap.size,0,N⟩=Z (H (Z ⟨b1,o1,N⟩) c.ents.length a)/\W'.cell? ⟨b1,o1+i*2,N⟩=Z (H C c.ents[i].codes.length cc)/\W'.cell? ⟨b1,o1+i*2+1,N⟩=Z (H E c.ents[i].elems.length dd)/\Chg (λq=>q=w.heap.size+2\/blk S=Z q) wr W' from
   have ak:∀o,W'.cell? ⟨b1,o,N⟩=wr.cell? ⟨b1,o,N⟩:=λo=>World.cell?_of_block (hb'.block b1 (Nat.lt_of_lt_of_le dg Q.o.size) (λe=>by rcases e with e|e;omega;have:=aN al.o e;omega))
   ⟨(World.cell?_of_block (hb'.block w.heap.size (by have:=b6.o;omega) (λe=>by rcases e with e|e;omega;have:=aN al.o e;omega))).trans k0,((ak _).trans (Q.o.cell (p:=⟨b1,_,N⟩) dg)).trans c1,((ak _).trans (Q.o.cell (p:=⟨b1,_,N⟩) dg)).trans c2,hb'⟩)
  have CG:=hG_ (λV4 X(hb:By wr V4)(hg:V4.grownBy X (blk S))=>SH.o X ((Chg.of_below hb).trans (Chg.of_grown hg (λq hq=>.inr hq))));have dy:=hG_ (λV4 X(hb:By wr V4)(hg:V4.grownBy X (blk S))=>(bb D.o hb).grown hg (λe=>by have:=aN al.o e.symm;omega));clear br hE c1 c2 hC;obtain⟨ne,fd⟩:=exQ (c.ents[i].elems.map (rsE lv l));rw[fd]at d9 KA cz;clear fd;obtain⟨el,hel⟩:=exQ (c.ents[i].elems.length);rw[hel]at SH KA cz CG z2;clear hel;obtain⟨cl,di⟩:=exQ (c.ents[i].codes.length);have b0:=hG_ di;rw[di]at SH CG z1;clear di;generalize c.ents[i].codes=cds at *
  have ek:=U (∀V4 B2 c2 E3 e3 nb V2,World.ownsRow V4 nb 3 1 (H B2 cl c2) cl (cds.map (Value.int .i64))->World.ownsRow V4 (World.heap V2).size 77 4 (H E3 el e3) el (aB Elt.cells ne)->wr.heap.size<=nb->wr.heap.size<=V2.heap.size->bZ (λq=>q<wr.heap.size) V4 (H B2 cl c2,H E3 el e3) ⟨cds,ne⟩) (λV4 B2 c2 E3 e3 nb V2 h1 h2 h3 h4=>by
   have g1:=b0.o
   have g2:=cz.o
   subst g1
   subst g2
   exact⟨B2,c2,E3,e3,rfl,SlN.own h1 (λq hq=>O),SlN.own h2 (λq hq=>O)⟩)
  clear d6 HZ HE HL;go_wp2_with fail;clear k0;have a9:=hG_ ((Below.refl wr.heap.size wr).drew);refine wp_region_held_drew (S:=λW'=>W'.cell? ⟨w.heap.size,0,N⟩=Z (H (Z ⟨b1,o1,N⟩) c.ents.length a)/\W'.cell? ⟨b1,o1+i*2,N⟩=Z (H C cl cc)/\W'.cell? ⟨b1,o1+i*2+1,N⟩=Z (H E el dd)/\Chg (λq=>q=w.heap.size+2\/blk S=Z q) wr W') oK_ (SH.o _ (Chg.of_below a9.o)) (λf=>?_);refine tK 0 27 ?_;refine tK 3 30 ?_;refine tK 4 31 ?_;refine tK 5 32 ?_;refine tK 6 33 ?_;refine tK 7 34 ?_;refine tK 8 35 ?_;refine tK 10 37 ?_;refine tK 11 38 ?_;refine tK 12 39 ?_;refine tK 13 40 ?_;refine tK 14 41 ?_;refine tK 15 42 ?_;refine tK 16 43 ?_;refine tK 17 44 ?_;have u0:=trivial
  all_goals
   have ao:=(D.o.below a9.o D.o.lt).c 0 rfl;have K:=(a9.o).alloc (a9.o).size (.cells #[] 3);first
   |(have _:=u0;refine iO (i:=1) (j:=2) rfl rfl oK_ oR_ oR_ (fN (w':=wr.drew) (v:=H S i k) (Z 28) rfl oS_ (SH.o _ (Chg.of_below a9.o)) ?_) (fN (w':=wr.drew.alloc (.cells #[] 3)) (v:=H (Z ⟨wr.drew.heap.size,0,N⟩) 0 0) (Z 29) rfl oS_ (SH.o _ (Chg.of_below K)) ?_);clear u0;try simp only[Act.put,sA,sB,sC];refine fK (i:=2) (w':=wr.drew.alloc (.cells #[] 3)) (v:=H (Z ⟨wr.drew.heap.size,0,N⟩) 0 0) (Z 29) rfl rfl oK_ oR_ oS_ (SH.o _ (Chg.of_below K)) ?_)
   |refine fK (i:=2) (w':=wr.drew.alloc (.cells #[] 3)) (v:=H (Z ⟨wr.drew.heap.size,0,N⟩) 0 0) (Z 29) rfl rfl oK_ oR_ oS_ (SH.o _ (Chg.of_below K)) ?_
  all_goals
   try simp only[Act.put,sA,sB,sC]
   have ci:(wr.drew.alloc (.cells #[] 3)).ownsRow wr.drew.heap.size 3 1 (H (Z ⟨wr.drew.heap.size,0,N⟩) 0 0) 0 []:=jG [] 3 1 0 wr.drew.heap.size rfl rfl (Nat.le_refl _) O;obtain⟨nb,dk⟩:=exQ (wr.drew.heap.size);have cr:wr.heap.size<=nb:=by have:=a9.o.size;omega
   obtain⟨V1,dc⟩:=exQ (wr.drew.alloc (.cells #[] 3));have bt:nb<=V1.heap.size:=by rw[<-dc,<-dk];simp
   rw[dk]at ci|-;rw[dc]at K ci|-;have ay:=hG_ K;have b5:=hG_ ci;clear dc dk K ci;clear f;have f:=SH.o V1 (Chg.of_below ay.o);clear ao
  all_goals
   have ao:=(D.o.below ay.o D.o.lt).c 0 rfl;first
   |(have _:=u0;refine iO (i:=1) (j:=9) rfl rfl oK_ oR_ oR_ (fN (w':=V1) (v:=H S i k) (Z 28) rfl oS_ (SH.o _ (Chg.of_below ay.o)) ?_) (uQ (Z 36) rfl _ _ 33 3 (I J 0) 1 8 rfl underlying33 cU rfl oV_ oV_ rfl b5.o rfl (Sl.below cv.o (ay.o.mono Q.o.size |> (Q.o).trans)) (by rw[List.length_map,Nat.mul_one];exact b0.o) (cJ _) O bt ?_);clear u0;try simp only[Act.put,sA,sB,sC];refine gM (i:=9) (Z 36) rfl rfl oK_ oR_ _ _ 33 3 (I J 0) 1 8 rfl underlying33 cU rfl oV_ oV_ rfl b5.o rfl (Sl.below cv.o (ay.o.mono Q.o.size |> (Q.o).trans)) (by rw[List.length_map,Nat.mul_one];exact b0.o) (cJ _) O bt ?_)
   |refine gM (i:=9) (Z 36) rfl rfl oK_ oR_ _ _ 33 3 (I J 0) 1 8 rfl underlying33 cU rfl oV_ oV_ rfl b5.o rfl (Sl.below cv.o (ay.o.mono Q.o.size |> (Q.o).trans)) (by rw[List.length_map,Nat.mul_one];exact b0.o) (cJ _) O bt ?_
  all_goals
   intro B2 c2 V2 a6 gd e6 ge ga;rw[Nat.zero_add]at a6|-;have fl:=U (V2.ownsRow nb 3 1 (H B2 cl c2) cl (cds.map (Value.int .i64))) a6;have P:=hG_ (ay.o.trans (e6.mono cr));refine⟨SH.o V2 (Chg.of_below P.o),?_⟩;try simp only[Act.put,sA,sB,sC]
   clear a6 gd e6 ge ga b5;clear f;have f:=SH.o V2 (Chg.of_below P.o);clear ao
  all_goals
   have ao:=(D.o.below P.o D.o.lt).c 0 rfl;first
   |(have _:=u0;refine iO (i:=1) (j:=18) rfl rfl oK_ oR_ oR_ (fN (w':=V2) (v:=H S i k) (Z 28) rfl oS_ (SH.o _ (Chg.of_below P.o)) ?_) (mJ (R:=λv W'=>∃A c,v=H A el c/\W'.ownsRow V2.heap.size 77 4 (H A el c) el (aB Elt.cells ne)/\By V2 W') (Z 45) rfl oS_ ((KA.o V2 P.o).mono (λe W'⟨A',c',he,ho,hb⟩=>⟨_,he,SH.o W' (Chg.of_below (tb P.o hb)),A',c',rfl,ho,hb⟩)) ?_);clear u0;try simp only[Act.put,sA,sB,sC];refine iN (i:=18) (R:=λv W'=>∃A c,v=H A el c/\W'.ownsRow V2.heap.size 77 4 (H A el c) el (aB Elt.cells ne)/\By V2 W') (Z 45) rfl rfl oK_ oR_ oS_ ((KA.o V2 P.o).mono (λe W'⟨A',c',he,ho,hb⟩=>⟨_,he,SH.o W' (Chg.of_below (tb P.o hb)),A',c',rfl,ho,hb⟩)) ?_)
   |refine iN (i:=18) (R:=λv W'=>∃A c,v=H A el c/\W'.ownsRow V2.heap.size 77 4 (H A el c) el (aB Elt.cells ne)/\By V2 W') (Z 45) rfl rfl oK_ oR_ oS_ ((KA.o V2 P.o).mono (λe W'⟨A',c',he,ho,hb⟩=>⟨_,he,SH.o W' (Chg.of_below (tb P.o hb)),A',c',rfl,ho,hb⟩)) ?_
  all_goals
   rintro _ V3 gc ⟨E3,e3,rfl,bu,df⟩;have fm:=hG_ bu;have bd:=hG_ (tb P.o df);have eb:=hG_ (aG fl.o df);clear gc bu df;clear f;have f:=SH.o V3 (Chg.of_below bd.o);try simp only[Act.put,sA,sB,sC]
   refine tK 19 46 ?_;clear ao
  all_goals
   have ao:=(D.o.below bd.o D.o.lt).c 0 rfl;have K:=(bd.o).alloc (bd.o).size (.cells #[H B2 cl c2,H E3 el e3] 75);first
   |(have _:=u0;refine iO (i:=1) (j:=20) rfl rfl oK_ oR_ oR_ (fN (w':=V3) (v:=H S i k) (Z 28) rfl oS_ (SH.o _ (Chg.of_below bd.o)) ?_) (fN (w':=V3.alloc (.cells #[H B2 cl c2,H E3 el e3] 75)) (v:=H (Z ⟨V3.heap.size,0,N⟩) 1 1) (Z 47) rfl oS_ (SH.o _ (Chg.of_below K)) ?_);clear u0;try simp only[Act.put,sA,sB,sC];refine fK (i:=20) (w':=V3.alloc (.cells #[H B2 cl c2,H E3 el e3] 75)) (v:=H (Z ⟨V3.heap.size,0,N⟩) 1 1) (Z 47) rfl rfl oK_ oR_ oS_ (SH.o _ (Chg.of_below K)) ?_)
   |refine fK (i:=20) (w':=V3.alloc (.cells #[H B2 cl c2,H E3 el e3] 75)) (v:=H (Z ⟨V3.heap.size,0,N⟩) 1 1) (Z 47) rfl rfl oK_ oR_ oS_ (SH.o _ (Chg.of_below K)) ?_
  all_goals
   try simp only[Act.put,sA,sB,sC]
   have da:Sl (V3.alloc (.cells #[H B2 cl c2,H E3 el e3] 75)) (Z ⟨V3.heap.size,0,N⟩) (bJ (H B2 cl c2,H E3 el e3)):=bI V3 (bJ (H B2 cl c2,H E3 el e3)) 75 rfl;obtain⟨V4,de⟩:=exQ (V3.alloc (.cells #[H B2 cl c2,H E3 el e3] 75));have bo:By V3 V4:=by rw[<-de];exact ba _ _
   rw[de]at K da|-;have r:=hG_ K;have az:=hG_ da;have ea:=hG_ (aG eb.o bo);have ec:=hG_ (aG fm.o bo);clear de K da bo;clear f;have f:=SH.o V4 (Chg.of_below r.o);clear ao
  all_goals
   have ao:=(D.o.below r.o D.o.lt).c 0 rfl;try(clear u0;refine fK (i:=1) (w':=V4) (v:=H S i k) (Z 28) rfl rfl oK_ oR_ oS_ (SH.o V4 (Chg.of_below r.o)) ?_;try simp only[Act.put,sA,sB,sC])
   clear ao;refine gM (i:=21) (Z 48) rfl rfl oK_ oR_ _ _ 29 75 (.agg #[H N 0 0,H N 0 0]) 2 48 rfl underlying29 iB rfl oV_ oV_ rfl (aG al.o r.o) rfl az.o rfl (by simp[bJ,Value.oneCell']) O (Nat.le_trans b6.o r.o.size) ?_;intro B5 c5 X n dh m bs ew;rw[bH]at bs;have cu:=hG_ (CG.o V4 X r.o bs);have bq:=dy.o V4 X r.o bs;refine⟨cu.o,?_⟩;try simp only[Act.put,sA,sB,sC]
   clear f;have f:=cu.o;refine tK 22 49 ?_;have f6:=bq.free 0;have f8:=bq.c 0 rfl;have au:=hG_ (RmS.push D.o d4.o ct d5.o al.o cw.o r.o (show bZ (λq=>q<wr.heap.size) V4 (H B2 cl c2,H E3 el e3) ⟨cds,ne⟩from ek.o V4 B2 c2 E3 e3 nb V2 ea.o ec.o cr (P.o.size)) d9.o n bs ew);refine dJ (i:=23) (w':=X.setCell ⟨w.heap.size+2,0,N⟩ (H B5 (i+1) c5)) N rfl rfl oK_ oR_ oS_ (SH.o _ (cu.o.2.2.2.trans (Chg.of_grown (bR _ _ _) (λq hq=>by cases hq;exact .inl rfl)))) ?_;try simp only[Act.put]
   clear f6 f8 f;obtain⟨V6,ex⟩:=exQ (X.setCell ⟨w.heap.size+2,0,N⟩ (H B5 (i+1) c5));rw[ex]at au|-;clear ex n dh m bs ew bq;refine wpAnyH_done oK_ ?_ _;go_wp2;go_roundw
   case rel=>exact⟨i+1,_,_,O,oN_,au.o⟩
   exact oI_
 obtain rfl:i=c.ents.length:=O;obtain⟨V9,rfl⟩:∃V,V=wr:=⟨_,rfl⟩;obtain⟨gs,e9⟩:=exQ (c.grps.map (rsG lv wv));have cy:=hG_ e9;clear e9;have cj:w.heap.size+2<V9.heap.size:=by have:=b6.o;omega
 have em:=U (RmG w V9 c S k gs 0 N 0 V9) (⟨World.ownsRow_nil _ _ _ _,D.o,Chg.refl _ _⟩);go_wp2_with fail;clear k0;go_loopw [11] (λu wr=>∃(j:Nat)(G:Oa)(g:Nat),j<=c.grps.length/\u=I J j/\RmG w V9 c S k gs j G g wr) (λu _=>c.grps.length-(intOf u).toNat)
 case atStart=>exact⟨0,N,0,Nat.zero_le _,rfl,em.o⟩
 obtain⟨j,G,g,hj,rfl,hS⟩:=hrel;have T:=hG_ hS;have bz:=U (By w wr) (Q.o.trans (hS.chg.below Q.o.size (λq(hq:q=w.heap.size+2)=>O)));have b7:=hG_ (hS.chg.box eh.o (λ(e:w.heap.size=w.heap.size+2)=>O));have ev:=hG_ hS.chg.size;clear hS;have k1:=b7.o.c 1 rfl;by_cases hlt:j<c.grps.length
 ·obtain⟨b2,o2,rfl,bp,a8⟩:=HG.o.at hlt
  obtain⟨y0,y1,y2⟩:=a8 j hlt;have d0:=(bz.o.cell (p:=⟨b2,_,N⟩) bp).trans y0;have d1:=(bz.o.cell (p:=⟨b2,_,N⟩) bp).trans y1;have d2:=(bz.o.cell (p:=⟨b2,_,N⟩) bp).trans y2;have q2:(j:Int)<(c.grps.length:Int):=O;obtain⟨⟨l1,l2⟩,⟨l3,l4⟩⟩:=d8.o _ (List.getElem_mem hlt);obtain⟨v1,v2⟩:=ed.o;have d7:=U (∀hj:j<gs.length,gs[j]=rsG lv wv c.grps[j]) (λhj=>by have e:=cy.o;subst e;rw[List.getElem_map]);have b3:=U (gs.length=c.grps.length) (by have e:=cy.o;subst e;rw[List.length_map]);clear a8 y0 y1 y2;have ca:=hG_ (λW=>nD c.grps[j].lo (wv+1) W l1 O);have cb:=hG_ (λW=>nD c.grps[j].hi wv W l3 O);unfold aU at ca cb;have bg:=hG_ (λ(h:lv=1)=>show rsG lv wv c.grps[j]=⟨c.grps[j].name,mvd (wv+1) c.grps[j].lo,mvd wv c.grps[j].hi⟩from by unfold rsG;rw[if_pos h]);have bh:=hG_ (λ(h:¬lv=1)=>show rsG lv wv c.grps[j]=c.grps[j]from by unfold rsG;rw[if_neg h]);generalize c.grps[j]=gg at *;obtain⟨gn,F,t⟩:=gg;dsimp only at *;have GA:By wr (wr.alloc (.cells #[.string gn,I J F,I J t] 98)):=ba _ _;have GX:Box (wr.alloc (.cells #[.string gn,I J F,I J t] 98)) wr.heap.size 98 [.string gn,I J F,I J t]:=Box.new _ 98 [.string gn,I J F,I J t] rfl;have fs:∃V,wr.alloc (.cells #[.string gn,I J F,I J t] 98)=V:=⟨_,rfl⟩;go_upto_region 10 with(fail)
  obtain⟨Va,ey⟩:=fs;rw[ey]at GA GX|-;obtain⟨gb,dj⟩:=exQ (wr.heap.size);have cq:wr.heap.size<=gb:=O;have gv:gb<Va.heap.size:=by rw[<-dj];exact GX.lt
  rw[dj]at GX|-;have cx:=hG_ GA;have b4:=hG_ GX;clear ey dj GA GX d0 d1 d2 k1;by_cases hlv:lv=1
  ·have gj:(lv==1)=true:=by simp[hlv]
   have a1:=b4.o.c 1 rfl;have c3:=hG_ (bg.o hlv);clear bg bh hlv;go_wp2_with fail;refine(ca.o Va).mono ?_
   rintro e Vb ⟨rfl,ak⟩;have dz:=hG_ (tb cx.o ak);have ar:=hG_ (bb b4.o ak);clear ak ca a1;generalize mvd (wv+1) F=mlo at *;generalize mvd wv t=mhi at *;have f1:=ar.o.free 1;have a1:=ar.o.c 1 rfl;have a2:=ar.o.c 2 rfl;have ZB:By wr (Vb.setCell ⟨gb,1,N⟩ (I J mlo)):=dz.o.setCell (p:=⟨gb,1,N⟩) cq _;have ZX:Box (Vb.setCell ⟨gb,1,N⟩ (I J mlo)) gb 98 [.string gn,I J mlo,I J t]:=ar.o.set 1 _;have ft:∃V,Vb.setCell ⟨gb,1,N⟩ (I J mlo)=V:=⟨_,rfl⟩;go_upto_region 12 with(fail)
   obtain⟨Vc,ez⟩:=ft;rw[ez]at ZB ZX|-;have ei:=hG_ ZB;have c6:=hG_ ZX;clear ez ZB ZX f1 a1 a2;have a2:=c6.o.c 2 rfl;go_wp2_with fail;refine(cb.o Vc).mono ?_
   rintro e Vd ⟨rfl,ak⟩;have d3:=hG_ (tb ei.o ak);have b9:=hG_ (bb c6.o ak);clear ak cb a2;have f2:=b9.o.free 2;have a2:=b9.o.c 2 rfl;have ZB:By wr (Vd.setCell ⟨gb,2,N⟩ (I J mhi)):=d3.o.setCell (p:=⟨gb,2,N⟩) cq _;have ZX:Box (Vd.setCell ⟨gb,2,N⟩ (I J mhi)) gb 98 [.string gn,I J mlo,I J mhi]:=b9.o.set 2 _;have fu:∃V,Vd.setCell ⟨gb,2,N⟩ (I J mhi)=V:=⟨_,rfl⟩;go_upto_region 13 with(fail)
   obtain⟨Ve,e4⟩:=fu;rw[e4]at ZB ZX|-;have bj:=hG_ ZB;have c4:=hG_ ZX;clear e4 ZB ZX f2 a2 dz ar ei c6 d3 b9;obtain⟨e0,e1,e2⟩:=c4.o.k3;have a5:=T.o.box.below bj.o T.o.box.lt;have x1:=a5.c 1 rfl;have bA:By Ve (Ve.alloc (.cells #[.string gn,I J mlo,I J mhi] 98)):=ba _ _;have r:=hG_ (tb bj.o bA);have bf:=hG_ (aG T.o.own r.o);have y:=bb a5 bA;have be:=hG_ y;have f4:=y.free 1;have g4:=y.c 1 rfl;have dl:V9.heap.size<=(Ve.alloc (.cells #[.string gn,I J mlo,I J mhi] 98)).heap.size:=Nat.le_trans ev.o r.o.size;have az:=U (Sl (Ve.alloc (.cells #[.string gn,I J mlo,I J mhi] 98)) (Z ⟨Ve.heap.size,0,N⟩) (Grp.cells ⟨gn,mlo,mhi⟩)) (bI Ve (Grp.cells ⟨gn,mlo,mhi⟩) 98 rfl);have au:=hG_ (λG5 g5 X h5 m=>RmG.push (G5:=G5) (g5:=g5) (V5:=X) T.o cj r.o (by rw[b3.o];exact hlt) (show gs[j]'(by rw[b3.o];exact hlt)=⟨gn,mlo,mhi⟩from(d7.o _).trans c3.o) h5 m);have FB:=hG_ (λX(m:Below V9.heap.size (Ve.alloc (.cells #[.string gn,I J mlo,I J mhi] 98)) X)=>be.o.below m cj);clear a5 y bA f4 g4;go_wp2_with(at_builtin;refine a_ _ _ 30 98 (.agg #[.string .empty,I J 0,I J 0]) 3 32 rfl rfl underlying30 tE rfl oV_ oV_ rfl bf.o rfl az.o rfl (by simp[Grp.cells,Value.oneCell']) O dl ?_;intro G5 g5 X n dh m _ _;have c0:=hG_ (au.o G5 g5 X n m);have fb:=FB.o X m;have f4:=fb.free 1;have g4:=fb.c 1 rfl;clear au FB bf az n m fb);go_roundw
   case rel=>exact⟨j+1,_,_,O,oN_,c0.o⟩
   exact oI_
  have gj:(lv==1)=false:=by simp[hlv]
  have c3:=hG_ (bh.o hlv);have bj:=cx;have c4:=b4;obtain⟨Ve,rfl⟩:∃V,V=Va:=⟨_,rfl⟩;clear bg bh ca cb cx b4 hlv;go_upto_region 13 with(fail)
  obtain⟨e0,e1,e2⟩:=c4.o.k3;have a5:=T.o.box.below bj.o T.o.box.lt;have x1:=a5.c 1 rfl;have bA:By Ve (Ve.alloc (.cells #[.string gn,I J F,I J t] 98)):=ba _ _;have r:=hG_ (tb bj.o bA);have bf:=hG_ (aG T.o.own r.o);have y:=bb a5 bA;have be:=hG_ y;have f4:=y.free 1;have g4:=y.c 1 rfl;have dl:V9.heap.size<=(Ve.alloc (.cells #[.string gn,I J F,I J t] 98)).heap.size:=Nat.le_trans ev.o r.o.size;have az:=U (Sl (Ve.alloc (.cells #[.string gn,I J F,I J t] 98)) (Z ⟨Ve.heap.size,0,N⟩) (Grp.cells ⟨gn,F,t⟩)) (bI Ve (Grp.cells ⟨gn,F,t⟩) 98 rfl);have au:=hG_ (λG5 g5 X h5 m=>RmG.push (G5:=G5) (g5:=g5) (V5:=X) T.o cj r.o (by rw[b3.o];exact hlt) (show gs[j]'(by rw[b3.o];exact hlt)=⟨gn,F,t⟩from(d7.o _).trans c3.o) h5 m);have FB:=hG_ (λX(m:Below V9.heap.size (Ve.alloc (.cells #[.string gn,I J F,I J t] 98)) X)=>be.o.below m cj);clear a5 y bA f4 g4;go_wp2_with(at_builtin;refine a_ _ _ 30 98 (.agg #[.string .empty,I J 0,I J 0]) 3 32 rfl rfl underlying30 tE rfl oV_ oV_ rfl bf.o rfl az.o rfl (by simp[Grp.cells,Value.oneCell']) O dl ?_;intro G5 g5 X n dh m _ _;have c0:=hG_ (au.o G5 g5 X n m);have fb:=FB.o X m;have f4:=fb.free 1;have g4:=fb.c 1 rfl;clear au FB bf az n m fb);go_roundw
  case rel=>exact⟨j+1,_,_,O,oN_,c0.o⟩
  exact oI_
 obtain rfl:j=c.grps.length:=O;have M:=hG_ (T.o.chg.box (d4.o.box ef.o (λ(e:w.heap.size+1=w.heap.size+2)=>O)) (λ(e:w.heap.size+1=w.heap.size+2)=>O));have b8:=hG_ T.o.box;have fc:w.heap.size+1<wr.heap.size:=M.o.lt;have bw:=hG_ (λu v z Wf hu hv hz hc=>NY (u:=u) (v:=v) (z:=z) (Wf:=Wf) HY.o HL.o cy.o HS.o hu hv hz d5.o al.o cw.o T.o hc ct b6.o bz.o);clear d8 ed cw T HE HG en em;obtain⟨⟨n1,n2⟩,⟨n3,n4⟩,⟨n5,n6⟩⟩:=dx.o;clear dx;by_cases hlv1:lv=1
 ·have q1:(lv==1)=true:=by simp[hlv1]
  have E1:=U (mvd l c.base=if lv=1 then mvd l c.base else c.base) (by rw[if_pos hlv1]);have E2:=U (c.second=if lv=2 then mvd l c.second else c.second) (by rw[if_neg O]);have E3:=U (c.third=if lv=3 then mvd l c.third else c.third) (by rw[if_neg O]);have KM:=hG_ (λW=>nD c.base l W n1 O);clear hlv1;have k2:=b7.o.c 2 rfl;go_wp2_with fail;refine(KM.o wr).mono ?_
  rintro e Vm ⟨rfl,ah⟩;have s:=hG_ ah;have yb:=bb b8.o ah;have bi:=hG_ yb;have f0:=yb.free 2;have g0:=yb.c 2 rfl;have fa:=s.o.size;have bk:∃V,Vm.setCell ⟨w.heap.size+2,2,N⟩ (I J (mvd l c.base))=V:=⟨_,rfl⟩;have ai:=U (Chg (λq=>q=w.heap.size+2) wr (Vm.setCell ⟨w.heap.size+2,2,N⟩ (I J (mvd l c.base)))) ((Chg.of_below s.o).trans (Chg.of_grown (bR _ _ _) (λq hq=>by cases hq;rfl)));have aj:=U (Box (Vm.setCell ⟨w.heap.size+2,2,N⟩ (I J (mvd l c.base))) (w.heap.size+2) 32 [H S c.ents.length k,H G c.grps.length g,I J (mvd l c.base),I J c.second,I J c.third]) (bi.o.set 2 _);have d:=U (Box (Vm.setCell ⟨w.heap.size+2,2,N⟩ (I J (mvd l c.base))) (w.heap.size+1) 32 [H N 0 0,H N 0 0,I J 0,I J 0,I J 0]) (dS (M.o.below s.o M.o.lt) ⟨w.heap.size+2,2,N⟩ oD_ _);clear yb KM k2 ah s;go_upto_region 21 with(fail)
  obtain⟨Vs,av⟩:=bk;rw[av]at ai aj d|-;clear av f0 g0;obtain⟨g0,g1,g2,g3,g4⟩:=aj.o.k5;have f0:=d.o.free 0;have h0:=d.o.c 0 rfl;have f1:=d.o.free 1;have h1:=d.o.c 1 rfl;have f2:=d.o.free 2;have h2:=d.o.c 2 rfl;have f3:=d.o.free 3;have h3:=d.o.c 3 rfl;have f4:=d.o.free 4;have h4:=d.o.c 4 rfl;have ZF:Box (((((Vs.setCell ⟨w.heap.size+1,0,N⟩ (H S c.ents.length k)).setCell ⟨w.heap.size+1,1,N⟩ (H G c.grps.length g)).setCell ⟨w.heap.size+1,2,N⟩ (I J (mvd l c.base))).setCell ⟨w.heap.size+1,3,N⟩ (I J c.second)).setCell ⟨w.heap.size+1,4,N⟩ (I J c.third)) (w.heap.size+1) 32 [H S c.ents.length k,H G c.grps.length g,I J (mvd l c.base),I J c.second,I J c.third]:=(((((d.o.set 0 (H S c.ents.length k)).set 1 (H G c.grps.length g)).set 2 (I J (mvd l c.base))).set 3 (I J c.second)).set 4 (I J c.third));have ZC:Chg (λq=>q=w.heap.size+1\/q=w.heap.size+2) Vs (((((Vs.setCell ⟨w.heap.size+1,0,N⟩ (H S c.ents.length k)).setCell ⟨w.heap.size+1,1,N⟩ (H G c.grps.length g)).setCell ⟨w.heap.size+1,2,N⟩ (I J (mvd l c.base))).setCell ⟨w.heap.size+1,3,N⟩ (I J c.second)).setCell ⟨w.heap.size+1,4,N⟩ (I J c.third)):=Chg.of_grown (aC (p:=⟨w.heap.size+1,4,N⟩) (aC (p:=⟨w.heap.size+1,3,N⟩) (aC (p:=⟨w.heap.size+1,2,N⟩) (aC (p:=⟨w.heap.size+1,1,N⟩) (aC (p:=⟨w.heap.size+1,0,N⟩) (aP Vs _) _) _) _) _) _) (λq e=>.inl (Option.some.inj e).symm);have a3:∃Wf,(((((Vs.setCell ⟨w.heap.size+1,0,N⟩ (H S c.ents.length k)).setCell ⟨w.heap.size+1,1,N⟩ (H G c.grps.length g)).setCell ⟨w.heap.size+1,2,N⟩ (I J (mvd l c.base))).setCell ⟨w.heap.size+1,3,N⟩ (I J c.second)).setCell ⟨w.heap.size+1,4,N⟩ (I J c.third))=Wf:=⟨_,rfl⟩;have af:=hG_ ZF;have ae:=hG_ ZC;clear ZF ZC;go_wp2_with fail;obtain⟨Wf,ag⟩:=a3;try rw[ag]at af ae|-
  clear ag;obtain⟨z0,z1,z2,z3,z4⟩:=af.o.k5;(try simp only[Exit.inBlock,Exit.then]);refine bodyPost_ret (kT (k:=8) rfl _ _ (b:=w.heap.size+1) rfl z0 z1 z2 z3 z4) rfl ?_;exact bw.o _ _ _ Wf E1.o E2.o E3.o ((ai.o.mono (λq _ e=>.inr e)).trans ae.o)
 by_cases hlv2:lv=2
 ·have q1:(lv==1)=false:=by simp[hlv1]
  have q2:(lv==2)=true:=by simp[hlv2]
  have E1:=U (c.base=if lv=1 then mvd l c.base else c.base) (by rw[if_neg hlv1]);have E2:=U (mvd l c.second=if lv=2 then mvd l c.second else c.second) (by rw[if_pos hlv2]);have E3:=U (c.third=if lv=3 then mvd l c.third else c.third) (by rw[if_neg O]);have KM:=hG_ (λW=>nD c.second l W n3 O);clear hlv1 hlv2;have k3:=b7.o.c 3 rfl;go_wp2_with fail;refine(KM.o wr).mono ?_
  rintro e Vm ⟨rfl,ah⟩;have s:=hG_ ah;have yb:=bb b8.o ah;have bi:=hG_ yb;have f0:=yb.free 3;have g0:=yb.c 3 rfl;have fa:=s.o.size;have bk:∃V,Vm.setCell ⟨w.heap.size+2,3,N⟩ (I J (mvd l c.second))=V:=⟨_,rfl⟩;have ai:=U (Chg (λq=>q=w.heap.size+2) wr (Vm.setCell ⟨w.heap.size+2,3,N⟩ (I J (mvd l c.second)))) ((Chg.of_below s.o).trans (Chg.of_grown (bR _ _ _) (λq hq=>by cases hq;rfl)));have aj:=U (Box (Vm.setCell ⟨w.heap.size+2,3,N⟩ (I J (mvd l c.second))) (w.heap.size+2) 32 [H S c.ents.length k,H G c.grps.length g,I J c.base,I J (mvd l c.second),I J c.third]) (bi.o.set 3 _);have d:=U (Box (Vm.setCell ⟨w.heap.size+2,3,N⟩ (I J (mvd l c.second))) (w.heap.size+1) 32 [H N 0 0,H N 0 0,I J 0,I J 0,I J 0]) (dS (M.o.below s.o M.o.lt) ⟨w.heap.size+2,3,N⟩ oD_ _);clear yb KM k3 ah s;go_upto_region 21 with(fail)
  obtain⟨Vs,av⟩:=bk;rw[av]at ai aj d|-;clear av f0 g0;obtain⟨g0,g1,g2,g3,g4⟩:=aj.o.k5;have f0:=d.o.free 0;have h0:=d.o.c 0 rfl;have f1:=d.o.free 1;have h1:=d.o.c 1 rfl;have f2:=d.o.free 2;have h2:=d.o.c 2 rfl;have f3:=d.o.free 3;have h3:=d.o.c 3 rfl;have f4:=d.o.free 4;have h4:=d.o.c 4 rfl;have ZF:Box (((((Vs.setCell ⟨w.heap.size+1,0,N⟩ (H S c.ents.length k)).setCell ⟨w.heap.size+1,1,N⟩ (H G c.grps.length g)).setCell ⟨w.heap.size+1,2,N⟩ (I J c.base)).setCell ⟨w.heap.size+1,3,N⟩ (I J (mvd l c.second))).setCell ⟨w.heap.size+1,4,N⟩ (I J c.third)) (w.heap.size+1) 32 [H S c.ents.length k,H G c.grps.length g,I J c.base,I J (mvd l c.second),I J c.third]:=(((((d.o.set 0 (H S c.ents.length k)).set 1 (H G c.grps.length g)).set 2 (I J c.base)).set 3 (I J (mvd l c.second))).set 4 (I J c.third));have ZC:Chg (λq=>q=w.heap.size+1\/q=w.heap.size+2) Vs (((((Vs.setCell ⟨w.heap.size+1,0,N⟩ (H S c.ents.length k)).setCell ⟨w.heap.size+1,1,N⟩ (H G c.grps.length g)).setCell ⟨w.heap.size+1,2,N⟩ (I J c.base)).setCell ⟨w.heap.size+1,3,N⟩ (I J (mvd l c.second))).setCell ⟨w.heap.size+1,4,N⟩ (I J c.third)):=Chg.of_grown (aC (p:=⟨w.heap.size+1,4,N⟩) (aC (p:=⟨w.heap.size+1,3,N⟩) (aC (p:=⟨w.heap.size+1,2,N⟩) (aC (p:=⟨w.heap.size+1,1,N⟩) (aC (p:=⟨w.heap.size+1,0,N⟩) (aP Vs _) _) _) _) _) _) (λq e=>.inl (Option.some.inj e).symm);have a3:∃Wf,(((((Vs.setCell ⟨w.heap.size+1,0,N⟩ (H S c.ents.length k)).setCell ⟨w.heap.size+1,1,N⟩ (H G c.grps.length g)).setCell ⟨w.heap.size+1,2,N⟩ (I J c.base)).setCell ⟨w.heap.size+1,3,N⟩ (I J (mvd l c.second))).setCell ⟨w.heap.size+1,4,N⟩ (I J c.third))=Wf:=⟨_,rfl⟩;have af:=hG_ ZF;have ae:=hG_ ZC;clear ZF ZC;go_wp2_with fail;obtain⟨Wf,ag⟩:=a3;try rw[ag]at af ae|-
  clear ag;obtain⟨z0,z1,z2,z3,z4⟩:=af.o.k5;(try simp only[Exit.inBlock,Exit.then]);refine bodyPost_ret (kT (k:=8) rfl _ _ (b:=w.heap.size+1) rfl z0 z1 z2 z3 z4) rfl ?_;exact bw.o _ _ _ Wf E1.o E2.o E3.o ((ai.o.mono (λq _ e=>.inr e)).trans ae.o)
 have q1:(lv==1)=false:=by simp[hlv1]
 have q2:(lv==2)=false:=by simp[hlv2]
 have E1:=U (c.base=if lv=1 then mvd l c.base else c.base) (by rw[if_neg hlv1]);have E2:=U (c.second=if lv=2 then mvd l c.second else c.second) (by rw[if_neg hlv2]);by_cases hlv3:lv=3
 ·have q3:(lv==3)=true:=by simp[hlv3]
  have E3:=U (mvd l c.third=if lv=3 then mvd l c.third else c.third) (by rw[if_pos hlv3]);have KM:=hG_ (λW=>nD c.third l W n5 O);clear hlv1 hlv2 hlv3;have k4:=b7.o.c 4 rfl;go_wp2_with fail;refine(KM.o wr).mono ?_
  rintro e Vm ⟨rfl,ah⟩;have s:=hG_ ah;have yb:=bb b8.o ah;have bi:=hG_ yb;have f0:=yb.free 4;have g0:=yb.c 4 rfl;have fa:=s.o.size;have bk:∃V,Vm.setCell ⟨w.heap.size+2,4,N⟩ (I J (mvd l c.third))=V:=⟨_,rfl⟩;have ai:=U (Chg (λq=>q=w.heap.size+2) wr (Vm.setCell ⟨w.heap.size+2,4,N⟩ (I J (mvd l c.third)))) ((Chg.of_below s.o).trans (Chg.of_grown (bR _ _ _) (λq hq=>by cases hq;rfl)));have aj:=U (Box (Vm.setCell ⟨w.heap.size+2,4,N⟩ (I J (mvd l c.third))) (w.heap.size+2) 32 [H S c.ents.length k,H G c.grps.length g,I J c.base,I J c.second,I J (mvd l c.third)]) (bi.o.set 4 _);have d:=U (Box (Vm.setCell ⟨w.heap.size+2,4,N⟩ (I J (mvd l c.third))) (w.heap.size+1) 32 [H N 0 0,H N 0 0,I J 0,I J 0,I J 0]) (dS (M.o.below s.o M.o.lt) ⟨w.heap.size+2,4,N⟩ oD_ _);clear yb KM k4 ah s;go_upto_region 21 with(fail)
  obtain⟨Vs,av⟩:=bk;rw[av]at ai aj d|-;clear av f0 g0;obtain⟨g0,g1,g2,g3,g4⟩:=aj.o.k5;have f0:=d.o.free 0;have h0:=d.o.c 0 rfl;have f1:=d.o.free 1;have h1:=d.o.c 1 rfl;have f2:=d.o.free 2;have h2:=d.o.c 2 rfl;have f3:=d.o.free 3;have h3:=d.o.c 3 rfl;have f4:=d.o.free 4;have h4:=d.o.c 4 rfl;have ZF:Box (((((Vs.setCell ⟨w.heap.size+1,0,N⟩ (H S c.ents.length k)).setCell ⟨w.heap.size+1,1,N⟩ (H G c.grps.length g)).setCell ⟨w.heap.size+1,2,N⟩ (I J c.base)).setCell ⟨w.heap.size+1,3,N⟩ (I J c.second)).setCell ⟨w.heap.size+1,4,N⟩ (I J (mvd l c.third))) (w.heap.size+1) 32 [H S c.ents.length k,H G c.grps.length g,I J c.base,I J c.second,I J (mvd l c.third)]:=(((((d.o.set 0 (H S c.ents.length k)).set 1 (H G c.grps.length g)).set 2 (I J c.base)).set 3 (I J c.second)).set 4 (I J (mvd l c.third)));have ZC:Chg (λq=>q=w.heap.size+1\/q=w.heap.size+2) Vs (((((Vs.setCell ⟨w.heap.size+1,0,N⟩ (H S c.ents.length k)).setCell ⟨w.heap.size+1,1,N⟩ (H G c.grps.length g)).setCell ⟨w.heap.size+1,2,N⟩ (I J c.base)).setCell ⟨w.heap.size+1,3,N⟩ (I J c.second)).setCell ⟨w.heap.size+1,4,N⟩ (I J (mvd l c.third))):=Chg.of_grown (aC (p:=⟨w.heap.size+1,4,N⟩) (aC (p:=⟨w.heap.size+1,3,N⟩) (aC (p:=⟨w.heap.size+1,2,N⟩) (aC (p:=⟨w.heap.size+1,1,N⟩) (aC (p:=⟨w.heap.size+1,0,N⟩) (aP Vs _) _) _) _) _) _) (λq e=>.inl (Option.some.inj e).symm);have a3:∃Wf,(((((Vs.setCell ⟨w.heap.size+1,0,N⟩ (H S c.ents.length k)).setCell ⟨w.heap.size+1,1,N⟩ (H G c.grps.length g)).setCell ⟨w.heap.size+1,2,N⟩ (I J c.base)).setCell ⟨w.heap.size+1,3,N⟩ (I J c.second)).setCell ⟨w.heap.size+1,4,N⟩ (I J (mvd l c.third)))=Wf:=⟨_,rfl⟩;have af:=hG_ ZF;have ae:=hG_ ZC;clear ZF ZC;go_wp2_with fail;obtain⟨Wf,ag⟩:=a3;try rw[ag]at af ae|-
  clear ag;obtain⟨z0,z1,z2,z3,z4⟩:=af.o.k5;(try simp only[Exit.inBlock,Exit.then]);refine bodyPost_ret (kT (k:=8) rfl _ _ (b:=w.heap.size+1) rfl z0 z1 z2 z3 z4) rfl ?_;exact bw.o _ _ _ Wf E1.o E2.o E3.o ((ai.o.mono (λq _ e=>.inr e)).trans ae.o)
 have q3:(lv==3)=false:=by simp[hlv3]
 have E3:=U (c.third=if lv=3 then mvd l c.third else c.third) (by rw[if_neg hlv3]);clear hlv1 hlv2 hlv3;obtain⟨Vs,rfl⟩:∃V,V=wr:=⟨_,rfl⟩;have ai:=hG_ (Chg.refl (λq=>q=w.heap.size+2) Vs);have aj:=b8;have d:=M;have hn:w.heap.size+1<Vs.heap.size:=fc;go_upto_region 21 with(fail)
 obtain⟨g0,g1,g2,g3,g4⟩:=aj.o.k5;have f0:=d.o.free 0;have h0:=d.o.c 0 rfl;have f1:=d.o.free 1;have h1:=d.o.c 1 rfl;have f2:=d.o.free 2;have h2:=d.o.c 2 rfl;have f3:=d.o.free 3;have h3:=d.o.c 3 rfl;have f4:=d.o.free 4;have h4:=d.o.c 4 rfl;have ZF:Box (((((Vs.setCell ⟨w.heap.size+1,0,N⟩ (H S c.ents.length k)).setCell ⟨w.heap.size+1,1,N⟩ (H G c.grps.length g)).setCell ⟨w.heap.size+1,2,N⟩ (I J c.base)).setCell ⟨w.heap.size+1,3,N⟩ (I J c.second)).setCell ⟨w.heap.size+1,4,N⟩ (I J c.third)) (w.heap.size+1) 32 [H S c.ents.length k,H G c.grps.length g,I J c.base,I J c.second,I J c.third]:=(((((d.o.set 0 (H S c.ents.length k)).set 1 (H G c.grps.length g)).set 2 (I J c.base)).set 3 (I J c.second)).set 4 (I J c.third));have ZC:Chg (λq=>q=w.heap.size+1\/q=w.heap.size+2) Vs (((((Vs.setCell ⟨w.heap.size+1,0,N⟩ (H S c.ents.length k)).setCell ⟨w.heap.size+1,1,N⟩ (H G c.grps.length g)).setCell ⟨w.heap.size+1,2,N⟩ (I J c.base)).setCell ⟨w.heap.size+1,3,N⟩ (I J c.second)).setCell ⟨w.heap.size+1,4,N⟩ (I J c.third)):=Chg.of_grown (aC (p:=⟨w.heap.size+1,4,N⟩) (aC (p:=⟨w.heap.size+1,3,N⟩) (aC (p:=⟨w.heap.size+1,2,N⟩) (aC (p:=⟨w.heap.size+1,1,N⟩) (aC (p:=⟨w.heap.size+1,0,N⟩) (aP Vs _) _) _) _) _) _) (λq e=>.inl (Option.some.inj e).symm);have a3:∃Wf,(((((Vs.setCell ⟨w.heap.size+1,0,N⟩ (H S c.ents.length k)).setCell ⟨w.heap.size+1,1,N⟩ (H G c.grps.length g)).setCell ⟨w.heap.size+1,2,N⟩ (I J c.base)).setCell ⟨w.heap.size+1,3,N⟩ (I J c.second)).setCell ⟨w.heap.size+1,4,N⟩ (I J c.third))=Wf:=⟨_,rfl⟩;have af:=hG_ ZF;have ae:=hG_ ZC;clear ZF ZC;go_wp2_with fail;obtain⟨Wf,ag⟩:=a3;try rw[ag]at af ae|-
 clear ag;obtain⟨z0,z1,z2,z3,z4⟩:=af.o.k5;(try simp only[Exit.inBlock,Exit.then]);refine bodyPost_ret (kT (k:=8) rfl _ _ (b:=w.heap.size+1) rfl z0 z1 z2 z3 z4) rfl ?_;exact bw.o _ _ _ Wf E1.o E2.o E3.o ((ai.o.mono (λq _ e=>.inr e)).trans ae.o)
theorem nT{ev:Operand->Value}{o:Oper}{k:Nat}{w:Wv}{gp gs gt:Int}{gv:Bool}(ho:o.op=.buildSlice 54 1 #[(0,.tmp k)])(h:ev (.tmp k)=.agg #[I J gp,I J gs,I J gt,.bool gv]):
  (execOp ev o).run prog w=.ok (.value (H (Z ⟨w.heap.size,0,N⟩) 1 1)) (w.alloc (.cells #[I J gp,I J gs,I J gt,.bool gv] 77)):=by
 obtain⟨d,op,ty,af,gd⟩:=o;dsimp only at ho;subst ho;simp only[execOp];go_simp
theorem lG{ev:Operand->Value}{o:Oper}{k l:Nat}{w:Wv}{A B:Oa}{n m p q:Nat}(ho:o.op=.build 75 #[(0,.tmp k),(1,.tmp l)])(hk:ev (.tmp k)=H A n p)(hl:ev (.tmp l)=H B m q):
  (execOp ev o).run prog w=.ok (.value (.agg #[H A n p,H B m q])) w:=by
 obtain⟨d,op,ty,af,gd⟩:=o;dsimp only at ho;subst ho;simp only[execOp];go_simp
theorem lH{ev:Operand->Value}{o:Oper}{k l:Nat}{w:Wv}{A B:Oa}{n m p q xb:Nat}{u v:Value}(ho:o.op=.store 75 (.tmp k) (.tmp l))(hk:ev (.tmp k)=.pointer (Z ⟨xb,0,N⟩))(hl:ev (.tmp l)=.agg #[H A n p,H B m q])
  (y0:w.cell? ⟨xb,0,N⟩=Z u) (z0:w.frozen? ⟨xb,0,N⟩=false) (y1:w.cell? ⟨xb,1,N⟩=Z v) (z1:w.frozen? ⟨xb,1,N⟩=false) :
  (execOp ev o).run prog w=.ok .skip ((w.setCell ⟨xb,0,N⟩ (H A n p)).setCell ⟨xb,1,N⟩ (H B m q)):=by
 obtain⟨d,op,ty,af,gd⟩:=o;dsimp only at ho;subst ho;simp only[execOp,hk,hl];go_simp
end
end Go.Proofs.YtkhmjidaeliccaaGreatDoor
