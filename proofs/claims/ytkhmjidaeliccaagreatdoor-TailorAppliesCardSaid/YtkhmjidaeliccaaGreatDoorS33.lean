import Derived.Test.YtkhmjidaeliccaaGreatDoorS27
import Derived.Test.YtkhmjidaeliccaaGreatDoorS28
import Derived.Test.YtkhmjidaeliccaaGreatDoorS32
set_option maxRecDepth 100000
set_option maxHeartbeats 51200000
namespace Go.Proofs.YtkhmjidaeliccaaGreatDoor
open Option renaming none->N,some->Z
open Value renaming int->I,slice->H
open IntKind renaming i64->J
open Go.Proofs.Tryz
section
open Go.RowKit Go.Maps Go.WideMaps Tl
theorem iQ(Z:Nat->Prop)(w:Wv):cR Z w N N col0:=⟨⟨[],rfl,⟨Sl.nil _ _,λh=>absurd rfl h⟩,λi hi=>absurd hi (by simp[col0])⟩,⟨Sl.nil _ _,λh=>absurd rfl h⟩,λg hg=>by simp[col0]at hg⟩
def rE(r:Int×Col)(w:Wv)(e:Ending)(w':Wv):Prop:=∃A a B b,e=.returned (.tuple #[aJ A r.2.ents.length a B r.2.grps.length b r.2,I J r.1])/\cR (λq=>q<w.heap.size) w' A B r.2/\By w w'
theorem lfE{r:Int×Col}{k:Int}{w W V:Wv}(h:r=(k,col0))(hb:By w W)(hc:Chg (λq=>q=w.heap.size+3) W V):rE r w (.returned (.tuple #[.agg #[H N 0 0,H N 0 0,I J 0,I J 0,I J 0],I J k])) V:=by
 subst h;exact⟨N,0,N,0,rfl,iQ _ _,gN hb hc O⟩
theorem sF{c:Col}(h:aK c=0)(k:Int):(∀x∈c.ents,∀e∈x.elems,0<=wt k e/\wt k e<=1048576)/\(∀g∈c.grps,(0<=g.lo/\g.lo<=1048576)/\(0<=g.hi/\g.hi<=1048576))/\((0<=c.base/\c.base<=1048576)/\(0<=c.second/\c.second<=1048576)/\(0<=c.third/\c.third<=1048576)):=by
 obtain⟨a,b,d,f,i⟩:=kN h;obtain⟨-,-,hg,-⟩:=sZ a;refine⟨λx hx e he=>?_,λg hgm=>?_,O⟩
 ·have:=uZ (k:=k) (((ent_iff c.base x).1 (ents_all (fC h) x hx)).ev e he)
  omega
 have:=hg g hgm;omega
theorem YY{w:Wv}{A:Oa}{xs ys:Lv}(h:Sl w A (xs++ys)):Sl w A xs:=λhne=>by
 obtain⟨b,o,rfl,hc⟩:=h (by simp[hne]);exact⟨b,o,rfl,λj u hu=>hc j u (by rw[List.getElem?_append_left (List.getElem?_eq_some_iff.1 hu).1];exact hu)⟩
theorem TK{lv ll:Int}{R:Col}{ep es2 et fp fs ft gp gs gt fs2:Int}{ev fv gv:Bool}(hl:lv=1\/lv=2\/lv=3)(h1:setW lv ⟨ep,es2,et,ev⟩ ll=⟨fp,fs,ft,fv⟩)(h2:newE lv ll R ⟨ep,es2,et,ev⟩=⟨gp,gs,gt,gv⟩)(h3:(if lv<2 then R.second else fs)=fs2):
  [Value.int .i64 fp,I J fs2,I J (if lv<3 then R.third else ft),.bool fv]=[I J gp,I J gs,I J gt,.bool gv]:=by
 unfold setW at h1;unfold newE at h2;subst h3;rcases hl with rfl|rfl|rfl
 ·simp at h1 h2
  obtain⟨rfl,rfl,rfl,rfl⟩:=h1;obtain⟨rfl,rfl,rfl,rfl⟩:=h2;simp
 ·simp at h1 h2
  obtain⟨rfl,rfl,rfl,rfl⟩:=h1;obtain⟨rfl,rfl,rfl,rfl⟩:=h2;simp
 simp at h1 h2;obtain⟨rfl,rfl,rfl,rfl⟩:=h1;obtain⟨rfl,rfl,rfl,rfl⟩:=h2;simp
theorem CZ(A0:Oa)(n0 k0:Nat)(A1:Oa)(n1 k1:Nat)(A2:Oa)(n2 k2:Nat)(x:Nrm)(C:Oa)(n a:Nat)(B:Oa)(m b:Nat)(c:Col)(P:Oa)(pn pk:Nat)(Q:Oa)(qn qk:Nat)(t:Tlr)(w:Wv)(hN:cB w A0 n0 A1 n1 A2 n2 x)(hz:cZ x)(hC:aO w C n B m c)(hcz:aQ c)(hP:aA w P t.anc)(hQ:aA w Q t.cds)(hpn:t.anc.length=pn)(hqn:t.cds.length=qn)(hpl:pn<=1024)(hql:qn<=1024):
  Calls prog 14 #[.agg #[H A0 n0 k0,H A1 n1 k1,H A2 n2 k2],aJ C n a B m b c,.agg #[H P pn pk,H Q qn qk,I J t.lvl,.bool t.bef]] w (rE (cO x c t) w):=by
 obtain⟨anc,cds,lv,bf⟩:=t;dsimp only at hP hQ hpn hqn|-;have ku:=al4 w 28 [H A0 n0 k0,H A1 n1 k1,H A2 n2 k2] 32 [H C n a,H B m b,I J c.base,I J c.second,I J c.third] 35 [H P pn pk,H Q qn qk,I J lv,.bool bf] 32 [H N 0 0,H N 0 0,I J 0,I J 0,I J 0];have K1:=G (λW(hb:By w W)=>BM A0 n0 k0 A1 n1 k1 A2 n2 k2 x W (hN.below hb) hz);have K2:=G (λW(hb:By w W)=>uG C n a B m b c W (hC.below hb) hcz);have K3:=G (λW=>zAo P pn pk Q qn qk ⟨anc,cds,lv,bf⟩ W);have K4:=G (λW(hb:By w W)=>BZ P pn pk anc W (hP.below hb) hpn O);have K5:=G (λW(hb:By w W)=>BZ Q qn qk cds W (hQ.below hb) hqn O)
 have K6:=U (∀W,By w W->Calls prog 45 #[.agg #[H A0 n0 k0,H A1 n1 k1,H A2 n2 k2],H Q qn qk,.bool false] W (fR (dtx x false cds) W)) (λW hb=>by
  have h:=BQ A0 n0 k0 A1 n1 k1 A2 n2 k2 x Q qn qk cds false W (hN.below hb) hz (hQ.below hb) hqn O
  have e:Can.srt (clz (usN x).cls) (flM (usN x) false cds)=dtx x false cds:=by unfold dtx;rw[rZ]
  rw[e]at h
  exact h)
 have K7:=G (λW(hb:By w W)=>VV A0 n0 k0 A1 n1 k1 A2 n2 k2 x C n a B m b c P pn pk anc W (hN.below hb) hz (hC.below hb) hcz (hP.below hb) hpn O);have K8:=G (λW(hb:By w W)=>XH A0 n0 k0 A1 n1 k1 A2 n2 k2 x C n a B m b c P pn pk anc W (hN.below hb) hz (hC.below hb) hcz (hP.below hb) hpn O);have K9:=G (λW(hb:By w W)(hc:aK c=0)(Y:Nat->Prop)k wv l(hY:∀q,Y q->q<W.heap.size)(cx:0<=wv/\wv<=1048576)=>XK Y C a B b c k wv l W hY (show aO W C c.ents.length B c.grps.length c from⟨(hC.below hb).ents,(hC.below hb).grps,rfl,rfl,hC.hs⟩) hcz (sF hc k).1 (sF hc k).2.1 (sF hc k).2.2 cx);have e2:=U ((aT x c anc).length<=1048576) (by have:=sJ x c anc;omega);have dv:=G hC.hn;have du:=G hC.hm;have ex:=G hcz;unfold aU at K1 K2;unfold c_ at K3 K8;dsimp only at K3;unfold fR at K6;unfold jO at K7;unfold aJ at K2 K7 K8|-;obtain⟨r,hr⟩:=exQ (cO x c ⟨anc,cds,lv,bf⟩);have fd:=U (r=stepP x c ⟨anc,cds,lv,bf⟩) (by rw[<-hr,uR]);rw[hr];have hR:stepP x c ⟨anc,cds,lv,bf⟩=if bW x≠0 then(bW x,col0)else if aK c≠0 then(aK c,col0)else if kndT ⟨anc,cds,lv,bf⟩=false then(8,col0)else if rngT anc=false\/rngT cds=false then(1,col0)else stepB (dtx x false cds) (dO x c anc) (aT x c anc) c ⟨anc,cds,lv,bf⟩:=rfl;have ci:=G (fd.o.trans hR);have e9:=G (λ(h:aK c=0) (h2:dO x c anc=true)=>(vO h h2).2);clear hr hR hN hC hP hQ hz hcz fd hpn hqn hpl hql;go_enter func14,ntmps14;go_upto_region 1 with(fail)
 obtain⟨W0,jf,F0⟩:=ku;try rw[jf]
 clear jf;rw[show w.heap.size+1+1=w.heap.size+2 from rfl];try rw[show w.heap.size+2+1=w.heap.size+3 from rfl]
 have l3:=F0.x3.lt;have dl:=G F0;clear F0;obtain⟨fl,fm,fn,fo,fq,fr,fu,fw,fx,fy,fz,f5⟩:=dl.o.cs;have C1:=G (K1.o W0 dl.o.B);clear K1;generalize bW x=en at *;go_wp2_with fail;refine C1.o.mono ?_
 rintro e Wa ⟨rfl,o⟩;have bk:=G (dl.o.go o);clear o C1 fl fm fn fo fq fr fu fw fx fy fz f5;by_cases q1:en=0
 ·have cj:=G (ci.o.trans (if_neg (by simp[q1])))
  have d1:(en !=0)=false:=by simp[q1]
  clear q1 ci;obtain⟨f6,f7,f8,f9,ga,gb,gc,gd,gf,gg,gh,gj⟩:=bk.o.cs;have C2:=G (K2.o Wa bk.o.B);clear K2;obtain⟨ec,ea⟩:=exQ (aK c);rw[ea]at C2;have A:=G ea;clear ea;go_wp2_with fail;refine C2.o.mono ?_
  rintro e Wb ⟨rfl,o⟩;have ca:=G (bk.o.go o);clear o C2 f6 f7 f8 f9 ga gb gc gd gf gg gh gj;by_cases q2:ec=0
  ·have a1:=U (aK c=0) (by rw[A.o];exact q2)
   have bw:=G (cj.o.trans (if_neg (by rw[a1.o];simp)));have d2:(ec !=0)=false:=by simp[q2]
   clear q2 cj A;obtain⟨gk,gl,gm,gn,gq,gr,gu,gw,gx,gy,gz,g5⟩:=ca.o.cs;have C3:=G (K3.o Wb);clear K3;obtain⟨kt,ed⟩:=exQ (kndT ⟨anc,cds,lv,bf⟩);rw[ed]at C3 bw;have kl:=G ed;clear ed;go_wp2_with fail;refine C3.o.mono ?_
   rintro e Wc ⟨rfl,o⟩;have T:=G (ca.o.go o);clear o C3 gk gl gm gn gq gr gu gw gx gy gz g5;cases kt with
   |false=>
    have X:=G (bw.o.trans (if_pos rfl));clear bw;obtain⟨f0,f1,f2,f3,f4,g0,g1,g2,g3,g4,WE⟩:=zl5 T.o.x3;go_wp2_with fail;obtain⟨Wf,v,ZF,K⟩:=WE;try rw[v]
    clear v;(try simp only[Exit.inBlock,Exit.then]);refine bodyPost_ret (gZ rfl _ _ rfl rfl ZF) rfl ?_;exact lfE X.o T.o.B K
   |true=>
    have a3:=G (bw.o.trans (if_neg L));clear bw;obtain⟨g6,g7,g8,g9,ha,hd,hg,hh,hi,hk,hm,hn⟩:=T.o.cs;have C4:=G (K4.o Wc T.o.B);have C5:=G (K5.o Wc T.o.B);clear K4 K5;generalize rngT anc=ra at *;generalize rngT cds=rd at *;go_wp2_with fail;refine C4.o.mono ?_
    rintro e W1 ⟨rfl,rfl⟩;clear C4;cases ra with
    |false=>
     have X:=G (a3.o.trans (if_pos (.inl rfl)));clear a3 C5;obtain⟨f0,f1,f2,f3,f4,g0,g1,g2,g3,g4,WE⟩:=zl5 T.o.x3;go_wp2_with fail;obtain⟨Wf,v,ZF,K⟩:=WE;try rw[v]
     clear v;(try simp only[Exit.inBlock,Exit.then]);refine bodyPost_ret (gZ rfl _ _ rfl rfl ZF) rfl ?_;exact lfE X.o T.o.B K
    |true=>
     go_wp2_with fail;refine C5.o.mono ?_
     rintro e W1 ⟨rfl,rfl⟩;clear C5;cases rd with
     |false=>
      have X:=G (a3.o.trans (if_pos (.inr rfl)));clear a3;obtain⟨f0,f1,f2,f3,f4,g0,g1,g2,g3,g4,WE⟩:=zl5 T.o.x3;go_wp2_with fail;obtain⟨Wf,v,ZF,K⟩:=WE;try rw[v]
      clear v;(try simp only[Exit.inBlock,Exit.then]);refine bodyPost_ret (gZ rfl _ _ rfl rfl ZF) rfl ?_;exact lfE X.o T.o.B K
     |true=>
      have bx:=G (a3.o.trans (if_neg L));clear a3;have C6:=G (K6.o Wc T.o.B);clear K6;generalize dtx x false cds=d at *;go_wp2_with fail;refine C6.o.mono ?_
      rintro e Wd ⟨D,dk,rfl,jc,o⟩;have ap:=G (T.o.go o);have HD:=G jc;have mj:=T.o.B.size;have LC:=T.o.x3.lt;clear o jc C6 g6 g7 g8 g9 ha hd hg hh hi hk hm hn;by_cases q4:8<d.length
      ·have d4:decide ((8:Int)<(d.length:Int))=true:=oU_
       have X:=U (r=(2,col0)) (by rw[bx.o];unfold stepB;rw[if_pos q4]);clear q4;obtain⟨f0,f1,f2,f3,f4,g0,g1,g2,g3,g4,WE⟩:=zl5 ap.o.x3;go_wp2_with fail;obtain⟨Wf,v,ZF,K⟩:=WE;try rw[v]
       clear v;(try simp only[Exit.inBlock,Exit.then]);refine bodyPost_ret (gZ rfl _ _ rfl rfl ZF) rfl ?_;exact lfE X.o ap.o.B K
      have d4:decide ((8:Int)<(d.length:Int))=false:=oU_;have ce:=G q4;clear q4;obtain⟨ho,hp,hs,ht,hu,hv,hw,hx,hy,h0,h3,h4⟩:=ap.o.cs;have C7:=G (K7.o Wd ap.o.B);clear K7;have ds:=U (∀W,By w W->Calls prog 48 #[.agg #[H A0 n0 k0,H A1 n1 k1,H A2 n2 k2],.agg #[H C n a,H B m b,I J c.base,I J c.second,I J c.third],H P pn pk] W (c_ (dO x c anc) W)) (λW hb=>K8.o W hb);clear K8;generalize aT x c anc=es at *;generalize dO x c anc=kn at *;go_wp2_with fail;refine C7.o.mono ?_
      rintro e We ⟨E,ek,rfl,jd,o⟩;have em:=G (ap.o.go o);have ka:=G (aG HD.o o);have e3:=G jd;have mk:=ap.o.B.size;have LD:=ap.o.x3.lt;clear o jd C7 ho hp hs ht hu hv hw hx hy h0 h3 h4;obtain⟨h5,h6,h7,h8,h9,ia,ib,ic,id,ie,ig,ih⟩:=em.o.cs;have C8:=G (XI E ek es lv We (Sl.of_own e3.o) e2.o);unfold aU at C8;obtain⟨av,d0⟩:=exQ (((lstK lv es es.length:Nat):Int)-1);rw[d0]at C8;have cc:=G d0;clear d0;go_wp2_with fail;refine C8.o.mono ?_
      rintro e Wf ⟨rfl,o⟩;have dm:=G (em.o.go o);have kb:=G (aG ka.o o);have kg:=G (aG e3.o o);clear o C8 h5 h6 h7 h8 h9 ia ib ic id ie ig ih;obtain⟨ii,ij,ik,il,im,io,ip,iq,ir,it,iu,iv⟩:=dm.o.cs;have C9:=G (ds.o Wf dm.o.B);clear ds;unfold c_ at C9;go_wp2_with fail;refine C9.o.mono ?_
      rintro e Wg ⟨rfl,o⟩;have z:=G (dm.o.go o);have ey:=G (aG kb.o o);have bs:=G (aG kg.o o);clear o C9 ii ij ik il im io ip iq ir it iu iv;cases kn with
      |false=>
       have X:=U (r=(7,col0)) (by rw[bx.o];unfold stepB;rw[if_neg ce.o,if_pos (.inl rfl)]);clear bx;obtain⟨f0,f1,f2,f3,f4,g0,g1,g2,g3,g4,WE⟩:=zl5 z.o.x3;go_wp2_with fail;obtain⟨Wf,v,ZF,K⟩:=WE;try rw[v]
       clear v;(try simp only[Exit.inBlock,Exit.then]);refine bodyPost_ret (gZ rfl _ _ rfl rfl ZF) rfl ?_;exact lfE X.o z.o.B K
      |true=>
       have dp:=U (AncOk c.base es) (e9.o a1.o rfl);clear e9
       have ck:=U (r=if 0<lv/\lstK lv es es.length=0 then(7,col0)else if lv=0 then(if 16<es.length then(2,col0)else(0,{ c with ents:=putE c.ents ⟨d,es⟩ }))else if 16<lstK lv es es.length then(2,col0)else if overC (roomT ⟨anc,cds,lv,bf⟩ es c)=true\/(newL ⟨anc,cds,lv,bf⟩ es c).any bigE=true then(13,col0)else(0,{ roomT ⟨anc,cds,lv,bf⟩ es c with ents:=putE (roomT ⟨anc,cds,lv,bf⟩ es c).ents ⟨d,newL ⟨anc,cds,lv,bf⟩ es c⟩ })) (by
        rw[bx.o]
        unfold stepB
        rw[if_neg ce.o]
        by_cases hq:0<lv/\lstK lv es es.length=0
        ·rw[if_pos hq,if_pos (.inr hq)]
        ·rw[if_neg hq,if_neg (by rintro(h|h);exact absurd h oV_;exact hq h)])
       clear bx
       have cg:=U (0<=lv/\lv<=3) (by
        have h:=kl.o
        unfold kndT at h
        simp only[Bool.and_eq_true,decide_eq_true_eq]at h
        omega)
       obtain⟨c7,c8,c9,da,db,dc,dd,de,df,dg,dh,di⟩:=z.o.cs;by_cases q5:lv=0
       ·have d5:decide ((0:Int)<lv)=false:=oU_
        have d6:(lv==0)=true:=by simp[q5]
        have an:=G (ck.o.trans ((if_neg O).trans (if_pos q5)));clear q5 ck;by_cases q6:16<es.length
        ·have d7:decide ((16:Int)<(es.length:Int))=true:=oU_
         have X:=G (an.o.trans (if_pos q6));clear q6;obtain⟨f0,f1,f2,f3,f4,g0,g1,g2,g3,g4,WE⟩:=zl5 z.o.x3;go_wp2_with fail;obtain⟨Wf,v,ZF,K⟩:=WE;try rw[v]
         clear v;(try simp only[Exit.inBlock,Exit.then]);refine bodyPost_ret (gZ rfl _ _ rfl rfl ZF) rfl ?_;exact lfE X.o z.o.B K
        have d7:decide ((16:Int)<(es.length:Int))=false:=oU_;have bq:=G (an.o.trans (if_neg q6));have lz:=G q6;clear q6 an;have ad:=K9.o Wg z.o.B a1.o (λq=>q<w.heap.size+4) 0 0 0 (λq hq=>by have:=z.o.x3.lt;omega) O;rw[room_0]at ad;unfold kZ aJ at ad;rw[dv.o,du.o]at ad;have b0:=G ad;clear ad K9;go_wp2_with fail;refine b0.o.mono ?_
        rintro e Wh ⟨A',a',B',b',rfl,b4,o⟩;have aj:=G (z.o.go o);have dw:=G (aG ey.o o);have dx:=G (aG bs.o o);have j8:=G b4;clear o b4 b0 c7 c8 c9 da db dc dd de df dg dh di;have M:=CY (λq=>q<w.heap.size+4) A' a' B' b' c D dk E ek ⟨d,es⟩ Wh (λq hq=>by have:=aj.o.x3.lt;omega) j8.o ex.o (SlN.own dw.o (λq hq=>O)) (SlN.own dx.o (λq hq=>O)) (by have:=ce.o;show d.length<=1048576;omega);rw[putF_eq (mC (fC a1.o)).1]at M;obtain⟨R,hR⟩:∃R:Col,{ c with ents:=putE c.ents ⟨d,es⟩ }=R:=⟨_,rfl⟩;have b1:(⟨putE c.ents ⟨d,es⟩,c.grps,c.base,c.second,c.third⟩:Col)=R:=hR;rw[b1]at M;have X:=U (r=(0,R)) (by rw[bq.o,hR]);unfold kZ aJ at M;rw[dv.o,du.o]at M;have bt:=G M;clear M hR b1 bq;go_wp2_with fail;refine bt.o.mono ?_
        rintro e Wi ⟨A9,a9,B9,b9,rfl,b3,o⟩;have bl:=G (aj.o.go o);have dr:=G b3;clear o b3 bt;obtain⟨f0,f1,f2,f3,f4,g0,g1,g2,g3,g4,WE⟩:=sl5 (H A9 R.ents.length a9) (H B9 R.grps.length b9) (I J R.base) (I J R.second) (I J R.third) bl.o.x3;go_wp2_with fail;obtain⟨Wf,v,ZF,K⟩:=WE;try rw[v]
        clear v;(try simp only[Exit.inBlock,Exit.then]);refine bodyPost_ret (gZ rfl _ _ rfl rfl ZF) rfl ?_;rw[X.o];exact⟨_,_,_,_,rfl,(dr.o.chg (K.mono (λq _(e:q=w.heap.size+3)=>show q<w.heap.size+4 by omega))).mono (λq(hq:q<w.heap.size)=>show q<w.heap.size+4 by omega),gN bl.o.B K O⟩
       have d5:decide ((0:Int)<lv)=true:=by have:=cg.o;simp;omega
       have d6:(lv==0)=false:=by simp[q5]
       have km:=U (lv=1\/lv=2\/lv=3) (by have:=cg.o;omega)
       have an:=U (r=if lstK lv es es.length=0 then(7,col0)else if 16<lstK lv es es.length then(2,col0)else if overC (roomT ⟨anc,cds,lv,bf⟩ es c)=true\/(newL ⟨anc,cds,lv,bf⟩ es c).any bigE=true then(13,col0)else(0,{ roomT ⟨anc,cds,lv,bf⟩ es c with ents:=putE (roomT ⟨anc,cds,lv,bf⟩ es c).ents ⟨d,newL ⟨anc,cds,lv,bf⟩ es c⟩ })) (by
        have hl:=cg.o
        rw[ck.o]
        by_cases hq:lstK lv es es.length=0
        ·rw[if_pos ⟨O,hq⟩,if_pos hq]
        ·rw[if_neg (λh=>hq h.2),if_neg q5,if_neg hq])
       clear q5 ck cg;by_cases q6:lstK lv es es.length=0
       ·have d7:decide (av<0)=true:=by have:=cc.o;simp;omega
        have X:=G (an.o.trans (if_pos q6));clear q6 an cc;obtain⟨f0,f1,f2,f3,f4,g0,g1,g2,g3,g4,WE⟩:=zl5 z.o.x3;go_wp2_with fail;obtain⟨Wf,v,ZF,K⟩:=WE;try rw[v]
        clear v;(try simp only[Exit.inBlock,Exit.then]);refine bodyPost_ret (gZ rfl _ _ rfl rfl ZF) rfl ?_;exact lfE X.o z.o.B K
       obtain⟨j,hj⟩:∃j,lstK lv es es.length=j+1:=⟨lstK lv es es.length-1,O⟩;have cw:j<es.length:=by have:=lstK_le lv es es.length;omega
       have ml:j<1048576:=by have:=e2.o;omega
       obtain rfl:av=(j:Int):=by have:=cc.o;omega
       have d7:decide ((j:Int)<0)=false:=L;have s:=G hj;have eg:=an.o;rw[hj,if_neg O]at eg;have cl:=G eg;clear eg;clear q6 an cc hj;by_cases q7:16<j+1
       ·have d8:decide ((16:Int)<(j:Int)+1)=true:=oU_
        have X:=G (cl.o.trans (if_pos q7));clear q7 cl;obtain⟨f0,f1,f2,f3,f4,g0,g1,g2,g3,g4,WE⟩:=zl5 z.o.x3;go_wp2_with fail;obtain⟨Wf,v,ZF,K⟩:=WE;try rw[v]
        clear v;(try simp only[Exit.inBlock,Exit.then]);refine bodyPost_ret (gZ rfl _ _ rfl rfl ZF) rfl ?_;exact lfE X.o z.o.B K
       have d8:decide ((16:Int)<(j:Int)+1)=false:=oU_;have fe:=G (cl.o.trans (if_neg q7));clear q7 cl;obtain⟨qe,rfl,lr,ls⟩:=jF bs.o O;have br:=U (es[j]=atE lv es) (by unfold atE;rw[s.o];show es[j]=es.getD j _;rw[List.getD_eq_getElem?_getD,List.getElem?_eq_getElem cw,Option.getD_some]);have bm:=U (wt lv es[j]=atW lv es) (by unfold atW;rw[<-br.o]);have A:=U (∀W',By Wg W'->∀f,(hf:f<4)->W'.cell? ⟨qe,j*4+f,N⟩=es[j].cells[f]?) (λW' hb f hf=>((aG bs.o hb).cellAt (j*4+f) (by have:=cw;omega)).trans (gR Elt.cells 4 (λ_=>rfl) es j f cw hf))
       have co:=U (1<=wt lv es[j]/\wt lv es[j]<=65535) (by
        have h1:=(atW_pos (base:=c.base) dp.o (show 0<lstK lv es es.length from by rw[s.o];omega)).1
        have h2:=uZ (k:=lv) (dp.o _ (List.getElem_mem cw)).1
        rw[<-bm.o]at h1
        omega)
       have KW:=G (λW=>uJ es[j] lv W);unfold aU kO at KW;obtain⟨ee,jh⟩:=exQ (es[j]);rw[jh]at br bm A co KW;clear jh;obtain⟨wv,cx⟩:=exQ (wt lv ee);rw[cx]at bm co KW;clear cx;obtain⟨ep,ai,et,ev⟩:=ee;dsimp only at KW;have SH:=G (λ(W':Wv) (hb:By Wg W')=>show W'.cell? ⟨qe,j*4,N⟩=Z (I J ep)/\W'.cell? ⟨qe,j*4+1,N⟩=Z (I J ai)/\W'.cell? ⟨qe,j*4+2,N⟩=Z (I J et)/\W'.cell? ⟨qe,j*4+3,N⟩=Z (.bool ev)/\W'.cell? ⟨w.heap.size+2,2,N⟩=Z (I J lv)/\By Wg W' from⟨A.o W' hb 0 O,A.o W' hb 1 O,A.o W' hb 2 O,A.o W' hb 3 O,(z.o.x2.below hb z.o.x2.lt).c 2 rfl,hb⟩);have mm:(j:Int)<(es.length:Int):=O;have ln:=oE bs.o;go_upto_region 24 with(fail)
       clear c7 c8 c9 da db dc dd de df dg dh di;have bn:=G (Below.refl Wg.heap.size Wg).drew;refine wp_region_held_drew (S:=λW'=>W'.cell? ⟨qe,j*4,N⟩=Z (I J ep)/\W'.cell? ⟨qe,j*4+1,N⟩=Z (I J ai)/\W'.cell? ⟨qe,j*4+2,N⟩=Z (I J et)/\W'.cell? ⟨qe,j*4+3,N⟩=Z (.bool ev)/\W'.cell? ⟨w.heap.size+2,2,N⟩=Z (I J lv)/\By Wg W') oK_ (SH.o _ (bn.o)) (λg=>?_);refine tK 0 96 ?_;refine tK 1 97 ?_;refine tK 2 98 ?_;refine tK 3 99 ?_;refine tK 4 100 ?_;refine tK 5 101 ?_;refine qE 6 102 (((KW.o _).mono (R':=λe W'=>∃vv,e=.returned vv/\(W'.cell? ⟨qe,j*4,N⟩=Z (I J ep)/\W'.cell? ⟨qe,j*4+1,N⟩=Z (I J ai)/\W'.cell? ⟨qe,j*4+2,N⟩=Z (I J et)/\W'.cell? ⟨qe,j*4+3,N⟩=Z (.bool ev)/\W'.cell? ⟨w.heap.size+2,2,N⟩=Z (I J lv)/\By Wg W')/\(vv=I J wv/\By Wg W')) (λe W'⟨he,hb⟩=>⟨_,he,SH.o W' (tb bn.o hb),rfl,tb bn.o hb⟩))) ?_;clear g;rintro _ Wh g ⟨rfl,dj⟩;have cy:=G dj;clear dj;refine tK 7 13 ?_;refine wpAnyH_done oK_ ?_ _;have ax:=G (cy.o);clear g cy KW SH;have aj:=G (z.o.go ax.o);have dw:=G (aG ey.o ax.o);have dx:=G (aG bs.o ax.o);have k4:=aj.o.x2.c 3 rfl;go_upto_if 108 with(fail);go_cut [14,15] (λs14 s15 wx=>s14=I J (lst wv bf)/\s15=I J (lst wv bf)/\Wh=wx)
       case first=>
        obtain⟨lu,lw⟩:=co.o;cases bf with
        |true=>
         go_wp2;go_meet;exact⟨rfl,rfl,rfl⟩
        |false=>
         go_wp2;go_meet;have jn:wrap64 (wv+1)=wv+1:=IntWalk.wrap64_in _ O;exact⟨by rw[jn];rfl,by rw[jn];rfl,rfl⟩
       obtain⟨rfl,rfl,rfl⟩:=hcut;clear k4;have ko:=U (lst wv bf=wv\/lst wv bf=wv+1) (lst_cases wv bf);have cm:=U (roomT ⟨anc,cds,lv,bf⟩ es c=roomC lv wv (lst wv bf) c) (by unfold roomT;show roomC lv (atW lv es) (lst (atW lv es) bf) c=_;rw[<-bm.o])
       have ch:=U (newL ⟨anc,cds,lv,bf⟩ es c=(es.take j).map (rsE lv (lst wv bf))++[newE lv (lst wv bf) (roomC lv wv (lst wv bf) c) ⟨ep,ai,et,ev⟩]) (by
        have h1:=cm.o
        unfold newL
        rw[h1]
        show(es.take (lstK lv es es.length-1)).map (rsE lv (lst (atW lv es) bf))++[newE lv (lst (atW lv es) bf) _ (atE lv es)]=_
        rw[s.o,<-bm.o,<-br.o]
        rfl)
       have ad:=K9.o Wh aj.o.B a1.o (λq=>q<w.heap.size+4) lv wv (lst wv bf) (λq hq=>by have:=aj.o.x3.lt;omega) (by have:=co.o;omega);have cn:=U (aQ (roomC lv wv (lst wv bf) c)) (DE ex.o lv wv (lst wv bf));have ff:=G (λx=>VP (k:=lv) (w:=wv) (l:=lst wv bf) a1.o x);obtain⟨R,hR⟩:=exQ (roomC lv wv (lst wv bf) c);rw[hR]at ad cn cm ch ff;have mi:R.ents.length<=1048576:=cn.o.n;obtain⟨ll,jj⟩:=exQ (lst wv bf);rw[jj]at ad ch ko|-;unfold kZ aJ at ad;rw[dv.o,du.o]at ad;have b0:=G ad;have b6:=fe.o;rw[cm.o,ch.o]at b6;have am:=G b6;clear b6;clear ad hR jj cm ch fe K9;obtain⟨iw,ix,iy,iz,i0,i1,i2,i3,i4,i5,i6,i7⟩:=aj.o.cs;go_wp2_with fail;refine b0.o.mono ?_
       rintro e Wi ⟨A',a',B',b',rfl,b4,o⟩;have bl:=G (aj.o.go o);have kc:=G (aG dw.o o);have kh:=G (aG dx.o o);have eq:=G (tb ax.o o);have er:=G b4;clear o b4 b0 iw ix iy iz i0 i1 i2 i3 i4 i5 i6 i7;have GA:By Wi (Wi.alloc (.cells #[H A' R.ents.length a',H B' R.grps.length b',I J R.base,I J R.second,I J R.third] 32)):=ba _ _;have GX:Box (Wi.alloc (.cells #[H A' R.ents.length a',H B' R.grps.length b',I J R.base,I J R.second,I J R.third] 32)) Wi.heap.size 32 [H A' R.ents.length a',H B' R.grps.length b',I J R.base,I J R.second,I J R.third]:=Box.new _ 32 [H A' R.ents.length a',H B' R.grps.length b',I J R.base,I J R.second,I J R.third] rfl;have kv:∃V,Wi.alloc (.cells #[H A' R.ents.length a',H B' R.grps.length b',I J R.base,I J R.second,I J R.third] 32)=V:=⟨_,rfl⟩;go_upto_region 29 with(fail)
       obtain⟨Wj,jg⟩:=kv;rw[jg]at GA GX|-;obtain⟨rb,jm⟩:=exQ (Wi.heap.size);have lt:Wi.heap.size<=rb:=O;rw[jm]at GX|-;have az:=G (bl.o.go GA);have ez:=G (aG kc.o GA);have e4:=G (aG kh.o GA);have c0:=G (tb eq.o GA);have eu:=G (er.o.below GA);have dy:=G GX;clear jg jm GA GX er
       have ah:=G (λ(W':Wv) (hb:By Wj W')=>show W'.cell? ⟨qe,j*4,N⟩=Z (I J ep)/\W'.cell? ⟨qe,j*4+1,N⟩=Z (I J ai)/\W'.cell? ⟨qe,j*4+2,N⟩=Z (I J et)/\W'.cell? ⟨qe,j*4+3,N⟩=Z (.bool ev)/\W'.cell? ⟨w.heap.size+2,2,N⟩=Z (I J lv)/\By Wj W' from
        have cv:=tb c0.o hb
        ⟨A.o W' cv 0 O,A.o W' cv 1 O,A.o W' cv 2 O,A.o W' cv 3 O,(az.o.x2.below hb az.o.x2.lt).c 2 rfl,hb⟩)
       have KS:=G (λW=>C_ ⟨ep,ai,et,ev⟩ lv ll W);obtain⟨e1,d3⟩:=exQ (setW lv ⟨ep,ai,et,ev⟩ ll);rw[d3]at KS;have e0:=G d3;clear d3;obtain⟨fp,fs,ft,fv⟩:=e1;unfold kO at KS;dsimp only at KS;go_cut [17] (λs17 wx=>∃qb,s17=.pointer (Z ⟨qb,0,N⟩)/\Wj.heap.size<=qb/\Box wx qb 77 [I J fp,I J fs,I J ft,.bool fv]/\By Wj wx)
       case first=>
        as_aux_lemma=>
        have bo:=G (Below.refl Wj.heap.size Wj).drew;refine wp_region_held_drew (S:=λW'=>W'.cell? ⟨qe,j*4,N⟩=Z (I J ep)/\W'.cell? ⟨qe,j*4+1,N⟩=Z (I J ai)/\W'.cell? ⟨qe,j*4+2,N⟩=Z (I J et)/\W'.cell? ⟨qe,j*4+3,N⟩=Z (.bool ev)/\W'.cell? ⟨w.heap.size+2,2,N⟩=Z (I J lv)/\By Wj W') oK_ (ah.o _ (bo.o)) (λg=>?_);refine tK 0 117 ?_;refine tK 1 118 ?_;refine tK 2 119 ?_;refine tK 3 120 ?_;refine tK 4 121 ?_;refine tK 5 122 ?_;refine tK 6 123 ?_;obtain⟨V0,b2⟩:=exQ (Wj.drew);rw[b2]at bo|-;have ak:=bo;clear b2;clear g;have g:=ah.o V0 ak.o;have s:=U (J1 Wj 77 [I J 0,I J 0,I J 0,.bool false] V0 N) (⟨ak.o,L⟩);refine O2 7 8 ?_ ?_
        ·refine m7 124 s ah KS ?_
         intro V s g;refine O1 8 ?_;refine m8 17 s ah ?_;intro V qb s g;refine m9 (i:=9) (I J fp) (I J fs) (I J ft) (.bool fv) s ah ?_;intro Wz s;refine wpAnyH_done oK_ ?_ _;go_wp2;go_meet;exact⟨_,rfl,s.o⟩
        refine m8 17 s ah ?_;intro V qb s g;refine O1 7 ?_;refine m7 124 s ah KS ?_;intro V s g;refine m9 (i:=9) (I J fp) (I J fs) (I J ft) (.bool fv) s ah ?_;intro Wz s;refine wpAnyH_done oK_ ?_ _;go_wp2;go_meet;exact⟨_,rfl,s.o⟩
       as_aux_lemma=>
       obtain⟨qb,rfl,jl,af,o⟩:=hcut;obtain⟨Wk,rfl⟩:∃V,V=wc:=⟨_,rfl⟩;have j6:=G (az.o.go o);have ly:=G (aG ez.o o);have l0:=G (aG e4.o o);have lf:=G (tb c0.o o);have ds:=G (eu.o.below o);have e6:=G (bb dy.o o);have bu:=G af;have lo:rb<qb:=by have:=dy.o.lt;omega
       have cz:=G o;clear af o ah KS A;obtain⟨ge,eb⟩:=exQ (newE lv ll R ⟨ep,ai,et,ev⟩);have fb:=G eb;rw[eb]at am;clear eb;obtain⟨gp,gs,gt,gv⟩:=ge;have lq:w.heap.size+3<qb:=by have:=bl.o.x3.lt;omega
       obtain⟨i8,i9,ja,jb⟩:=j6.o.x2.k4;have ks:=U (∀V,By Wj V->V.cell? ⟨w.heap.size+2,2,N⟩=Z (I J lv)) (λV hb=>(az.o.x2.below hb az.o.x2.lt).c 2 rfl);go_upto_if 127 with(fail);go_cut [] (λwx=>Box wx qb 77 [I J fp,I J (if lv<2 then R.second else fs),I J ft,.bool fv]/\By Wj wx/\Chg (λq=>q=qb) Wk wx)
       case first=>
        as_aux_lemma=>
        have r3:=e6.o.c 3 rfl;have y1:=bu.o.c 1 rfl;have z1:=bu.o.free 1;by_cases q8:lv<2
        ·have d9:decide (lv<2)=true:=by simp[q8]
         have ZX:Box (Wk.setCell ⟨qb,1,N⟩ (I J R.second)) qb 77 [I J fp,I J (if lv<2 then R.second else fs),I J ft,.bool fv]:=by rw[if_pos q8];exact bu.o.set 1 _
         have ZB:By Wj (Wk.setCell ⟨qb,1,N⟩ (I J R.second)):=cz.o.setCell (p:=⟨qb,1,N⟩) jl _;have ZC:Chg (λq=>q=qb) Wk (Wk.setCell ⟨qb,1,N⟩ (I J R.second)):=Chg.of_grown (bR _ _ _) (λq hq=>by cases hq;rfl);have aq:=G ZX;clear ZX;go_wp2;go_meet;with_reducible exact⟨aq.o,ZB,ZC⟩
        have d9:decide (lv<2)=false:=oU_;have aq:=U (Box Wk qb 77 [I J fp,I J (if lv<2 then R.second else fs),I J ft,.bool fv]) (by rw[if_neg q8];exact bu.o);go_wp2;go_meet;with_reducible exact⟨aq.o,cz.o,Chg.refl _ _⟩
       obtain⟨af,F,hcz⟩:=hcut;obtain⟨Wl,rfl⟩:∃V,V=wc:=⟨_,rfl⟩;have a2:=G af;have cd:=G F;have dt:=G hcz;have e7:=G (hcz.box e6.o (λ(e:rb=qb)=>O));obtain⟨mh,b5⟩:=exQ ((if lv<2 then R.second else fs));rw[b5]at a2;have c3:=G b5;clear af F hcz b5 i8 i9 ja jb;have k8:=ks.o Wl cd.o;go_upto_if 133 with(fail);go_cut [] (λwx=>Box wx qb 77 [I J gp,I J gs,I J gt,.bool gv]/\By Wj wx/\Chg (λq=>q=qb) Wk wx)
       case first=>
        as_aux_lemma=>
        have r4:=e7.o.c 4 rfl;have y2:=a2.o.c 2 rfl;have z2:=a2.o.free 2;have fa:=G (TK km.o e0.o fb.o c3.o);by_cases q8:lv<3
        ·have d9:decide (lv<3)=true:=by simp[q8]
         have ZX:Box (Wl.setCell ⟨qb,2,N⟩ (I J R.third)) qb 77 [I J gp,I J gs,I J gt,.bool gv]:=by
          rw[<-fa.o,if_pos q8];exact a2.o.set 2 _
         have ZB:By Wj (Wl.setCell ⟨qb,2,N⟩ (I J R.third)):=cd.o.setCell (p:=⟨qb,2,N⟩) jl _;have ZC:Chg (λq=>q=qb) Wk (Wl.setCell ⟨qb,2,N⟩ (I J R.third)):=dt.o.trans (Chg.of_grown (bR _ _ _) (λq hq=>by cases hq;rfl));have aq:=G ZX;clear ZX;go_wp2;go_meet;with_reducible exact⟨aq.o,ZB,ZC⟩
        have d9:decide (lv<3)=false:=oU_
        have aq:=U (Box Wl qb 77 [I J gp,I J gs,I J gt,.bool gv]) (by
         rw[<-fa.o,if_neg q8];exact a2.o)
        go_wp2;go_meet;with_reducible exact⟨aq.o,cd.o,dt.o⟩
       obtain⟨af,F,hcz⟩:=hcut;obtain⟨Wm,rfl⟩:∃V,V=wc:=⟨_,rfl⟩;clear a2 cd dt e7 c3 fb e0 k8;have lp:qb<Wk.heap.size:=bu.o.lt;have bv:=G af;have lg:=G F;have cb:=G (az.o.go F);have kd:=G (aG ez.o F);have ki:=G (aG e4.o F);have ew:=G (eu.o.below F);have kj:=G (bb dy.o F);have l1:=U (Wj.heap.size<=Wm.heap.size) F.size;clear af F hcz;have c2:=U (cM Wm (Z ⟨qe,0,N⟩) (es.take j)) (YY (ys:=aB Elt.cells (es.drop j)) (by rw[<-iA,List.take_append_drop];exact Sl.of_own ki.o));have ji:j<=es.length:=O
       have ae:=U (∀V,By Wm V->Calls prog 53 #[H (Z ⟨qe,0,N⟩) j ek,I J lv,I J ll] V (λe w'=>∃A' c',e=.returned (H A' j c')/\w'.ownsRow V.heap.size 77 4 (H A' j c') j (aB Elt.cells ((es.take j).map (rsE lv ll)))/\By V w')) (λV hb=>by
        have h:=CR (Z ⟨qe,0,N⟩) ek (es.take j) lv ll V (c2.o.below hb) (by rw[List.length_take];omega) (λe he=>by have:=uZ (k:=lv) (dp.o e (List.mem_of_mem_take he)).1;omega)
        unfold jO at h
        rw[List.length_map,List.length_take,Nat.min_eq_left ji]at h
        exact h)
       obtain⟨NL,dz⟩:=exQ ((es.take j).map (rsE lv ll));have c4:=U (NL.length=j) (by rw[<-dz,List.length_map,List.length_take];omega);rw[dz]at ae am;clear dz;have y:=G (λ(W':Wv) (hb:By Wm W')=>show W'.cell? ⟨w.heap.size+2,2,N⟩=Z (I J lv)/\W'.cell? ⟨qb,0,N⟩=Z (I J gp)/\W'.cell? ⟨qb,1,N⟩=Z (I J gs)/\W'.cell? ⟨qb,2,N⟩=Z (I J gt)/\W'.cell? ⟨qb,3,N⟩=Z (.bool gv)/\By Wm W' from⟨(cb.o.x2.below hb cb.o.x2.lt).c 2 rfl,(bb bv.o hb).c 0 rfl,(bb bv.o hb).c 1 rfl,(bb bv.o hb).c 2 rfl,(bb bv.o hb).c 3 rfl,hb⟩);have mn:j<=ek:=O;go_upto_region 34 with(fail)
       go_cut [18] (λs18 wx=>∃xb E5 e5,s18=.pointer (Z ⟨xb,0,N⟩)/\Wm.heap.size<=xb/\Box wx xb 75 [H D d.length dk,H E5 (j+1) e5]/\wx.ownsRow Wm.heap.size 77 4 (H E5 (j+1) e5) (j+1) (aB Elt.cells NL++[I J gp,I J gs,I J gt,.bool gv])/\By Wm wx)
       case first=>
        as_aux_lemma=>
        have bp:=G (Below.refl Wm.heap.size Wm).drew;refine wp_region_held_drew (S:=λW'=>W'.cell? ⟨w.heap.size+2,2,N⟩=Z (I J lv)/\W'.cell? ⟨qb,0,N⟩=Z (I J gp)/\W'.cell? ⟨qb,1,N⟩=Z (I J gs)/\W'.cell? ⟨qb,2,N⟩=Z (I J gt)/\W'.cell? ⟨qb,3,N⟩=Z (.bool gv)/\By Wm W') oK_ (y.o _ (bp.o)) (λg=>?_);refine tK 0 137 ?_;refine tK 1 138 ?_;refine tK 2 139 ?_;refine tK 3 140 ?_;refine tK 4 141 ?_;refine tK 5 142 ?_;refine tK 6 143 ?_;refine tK 8 145 ?_;obtain⟨V0,b2⟩:=exQ (Wm.drew);rw[b2]at bp|-;have ak:=bp;clear b2;clear g;have g:=y.o V0 ak.o;have s:=U (J34 Wm j (aB Elt.cells NL) [I J gp,I J gs,I J gt,.bool gv] V0 N N N) (⟨ak.o,L,L,L⟩);have al:=U (([I J gp,I J gs,I J gt,.bool gv]:Lv).length=4/\(∀u∈([I J gp,I J gs,I J gt,.bool gv]:Lv),u.oneCell'=true)/\(j+1)*32<=140737488355328) (⟨rfl,gX [⟨gp,gs,gt,gv⟩],O⟩);refine O3 7 9 12 ?_ ?_ ?_
        ·refine q7 144 s y ae ?_
         intro V _ _ _ s g;refine O2 9 12 ?_ ?_
         ·refine q9 146 s y ?_
          intro V _ s g;refine O2 10 12 ?_ ?_
          ·refine q10 147 s y al.o ?_
           intro V E5 e5 s g;refine p11 11 148 ?_;refine O1 12 ?_;refine k12 18 s y ?_;intro V xb s g;refine q13 (i:=13) s y ?_;intro Wz s;refine wpAnyH_done oK_ ?_ _;go_wp2;go_meet;exact⟨_,_,_,rfl,s.o⟩
          refine q12 18 s y ?_;intro V xb s g;refine O1 10 ?_;refine q10 147 s y al.o ?_;intro V E5 e5 s g;refine p11 11 148 ?_;refine q13 (i:=13) s y ?_;intro Wz s;refine wpAnyH_done oK_ ?_ _;go_wp2;go_meet;exact⟨_,_,_,rfl,s.o⟩
         refine q12 18 s y ?_;intro V xb s g;refine O1 9 ?_;refine q9 146 s y ?_;intro V _ s g;refine O1 10 ?_;refine q10 147 s y al.o ?_;intro V E5 e5 s g;refine p11 11 148 ?_;refine q13 (i:=13) s y ?_;intro Wz s;refine wpAnyH_done oK_ ?_ _;go_wp2;go_meet;exact⟨_,_,_,rfl,s.o⟩
        ·refine q9 146 s y ?_
         intro V _ s g;refine O2 7 12 ?_ ?_
         ·refine q7 144 s y ae ?_
          intro V _ _ _ s g;refine O2 10 12 ?_ ?_
          ·refine q10 147 s y al.o ?_
           intro V E5 e5 s g;refine p11 11 148 ?_;refine O1 12 ?_;refine k12 18 s y ?_;intro V xb s g;refine q13 (i:=13) s y ?_;intro Wz s;refine wpAnyH_done oK_ ?_ _;go_wp2;go_meet;exact⟨_,_,_,rfl,s.o⟩
          refine q12 18 s y ?_;intro V xb s g;refine O1 10 ?_;refine q10 147 s y al.o ?_;intro V E5 e5 s g;refine p11 11 148 ?_;refine q13 (i:=13) s y ?_;intro Wz s;refine wpAnyH_done oK_ ?_ _;go_wp2;go_meet;exact⟨_,_,_,rfl,s.o⟩
         refine q12 18 s y ?_;intro V xb s g;refine O1 7 ?_;refine q7 144 s y ae ?_;intro V _ _ _ s g;refine O1 10 ?_;refine q10 147 s y al.o ?_;intro V E5 e5 s g;refine p11 11 148 ?_;refine q13 (i:=13) s y ?_;intro Wz s;refine wpAnyH_done oK_ ?_ _;go_wp2;go_meet;exact⟨_,_,_,rfl,s.o⟩
        refine q12 18 s y ?_;intro V xb s g;refine O2 7 9 ?_ ?_
        ·refine q7 144 s y ae ?_
         intro V _ _ _ s g;refine O1 9 ?_;refine q9 146 s y ?_;intro V _ s g;refine O1 10 ?_;refine q10 147 s y al.o ?_;intro V E5 e5 s g;refine p11 11 148 ?_;refine q13 (i:=13) s y ?_;intro Wz s;refine wpAnyH_done oK_ ?_ _;go_wp2;go_meet;exact⟨_,_,_,rfl,s.o⟩
        refine q9 146 s y ?_;intro V _ s g;refine O1 7 ?_;refine q7 144 s y ae ?_;intro V _ _ _ s g;refine O1 10 ?_;refine q10 147 s y al.o ?_;intro V E5 e5 s g;refine p11 11 148 ?_;refine q13 (i:=13) s y ?_;intro Wz s;refine wpAnyH_done oK_ ?_ _;go_wp2;go_meet;exact⟨_,_,_,rfl,s.o⟩
       as_aux_lemma=>
       obtain⟨xb,E5,e5,rfl,mo,af,jk,o⟩:=hcut;obtain⟨Wn,rfl⟩:∃V,V=wc:=⟨_,rfl⟩;have j7:=G (cb.o.go o);have ke:=G (aG kd.o o);have c1:=G (ew.o.below o);have e8:=G (bb kj.o o);have fg:=G af;have cf:=U ((NL++[(⟨gp,gs,gt,gv⟩:Elt)]).length=j+1) (by rw[List.length_append,c4.o];rfl);have fc:=U (Wn.ownsRow Wm.heap.size 77 4 (H E5 (j+1) e5) (j+1) (aB Elt.cells (NL++[(⟨gp,gs,gt,gv⟩:Elt)]))) (by rw[iA];exact jk);clear af jk o y ae c2 bv c4;obtain⟨NX,je⟩:=exQ (NL++[(⟨gp,gs,gt,gv⟩:Elt)]);rw[je]at cf fc am;clear je;obtain⟨n0,n1,n2,n3,n4⟩:=e8.o.k5;have m1:=fg.o.c 1 rfl;have KO:=G (XJ A' R.ents.length a' B' R.grps.length b' R Wn c1.o.is cn.o);unfold c_ aJ at KO;obtain⟨ov,ef⟩:=exQ (overC R);obtain⟨bz,F⟩:=exQ (NX.any bigE);rw[ef]at KO;have b7:=am.o;rw[ef,F]at b7;have ag:=G b7;clear b7;have dq:=G F;clear ef F am;go_wp2_with fail;refine KO.o.mono ?_
       rintro e Wo ⟨rfl,o⟩;have a0:=G (j7.o.go o);have kf:=G (aG ke.o o);have j9:=G (c1.o.below o);have kk:=G (bb e8.o o);have fh:=G (bb fg.o o);have c5:=G (aG fc.o o);clear o KO n0 n1 n2 n3 n4 m1;cases ov with
       |true=>
        have X:=G (ag.o.trans (if_pos (.inl rfl)));clear ag dq;obtain⟨f0,f1,f2,f3,f4,g0,g1,g2,g3,g4,WE⟩:=zl5 a0.o.x3;go_wp2_with fail;obtain⟨Wf,v,ZF,K⟩:=WE;try rw[v]
        clear v;(try simp only[Exit.inBlock,Exit.then]);refine bodyPost_ret (gZ rfl _ _ rfl rfl ZF) rfl ?_;exact lfE X.o a0.o.B K
       |false=>
        have m1:=fh.o.c 1 rfl
        have KB:=U (Calls prog 55 #[H E5 (j+1) e5] Wo (λe w'=>e=.returned (.bool bz)/\Wo=w')) (by
         have h:=CU E5 e5 NX Wo (Sl.of_own c5.o) (by rw[cf.o];omega)
         rw[dq.o,cf.o]at h
         exact h)
        clear dq;go_wp2_with fail;refine KB.o.mono ?_
        rintro e Wp ⟨rfl,rfl⟩;clear KB m1;cases bz with
        |true=>
         have X:=G (ag.o.trans (if_pos (.inr rfl)));clear ag;obtain⟨f0,f1,f2,f3,f4,g0,g1,g2,g3,g4,WE⟩:=zl5 a0.o.x3;go_wp2_with fail;obtain⟨Wf,v,ZF,K⟩:=WE;try rw[v]
         clear v;(try simp only[Exit.inBlock,Exit.then]);refine bodyPost_ret (gZ rfl _ _ rfl rfl ZF) rfl ?_;exact lfE X.o a0.o.B K
        |false=>
         have bq:=G (ag.o.trans (if_neg L));clear ag;obtain⟨n0,n1,n2,n3,n4⟩:=kk.o.k5;obtain⟨m0,m1⟩:=fh.o.k2;have M:=CY (λq=>q<w.heap.size+4) A' a' B' b' R D dk E5 e5 ⟨d,NX⟩ Wo (λq hq=>by have:=a0.o.x3.lt;omega) j9.o cn.o (SlN.own kf.o (λq hq=>O)) (SlN.own c5.o (λq hq=>by have:=cb.o.x3.lt;omega)) (by have:=ce.o;show d.length<=1048576;omega);rw[ff.o ⟨d,NX⟩]at M;obtain⟨R2,hR⟩:∃R2:Col,{ R with ents:=putE R.ents ⟨d,NX⟩ }=R2:=⟨_,rfl⟩;have b1:(⟨putE R.ents ⟨d,NX⟩,R.grps,R.base,R.second,R.third⟩:Col)=R2:=hR;rw[b1]at M;have X:=U (r=(0,R2)) (by rw[bq.o,hR]);unfold kZ aJ at M;dsimp only at M;rw[cf.o]at M;have bt:=G M;clear M hR b1 bq;go_wp2_with fail;refine bt.o.mono ?_
         rintro e l9 ⟨A9,a9,B9,b9,rfl,b3,o⟩;have eo:=G (a0.o.go o);have dr:=G b3;clear o b3 bt n0 n1 n2 n3 n4 m0 m1;obtain⟨f0,f1,f2,f3,f4,g0,g1,g2,g3,g4,WE⟩:=sl5 (H A9 R2.ents.length a9) (H B9 R2.grps.length b9) (I J R2.base) (I J R2.second) (I J R2.third) eo.o.x3;go_wp2_with fail;obtain⟨Wf,v,ZF,K⟩:=WE;try rw[v]
         clear v;(try simp only[Exit.inBlock,Exit.then]);refine bodyPost_ret (gZ rfl _ _ rfl rfl ZF) rfl ?_;rw[X.o];exact⟨_,_,_,_,rfl,(dr.o.chg (K.mono (λq _(e:q=w.heap.size+3)=>show q<w.heap.size+4 by omega))).mono (λq(hq:q<w.heap.size)=>show q<w.heap.size+4 by omega),gN eo.o.B K O⟩
  have X:=U (r=(ec,col0)) (by rw[cj.o,if_pos (by rw[A.o];exact q2),A.o]);have d2:(ec !=0)=true:=by simp[q2]
  clear q2 cj;obtain⟨f0,f1,f2,f3,f4,g0,g1,g2,g3,g4,WE⟩:=zl5 ca.o.x3;go_wp2_with fail;obtain⟨Wf,v,ZF,K⟩:=WE;try rw[v]
  clear v;(try simp only[Exit.inBlock,Exit.then]);refine bodyPost_ret (gZ rfl _ _ rfl rfl ZF) rfl ?_;exact lfE X.o ca.o.B K
 have X:=G (ci.o.trans (if_pos q1));have d1:(en !=0)=true:=by simp[q1]
 clear q1 ci;obtain⟨f0,f1,f2,f3,f4,g0,g1,g2,g3,g4,WE⟩:=zl5 bk.o.x3;go_wp2_with fail;obtain⟨Wf,v,ZF,K⟩:=WE;try rw[v]
 clear v;(try simp only[Exit.inBlock,Exit.then]);refine bodyPost_ret (gZ rfl _ _ rfl rfl ZF) rfl ?_;exact lfE X.o bk.o.B K
theorem wY:aQ col0:=⟨λi hi=>absurd hi (Nat.not_lt_zero _),by simp[col0],by simp[col0]⟩
theorem EH{x:Nrm}{c:Col}{t:Tlr}(hz:aQ c)(hn:c.ents.length<=1048575):aQ (cO x c t).2:=by
 by_cases h:(cO x c t).1=0
 ·obtain⟨b,d,a⟩:=qF h
  exact sG a O (by have:=hz.m;omega)
 have e:(cO x c t).2=col0:=by rw[uR]at h|-;exact stepP_err h
 rw[e];exact wY
end
end Go.Proofs.YtkhmjidaeliccaaGreatDoor
