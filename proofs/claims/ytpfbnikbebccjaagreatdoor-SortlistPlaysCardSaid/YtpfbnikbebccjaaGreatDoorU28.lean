import Derived.Test.YtpfbnikbebccjaaGreatDoorU00
import Derived.Test.YtpfbnikbebccjaaGreatDoorU02
import Derived.Test.YtpfbnikbebccjaaGreatDoorU18
import Derived.Test.YtpfbnikbebccjaaGreatDoorU22
import Derived.Test.YtpfbnikbebccjaaGreatDoorU27
set_option maxRecDepth 100000
set_option maxHeartbeats 51200000
namespace Go.Proofs.YtpfbnikbebccjaaGreatDoor
open Option renaming none->N,some->Z
open Value renaming int->I,slice->H
open IntKind renaming i64->J
open Go.Proofs.Tryz
section
open Go.RowKit Go.Maps Go.WideMaps Srl
def atR(K:Li->Li)(R:List Rit)(q:Rit):Nat:=plc (kL K (plR R)) (K q.t,q.id)
def gN(K:Li->Li)(R:List Rit)(q:Rit):List Rit:=(a_ R q.id).take (atR K (a_ R q.id) q)++q::(a_ R q.id).drop (atR K (a_ R q.id) q)
theorem VG(K:Li->Li)(R:List Rit)(q:Rit):plR (gN K R q)=putL K (plR R) q.id q.t:=by
 unfold gN putL atL atR;rw[mL];unfold plR;rw[List.map_append,List.map_cons,List.map_take,List.map_drop,<-show plR (a_ R q.id)=(a_ R q.id).map (fun r=>(r.id,r.t))from rfl,mL];rfl
theorem vQ(K:Li->Li)(R:List Rit)(q:Rit):atR K R q<=R.length:=by
 have:=cnt_le (p:=fun y=>decide (ltI y (K q.t,q.id))) (kL K (plR R));rw[kL_len,iT]at this;exact this
theorem G_{K:Li->Li}{R:List Rit}(h:Srt K (plR R))(q:Rit)(i:Nat)(hi:i<R.length):ltI (K R[i].t,R[i].id) (K q.t,q.id) ↔ i<atR K R q:=by
 have h1:i<(kL K (plR R)).length:=by rw[kL_len,iT];exact hi
 have h2:=plc_iff h.asc (K q.t,q.id) i h1;rw[kL_get i (by rw[iT];exact hi)]at h2;have e:(plR R)[i]'(by rw[iT];exact hi)=(R[i].id,R[i].t):=by simp[plR]
 rw[e]at h2;exact h2
theorem VQ{K:Li->Li}{R:List Rit}{q:Rit}:(gN K R q).length=(a_ R q.id).length+1:=by
 have:=vQ K (a_ R q.id) q;unfold gN;simp;omega
def nT(A:Oa)(a lo:Nat):Oa:=if a=lo then A else A.map (fun x=>x.add (lo*2))
theorem ND(R:List Rit)(k:Nat):aF Rit.cells (R.drop k)=(aF Rit.cells R).drop (k*2):=by
 induction R generalizing k with
 |nil=>simp[aF]
 |cons r R ih=>
  cases k with
  |zero=>simp
  |succ k=>
   rw[List.drop_succ_cons,ih,show aF Rit.cells (r::R)=r.cells++aF Rit.cells R from rfl,show(k+1)*2=k*2+2 by omega];simp[Rit.cells]
theorem Rls.from{w:Wv}{A:Oa}{R:List Rit}(h:Rls w A R){a lo:Nat}(h3:R.length<=a):Sl w (nT A a lo) (aF Rit.cells (R.drop lo)):=by
 unfold nT;by_cases e:a=lo
 ·rw[if_pos e,List.drop_of_length_le (by omega)]
  exact Sl.nil _ _
 rw[if_neg e,ND];intro hne;have hl:aF Rit.cells R≠[]:=by intro e0;rw[e0]at hne;simp at hne
 obtain⟨b,o,rfl,hc⟩:=h hl;refine⟨b,o+lo*2,?_,fun j u hu=>?_⟩
 ·simp only[Option.map_some,Addr.add]
  split
  ·next h0=>rw[h0];rfl
  rfl
 rw[List.getElem?_drop]at hu;have:=hc _ _ hu;rw[Nat.add_assoc];exact this
theorem YU(A:Oa)(n a lo:Nat)(h1:lo<=n)(W:Wv):(Instr.sliceAt 44 (H A n a) (Z (I J lo)) N N).run prog W=.ok (H (nT A a lo) (n-lo) (a-lo)) W:=by
 have hu:=underlying44;have he:prog.elem 44=93:=by kernel_rfl
 obtain⟨i,hi',_,hs,_⟩:=info_parts nA;rw[run_sliceAt_slice (h:=by rw[he];exact hu),run_slice_l (ht:=by rw[he];exact hu) (h0:=by omega) (h1:=by omega)];simp[sizeOf,typeInfo,he,hi',hs,sliced,nT]
theorem UA(R:List Rit):∀u∈aF Rit.cells R,u.oneCell'=true:=by
 intro u hu;obtain⟨r,_,h⟩:=List.mem_flatMap.1 hu;exact pT r u h
theorem xM(R:List Rit):(aF Rit.cells R).length=R.length*2:=gJ Rit.cells 2 (fun _=>rfl) R
theorem XL{fn:Func}{k m n:Nat}(hr:fn.results=#[.cell k 46,.tmp m,.tmp n])(tmps:Array Value)(w:Wv){b:Nat}{v0 v1 v2 v3 v4 v5 v6 v7 v8 v9 v10 v11 v12:Value}(ha:tmps.getD k undef=.pointer (Z ⟨b,0,N⟩))(h:Box w b 46 [v0,v1,v2,v3,v4,v5,v6,v7,v8,v9,v10,v11,v12]):
  (results fn tmps).run prog w=.ok (.tuple #[.agg #[v0,v1,v2,v3,v4,v5,v6,v7,v8,v9,v10,v11,v12],tmps.getD m undef,tmps.getD n undef]) w:=by
 obtain⟨c0,c1,c2,c3,c4,c5,c6,c7,c8,c9,c10,c11,c12⟩:=h.c13;unfold results;rw[hr];simp only[ha,List.mapM_toArray,List.mapM_cons,List.mapM_nil,asAddr];go_simp
def q_(V:eQ)(x:Nrm)(c:Col)(o:Opt)(R':List Rit)(n:Nat)(w:Wv)(e:Ending)(w':Wv):Prop:=
 ∃A k,e=.returned (.tuple #[.agg #[H V.A0 x.cls.length V.k0,H V.A1 x.dec.length V.k1,H V.A2 x.exc.length V.k2,H V.C c.ents.length V.a,H V.B c.grps.length V.b,I J c.base,I J c.second,I J c.third,I J o.st,I J o.va,.bool o.bk,.bool o.idn,H A R'.length k],I J n,I J 0])/\w'.ownsRow w.heap.size 93 2 (H A R'.length k) R'.length (aF Rit.cells R')/\By w w'
theorem YE(V:eQ)(x:Nrm)(c:Col)(o:Opt)(I:Oa)(ic:Nat)(R:List Rit)(q:Rit)(w:Wv)(hN:bA w V.A0 x.cls.length V.A1 x.dec.length V.A2 x.exc.length x)(hC:aU w V.C c.ents.length V.B c.grps.length c)(hz:cK x)(hcz:bW c)(hI:Rls w I R)(hX:∀r∈R,aA w r.T r.t/\r.t.length<=16384)(hQ:aA w q.T q.t)(hqt:q.t.length<=1000)(hn:R.length<100)(hs:Srt (kyN x c o) (plR R)):
  Calls prog 15 #[.agg #[H V.A0 x.cls.length V.k0,H V.A1 x.dec.length V.k1,H V.A2 x.exc.length V.k2,H V.C c.ents.length V.a,H V.B c.grps.length V.b,.int .i64 c.base,.int .i64 c.second,.int .i64 c.third,.int .i64 o.st,.int .i64 o.va,.bool o.bk,.bool o.idn,H I R.length ic],.int .i64 q.id,H q.T q.t.length q.k] w (q_ V x c o (gN (kyN x c o) R q) (atR (kyN x c o) (a_ R q.id) q) w):=by
 have W0E:=bx2 w 46 [H V.A0 x.cls.length V.k0,H V.A1 x.dec.length V.k1,H V.A2 x.exc.length V.k2,H V.C c.ents.length V.a,H V.B c.grps.length V.b,.int .i64 c.base,.int .i64 c.second,.int .i64 c.third,.int .i64 o.st,.int .i64 o.va,.bool o.bk,.bool o.idn,H I R.length ic] 46 [H N 0 0,H N 0 0,H N 0 0,H N 0 0,H N 0 0,.int .i64 0,.int .i64 0,.int .i64 0,.int .i64 0,.int .i64 0,.bool false,.bool false,H N 0 0];have hle:=tY R q.id;have hsr:Srt (kyN x c o) (plR (a_ R q.id)):=by rw[mL];exact remL_srt hs _
 have KR:=G (fun W(hb:By w W)=>BC V x c o I ic R q.id W (hI.below hb) (by omega));have KL:=G (fun W(hb:By w W)j(hj:j<(a_ R q.id).length)=>YB V x c o I R.length ic (a_ R q.id)[j] q W (hN.below hb) (hC.below hb) hz hcz ((hX _ ((List.mem_filter.1 (List.getElem_mem hj)).1)).1.below hb) (hQ.below hb) (hX _ ((List.mem_filter.1 (List.getElem_mem hj)).1)).2 (by omega));have HAT:=G (fun j(hj:j<(a_ R q.id).length)=>G_ hsr q j hj);have HLE:=G (vQ (kyN x c o) (a_ R q.id) q);have HPL:=G (VQ (K:=kyN x c o) (R:=R) (q:=q));have HPE:=U (aF Rit.cells (gN (kyN x c o) R q)=aF Rit.cells ((a_ R q.id).take (atR (kyN x c o) (a_ R q.id) q))++(q.cells++aF Rit.cells ((a_ R q.id).drop (atR (kyN x c o) (a_ R q.id) q)))) (by unfold gN;rw[iM];rfl);unfold rB at KR;unfold fH at KL;unfold q_;generalize decide ((a_ R q.id).length<R.length)=fnd at *;generalize gN (kyN x c o) R q=R' at *;generalize hat:atR (kyN x c o) (a_ R q.id) q=n0 at *;clear hat;have hmm:(a_ R q.id).length<100:=by omega
 generalize a_ R q.id=S at *;generalize R.length=n at *;have HQ:=U (q.cells=[.int .i64 q.id,H q.T q.t.length q.k]) rfl;rw[HQ.out]at HPE;have HONE:=G (pT q);rw[HQ.out]at HONE;obtain⟨id,t,T,k⟩:=q;dsimp only at *;clear hN hC hz hcz hI hX hQ hs hsr HQ;go_enter func15,ntmps15;go_upto_region 1 with(fail)
 obtain⟨W0,hW0,B0,X0,X1⟩:=W0E;rw[hW0];clear hW0;have l0:=X0.lt;have l1:=X1.lt;obtain⟨a0,a1,a2,a3,a4,a5,a6,a7,a8,a9,a10,a11,a12⟩:=X0.c13;have XS:=G X0;have XR:=G X1;have KRi:=G (KR.out W0 B0);clear X0 X1 KR;go_wp2_with fail;with_reducible refine KRi.out.mono ?_
 rintro e W1 ⟨A1,k1,rfl,ho1,hb1⟩;clear a0 a1 a2 a3 a4 a5 a6 a7 a8 a9 a10 a11 a12 KRi;have B1:=B0.trans (hb1.mono B0.size);have hs1:=hb1.size;have Y0:=XS.out.below hb1 l0;have Y1:=XR.out.below hb1 l1;have W2E:=bx2 W1 46 [H V.A0 x.cls.length V.k0,H V.A1 x.dec.length V.k1,H V.A2 x.exc.length V.k2,H V.C c.ents.length V.a,H V.B c.grps.length V.b,.int .i64 c.base,.int .i64 c.second,.int .i64 c.third,.int .i64 o.st,.int .i64 o.va,.bool o.bk,.bool o.idn,H A1 S.length k1] 93 [.int .i64 id,H T t.length k];have HO1:=G ho1;have HYS:=G (And.intro Y0 Y1);have dl:decide ((1000:Int)<(t.length:Int))=false:=decide_eq_false (by omega);have dg:decide ((100:Int)<=(S.length:Int))=false:=decide_eq_false (by omega);clear XS XR Y0 Y1 ho1;go_wp2_with fail;obtain⟨W2,hW2,B2,X2,X3⟩:=W2E;try rw[hW2]
 have hs2:=B2.size;have BB:=G (B1.trans (B2.mono B1.size));have HRS:=U (Rls W2 A1 S) ((Sl.of_own HO1.out).below B2);have HOC:=G (lQ HO1.out);have XS:=G (And.intro (HYS.out.1.below B2 (by omega)) (And.intro (HYS.out.2.below B2 (by omega)) (And.intro X2 X3)));have l2:=X2.lt;have l3:=X3.lt;clear hW2 X2 X3 HYS HO1;go_loopw [12,13] (fun u v wr=>∃(j:Nat)(A:Oa)(kk:Nat),j<=n0/\v=.int .i64 j/\u=H A j kk/\wr.ownsRow W2.heap.size 93 2 (H A j kk) j (aF Rit.cells (S.take j))/\By W2 wr) (fun _ v _=>S.length+1-(intOf v).toNat)
 case atStart=>exact⟨0,N,0,Nat.zero_le _,rfl,rfl,World.ownsRow_nil _ _ _ _,Below.refl _ _⟩
 obtain⟨j,A,kk,hj0,rfl,rfl,ho,hbr⟩:=hrel;have hrs:=hbr.size;have hle:=HLE.out;have HO:=G ho;have HBR:=G hbr;obtain⟨Z0,Z1,Z2,Z3⟩:=XS.out;have Y0:=Z0.below hbr (by omega);have Y2:=Z2.below hbr l2;have Y3:=Z3.below hbr l3;clear ho Z0 Z1 Z2 Z3;go_upto_region 7 with(fail)
 go_cut [47]from 33 to 57 (fun s47 wx=>s47=.bool (decide (j<n0))/\By wr wx)
 case first=>
  by_cases hj:j<S.length
  ·obtain⟨b,p,rfl,hbl,hcell⟩:=(HRS.out.below hbr).at hj
   obtain⟨g0,g1⟩:=hcell j hj;have KLj:=G (fun W(hb:By w W)=>KL.out W hb j hj);have HAj:=G (HAT.out j hj);have EB:=U (decide (ltI (kyN x c o S[j].t,S[j].id) (kyN x c o t,id))=decide (j<n0)) (by simp only[HAj.out]);rw[EB.out]at KLj;have dj:decide ((j:Int)<(S.length:Int))=true:=decide_eq_true (by omega);clear hcell EB HAj HAT KL;generalize S[j]=r at *;obtain⟨rid,rt,rT,rk⟩:=r;dsimp only at *;generalize decide (j<n0)=bb at *;generalize S.length=m at *;have BW:=G (BB.out.trans (hbr.mono BB.out.size));have CR:=G (And.intro g0 g1)
   have SH:=G (fun W'(hb':By wr W')=>show W'.cell? ⟨w.heap.size,0,N⟩=Z (H V.A0 x.cls.length V.k0)/\W'.cell? ⟨w.heap.size,1,N⟩=Z (H V.A1 x.dec.length V.k1)/\W'.cell? ⟨w.heap.size,2,N⟩=Z (H V.A2 x.exc.length V.k2)/\W'.cell? ⟨w.heap.size,3,N⟩=Z (H V.C c.ents.length V.a)/\W'.cell? ⟨w.heap.size,4,N⟩=Z (H V.B c.grps.length V.b)/\W'.cell? ⟨w.heap.size,5,N⟩=Z (.int .i64 c.base)/\W'.cell? ⟨w.heap.size,6,N⟩=Z (.int .i64 c.second)/\W'.cell? ⟨w.heap.size,7,N⟩=Z (.int .i64 c.third)/\W'.cell? ⟨w.heap.size,8,N⟩=Z (.int .i64 o.st)/\W'.cell? ⟨w.heap.size,9,N⟩=Z (.int .i64 o.va)/\W'.cell? ⟨w.heap.size,10,N⟩=Z (.bool o.bk)/\W'.cell? ⟨w.heap.size,11,N⟩=Z (.bool o.idn)/\W'.cell? ⟨w.heap.size,12,N⟩=Z (H I n ic)/\W'.cell? ⟨W1.heap.size,12,N⟩=Z (H (Z ⟨b,p,N⟩) m k1)/\W'.cell? ⟨b,p+j*2,N⟩=Z (.int .i64 rid)/\W'.cell? ⟨b,p+j*2+1,N⟩=Z (H rT rt.length rk)/\W'.cell? ⟨W1.heap.size+1,0,N⟩=Z (.int .i64 id)/\W'.cell? ⟨W1.heap.size+1,1,N⟩=Z (H T t.length k)/\By wr W' from
    ⟨(Y0.below hb' Y0.lt).c 0 rfl,(Y0.below hb' Y0.lt).c 1 rfl,(Y0.below hb' Y0.lt).c 2 rfl,(Y0.below hb' Y0.lt).c 3 rfl,(Y0.below hb' Y0.lt).c 4 rfl,(Y0.below hb' Y0.lt).c 5 rfl,(Y0.below hb' Y0.lt).c 6 rfl,(Y0.below hb' Y0.lt).c 7 rfl,(Y0.below hb' Y0.lt).c 8 rfl,(Y0.below hb' Y0.lt).c 9 rfl,(Y0.below hb' Y0.lt).c 10 rfl,(Y0.below hb' Y0.lt).c 11 rfl,(Y0.below hb' Y0.lt).c 12 rfl,(Y2.below hb' Y2.lt).c 12 rfl,(hb'.cell (by assumption)).trans CR.out.1,(hb'.cell (by assumption)).trans CR.out.2,(Y3.below hb' Y3.lt).c 0 rfl,(Y3.below hb' Y3.lt).c 1 rfl,hb'⟩)
   have TL:=G (fun W(hb':By wr W)=>(KLj.out W (BW.out.trans (hb'.mono BW.out.size))).mono (R':=fun e W'=>e=.returned (.bool bb)/\(W'.cell? ⟨w.heap.size,0,N⟩=Z (H V.A0 x.cls.length V.k0)/\W'.cell? ⟨w.heap.size,1,N⟩=Z (H V.A1 x.dec.length V.k1)/\W'.cell? ⟨w.heap.size,2,N⟩=Z (H V.A2 x.exc.length V.k2)/\W'.cell? ⟨w.heap.size,3,N⟩=Z (H V.C c.ents.length V.a)/\W'.cell? ⟨w.heap.size,4,N⟩=Z (H V.B c.grps.length V.b)/\W'.cell? ⟨w.heap.size,5,N⟩=Z (.int .i64 c.base)/\W'.cell? ⟨w.heap.size,6,N⟩=Z (.int .i64 c.second)/\W'.cell? ⟨w.heap.size,7,N⟩=Z (.int .i64 c.third)/\W'.cell? ⟨w.heap.size,8,N⟩=Z (.int .i64 o.st)/\W'.cell? ⟨w.heap.size,9,N⟩=Z (.int .i64 o.va)/\W'.cell? ⟨w.heap.size,10,N⟩=Z (.bool o.bk)/\W'.cell? ⟨w.heap.size,11,N⟩=Z (.bool o.idn)/\W'.cell? ⟨w.heap.size,12,N⟩=Z (H I n ic)/\W'.cell? ⟨W1.heap.size,12,N⟩=Z (H (Z ⟨b,p,N⟩) m k1)/\W'.cell? ⟨b,p+j*2,N⟩=Z (.int .i64 rid)/\W'.cell? ⟨b,p+j*2+1,N⟩=Z (H rT rt.length rk)/\W'.cell? ⟨W1.heap.size+1,0,N⟩=Z (.int .i64 id)/\W'.cell? ⟨W1.heap.size+1,1,N⟩=Z (H T t.length k)/\By wr W')) (fun e W'⟨he,g⟩=>⟨he,SH.out W' (hb'.trans (g.mono hb'.size))⟩));clear g0 g1 Y0 Y2 Y3 KLj HO HBR;refine wp_region_held_drew (S:=fun W'=>W'.cell? ⟨w.heap.size,0,N⟩=Z (H V.A0 x.cls.length V.k0)/\W'.cell? ⟨w.heap.size,1,N⟩=Z (H V.A1 x.dec.length V.k1)/\W'.cell? ⟨w.heap.size,2,N⟩=Z (H V.A2 x.exc.length V.k2)/\W'.cell? ⟨w.heap.size,3,N⟩=Z (H V.C c.ents.length V.a)/\W'.cell? ⟨w.heap.size,4,N⟩=Z (H V.B c.grps.length V.b)/\W'.cell? ⟨w.heap.size,5,N⟩=Z (.int .i64 c.base)/\W'.cell? ⟨w.heap.size,6,N⟩=Z (.int .i64 c.second)/\W'.cell? ⟨w.heap.size,7,N⟩=Z (.int .i64 c.third)/\W'.cell? ⟨w.heap.size,8,N⟩=Z (.int .i64 o.st)/\W'.cell? ⟨w.heap.size,9,N⟩=Z (.int .i64 o.va)/\W'.cell? ⟨w.heap.size,10,N⟩=Z (.bool o.bk)/\W'.cell? ⟨w.heap.size,11,N⟩=Z (.bool o.idn)/\W'.cell? ⟨w.heap.size,12,N⟩=Z (H I n ic)/\W'.cell? ⟨W1.heap.size,12,N⟩=Z (H (Z ⟨b,p,N⟩) m k1)/\W'.cell? ⟨b,p+j*2,N⟩=Z (.int .i64 rid)/\W'.cell? ⟨b,p+j*2+1,N⟩=Z (H rT rt.length rk)/\W'.cell? ⟨W1.heap.size+1,0,N⟩=Z (.int .i64 id)/\W'.cell? ⟨W1.heap.size+1,1,N⟩=Z (H T t.length k)/\By wr W') (by kernel_rfl) (SH.out _ ((Below.refl _ _).drew)) (fun hHeld=>?_);refine tK 0 33 ?_;refine tK 1 34 ?_;refine tK 2 35 ?_;refine tK 3 36 ?_;refine tK 4 37 ?_;refine tK 5 38 ?_;refine tK 6 39 ?_;refine tK 7 40 ?_;refine tK 8 41 ?_;refine tK 9 42 ?_;refine tK 10 43 ?_;refine tK 11 44 ?_;refine tK 12 45 ?_;refine qK 13 46 (TL.out _ hHeld.2.2.2.2.2.2.2.2.2.2.2.2.2.2.2.2.2.2) ?_;clear hHeld;intro W5 hHeld;refine tK 14 47 ?_;refine wpAnyH_done (by kernel_rfl) ?_ _;have hbn:=hHeld.2.2.2.2.2.2.2.2.2.2.2.2.2.2.2.2.2.2;clear hHeld SH TL;cases bb with
   |false=>
    go_wp2_with fail;go_meet;exact⟨rfl,hbn⟩
   |true=>
    go_wp2_with fail;go_meet;exact⟨rfl,hbn⟩
  have dj:decide ((j:Int)<(S.length:Int))=false:=decide_eq_false (by omega);have EB:=U (decide (j<n0)=false) (decide_eq_false (by omega));clear HAT KL HRS HPE;generalize S.length=m at *;have C2:=G Y2;have SH:=G (fun W'(hb':By wr W')=>show W'.cell? ⟨W1.heap.size,12,N⟩=Z (H A1 m k1)/\By wr W' from⟨(C2.out.below hb' C2.out.lt).c 12 rfl,hb'⟩);clear Y0 Y2 Y3 HO HBR;refine wp_region_held_drew (S:=fun W'=>W'.cell? ⟨W1.heap.size,12,N⟩=Z (H A1 m k1)/\By wr W') (by kernel_rfl) (SH.out _ ((Below.refl _ _).drew)) (fun hHeld=>?_);refine tK 0 33 ?_;refine tK 1 34 ?_;refine tK 2 35 ?_;refine tK 3 36 ?_;refine tK 4 37 ?_;refine tK 5 38 ?_;refine sK 6 39 ?_;refine sK 7 40 ?_;refine sK 8 41 ?_;refine sK 9 42 ?_;refine sK 10 43 ?_;refine sK 11 44 ?_;refine sK 12 45 ?_;refine sK 13 46 ?_;refine tK 14 47 ?_;refine wpAnyH_done (by kernel_rfl) ?_ _;have hbn:=hHeld.2;clear hHeld SH;go_wp2_with fail;go_meet;exact⟨by rw[EB.out],hbn⟩
 obtain⟨rfl,hbx⟩:=hcut;have hxs:=hbx.size;have HBX:=G (HBR.out.trans (hbx.mono hrs));have HO2:=G (aK HO.out hbx);clear KL HAT;by_cases hj:j<n0
 ·have hjm:j<S.length:=by omega
  obtain⟨b,p,rfl,hbl,hcell⟩:=(HRS.out.below HBX.out).at hjm;obtain⟨g0,g1⟩:=hcell j hjm;have d2:=(Y2.below hbx Y2.lt).c 12 rfl;have HTK:=U (aF Rit.cells (S.take (j+1))=aF Rit.cells (S.take j)++S[j].cells) (by rw[List.take_succ_eq_append_getElem hjm,iM];simp[aF]);have HON:=G (pT S[j]);have e0:S[j].cells=[.int .i64 S[j].id,H S[j].T S[j].t.length S[j].k]:=rfl;rw[e0]at HTK HON;have db:decide (j<n0)=true:=decide_eq_true hj;clear hcell e0 Y0 Y2 Y3 HO;generalize S[j]=r at *;obtain⟨rid,rt,rT,rk⟩:=r;dsimp only at *;go_wp2_with(at_builtin;refine aJ _ _ 44 93 (.agg #[.int .i64 0,H N 0 0]) 2 32 rfl rfl underlying44 nA rfl (by decide) (by decide) rfl (aK HO2.out (by repeat(first|exact Below.refl _ _|refine Below.alloc ?_ (by(try simp)<;>omega) _|refine Below.setCell ?_ (by(try simp)<;>omega) _))) rfl (bU _ [.int .i64 rid,H rT rt.length rk] _ (by simp)) rfl HON.out (by omega) (by first|omega|(simp;omega)) ?_;intro B9 k9 w9 hown9 hc9 hb9 hg9 hB9);have HO9:=G hown9;have HB9:=U (By W2 w9) ((HBX.out.trans (show Below W2.heap.size wc _ from(by repeat(first|exact Below.refl _ _|refine Below.alloc ?_ (by(try simp)<;>omega) _|refine Below.setCell ?_ (by(try simp)<;>omega) _)))).trans hb9);clear hown9 hc9 hb9 hg9 hB9;go_wp2_with fail;go_roundw
  case rel=>exact⟨j+1,B9,k9,by omega,by go_num,rfl,by rw[HTK.out];exact HO9.out,HB9.out⟩
  simp[intOf];omega
 obtain rfl:j=n0:=by omega
 have db:decide (j<j)=false:=decide_eq_false hj;have d2:=(Y2.below hbx Y2.lt).c 12 rfl;have d3:=(Y3.below hbx Y3.lt).c 0 rfl;have d4:=(Y3.below hbx Y3.lt).c 1 rfl;clear Y0 Y2 Y3 HO;go_upto_region 11 with(at_builtin;refine aJ _ _ 44 93 (.agg #[.int .i64 0,H N 0 0]) 2 32 rfl rfl underlying44 nA rfl (by decide) (by decide) rfl (aK HO2.out (by repeat(first|exact Below.refl _ _|refine Below.alloc ?_ (by(try simp)<;>omega) _|refine Below.setCell ?_ (by(try simp)<;>omega) _))) rfl (bU _ [.int .i64 id,H T t.length k] _ (by simp)) rfl HONE.out (by omega) (by first|omega|(simp;omega)) ?_;intro B9 k9 w9 hown9 hc9 hb9 hg9 hB9)
 have HO9:=G hown9;have HB9:=U (By W2 w9) ((HBX.out.trans (show Below W2.heap.size wc _ from(by repeat(first|exact Below.refl _ _|refine Below.alloc ?_ (by(try simp)<;>omega) _|refine Below.setCell ?_ (by(try simp)<;>omega) _)))).trans hb9);clear hown9 hc9 hb9 hg9 hB9 d2 d3 d4;obtain⟨Z0,Z1,Z2,Z3⟩:=XS.out;have d2:=(Z2.below HB9.out l2).c 12 rfl;have rc1:∀W,(Instr.sliceAt 44 (H A1 S.length k1) (Z (.int .i64 (j:Int))) N N).run prog W=.ok (H (nT A1 k1 j) (S.length-j) (k1-j)) W:=fun W=>YU A1 S.length k1 j (by omega) W
 have HTL:=G ((HRS.out.below HB9.out).from HOC.out (lo:=j));have hs9:=HB9.out.size;clear Z0 Z1 Z2 Z3;go_upto_region 12 with(at_builtin;refine aJ _ _ 44 93 (.agg #[.int .i64 0,H N 0 0]) 2 32 rfl rfl underlying44 nA rfl (by decide) (by decide) rfl (HO9.out) rfl (HTL.out) (by rw[xM,List.length_drop]) (UA _) (by omega) (by first|omega|(simp;omega)) ?_;intro B8 k8 w8 hown8 hc8 hb8 hg8 hB8)
 have HO8:=G hown8;have HB8:=U (By W2 w8) (HB9.out.trans hb8);have hs8:=HB8.out.size;clear hown8 hc8 hb8 hg8 hB8 d2 rc1 HTL HO9 HB9;obtain⟨Z0,Z1,Z2,Z3⟩:=XS.out;have Y1:=Z1.below HB8.out (by omega);have Y2:=Z2.below HB8.out l2;have BW:=BB.out.trans (HB8.out.mono BB.out.size);have EN:R'.length=j+1+(S.length-j):=by rw[HPL.out];omega
 rw[<-EN]at HO8|-;have HOF:=U (w8.ownsRow W2.heap.size 93 2 (H B8 R'.length k8) R'.length (aF Rit.cells R')) (by rw[HPE.out,<-List.append_assoc];exact HO8.out);have f12:=Y2.free 12;have c12:=Y2.c 12 rfl
 have W5E:∃W5,w8.setCell ⟨W1.heap.size,12,N⟩ (H B8 R'.length k8)=W5/\Box W5 W1.heap.size 46 [H V.A0 x.cls.length V.k0,H V.A1 x.dec.length V.k1,H V.A2 x.exc.length V.k2,H V.C c.ents.length V.a,H V.B c.grps.length V.b,.int .i64 c.base,.int .i64 c.second,.int .i64 c.third,.int .i64 o.st,.int .i64 o.va,.bool o.bk,.bool o.idn,H B8 R'.length k8]/\Box W5 (w.heap.size+1) 46 [H N 0 0,H N 0 0,H N 0 0,H N 0 0,H N 0 0,.int .i64 0,.int .i64 0,.int .i64 0,.int .i64 0,.int .i64 0,.bool false,.bool false,H N 0 0]/\By w W5/\W5.ownsRow W2.heap.size 93 2 (H B8 R'.length k8) R'.length (aF Rit.cells R'):=
  ⟨_,rfl,Y2.set 12 _,bG Y1 _ (by simp;omega) _,BW.setCell (by simp;omega) _,kR HOF.out (by simp;omega) _⟩
 clear Z0 Z1 Z2 Z3 Y1 Y2 BW EN HO8 HOF XS HB8 HBX HO2;go_upto_region 13 with(fail)
 obtain⟨W5,hW5,Z0,Z1,BW5,HO5⟩:=W5E;rw[hW5];clear hW5 c12 f12;obtain⟨a0,a1,a2,a3,a4,a5,a6,a7,a8,a9,a10,a11,a12⟩:=Z0.c13;obtain⟨g0,g1,g2,g3,g4,g5,g6,g7,g8,g9,g10,g11,g12⟩:=Z1.c13;obtain⟨f0,f1,f2,f3,f4,f5,f6,f7,f8,f9,f10,f11,f12⟩:=Z1.f13;have W6E:=CB Z1 rfl (H V.A0 x.cls.length V.k0) (H V.A1 x.dec.length V.k1) (H V.A2 x.exc.length V.k2) (H V.C c.ents.length V.a) (H V.B c.grps.length V.b) (.int .i64 c.base) (.int .i64 c.second) (.int .i64 c.third) (.int .i64 o.st) (.int .i64 o.va) (.bool o.bk) (.bool o.idn) (H B8 R'.length k8);have HB:=G BW5;have HO6:=G HO5;clear Z0 Z1 BW5 HO5;go_wp2_with fail;obtain⟨Wf,hWf,ZF,GF⟩:=W6E;rw[hWf];clear hWf;(try simp only[Exit.inBlock,Exit.then]);refine bodyPost_ret (XL rfl _ _ (b:=w.heap.size+1) rfl ZF) rfl ?_;refine⟨B8,k8,rfl,eL (HO6.out.kept GF (.inr ?_)) (by have:=BB.out.size;omega),?_⟩
 ·intro e
  have:=(HO6.out.lt _ e).1;omega
 exact HB.out.grown GF HB.out.size (fun q e=>by injection e with e;omega)
end
section
open Go.RowKit
theorem KH(A B:Oa)(n m c d:Nat)(xs ys:Li)(w:Wv)(hA:aA w A xs)(hB:aA w B ys)(hn:xs.length=n)(hm:ys.length=m)
  (hn':n<=9223372036854775807) (hm':m<=9223372036854775807) :
  Calls prog 51 #[H A n c,H B m d] w fun e w'=>e=.returned (.bool (decide (xs=ys)))/\Qt w w':=by
 have hd:decide (xs=ys)=(aD xs ys==0):=by
  rw[Bool.eq_iff_iff];simp[iB]
 rw[hd];clear hd;have HC:=G (oP A B n m c d xs ys w hA hB hn hm hn' hm');clear hA hB hn hm;go_enter func51,ntmps51;go_wp2_with fail;refine HC.out.mono ?_;rintro e w' ⟨rfl,q,rfl⟩;go_wp2_with fail;go_ret;exact⟨rfl,by repeat(first|exact Qt.refl _|refine Qt.drewN ?_ _)⟩
end
section
open Go.RowKit Go.Maps Go.WideMaps Srl
theorem RB{K:Li->Li}{L:Its}(h:Srt K L)(t:Li):((idsL L).take (fle (kL K L) (K t))).drop (frm (kL K L) (K t))=idsL (lookL K L t):=by
 rw[<-look_cut h t];unfold idsL;rw[List.map_drop,List.map_take]
theorem PH{K:Li->Li}(L:Its):(kL K L).map Prod.snd=idsL L:=by unfold kL idsL;rw[List.map_map];rfl
theorem IOq{K:Li->Li}{L:Its}(h:Srt K L){a b:Li}(hab:frm (kL K L) (K a)<=frm (kL K L) (K b)):((idsL L).take (frm (kL K L) (K b))).drop (frm (kL K L) (K a))=idsL (btwL K L a b):=by
 have h1:=btw_cut h.asc hab;have h2:=congrArg (List.map Prod.snd) h1;rw[List.map_drop,List.map_take,PH]at h2;rw[h2];unfold btw btwL idsL kL;rw[List.filter_map,List.map_map];rfl
theorem IP{K:Li->Li}{L:Its}{a b:Li}(hab:frm (kL K L) (K b)<frm (kL K L) (K a)):btwL K L a b=[]:=by
 unfold btwL;rw[List.filter_eq_nil_iff];intro p hp hq;simp only[Bool.and_eq_true,decide_eq_true_eq]at hq;have h1:aD (K a) (K b)<0:=by
  rcases Int.lt_or_eq_of_le hq.1 with g|g
  ·exact lI (by rw[Pk.cmp_neg];omega) hq.2
  have:=(iB _ _).1 g.symm;rw[<-this];exact hq.2
 have:=frm_mono (l:=kL K L) (a:=K a) (b:=K b) (by omega);omega
theorem BZ{w:Wv}{l bs:Nat}{V:LsV}{mb:Nat}{O:Oa}{oc cnt:Nat}{x:Nrm}{c:Col}{o:Opt}{f:Int->Option Value}{L:Its}(h:Lst w l bs V mb O oc cnt x c o f L)(D:Oa)(dk:Nat)(t:Li)(hD:aA w D t)(ht:t.length<=16384)(hio:∀z∈t,iok z):
  Calls prog 24 #[.pointer (Z ⟨l,0,N⟩),H D t.length dk] w (bE (idsL (lookL (kyN x c o) L t)) w):=by
 have X0:=h.box;unfold lsC at X0;have l0:=X0.lt;have c12:=X0.c 12 rfl;have NM:∀W,(binOp .eql 78 (.map (Z mb)) (.map N)).run prog W=.ok (.bool false) W:=oV mb;have KC:=G (nP h D t.length dk t hD rfl ht hio);have HH:=G h;have hkl:=iF x c o t;have EI:=G (RB h.srt t);have HS1:=G (fun i(hi:i<L.length)=>fle_iff h.srt.asc (kyN x c o t) i (by rw[kL_len];exact hi));have HS2:=G (fun i(hi:i<L.length)=>frm_iff h.srt.asc (kyN x c o t) i (by rw[kL_len];exact hi));have hlf:=frm_fle (kL (kyN x c o) L) (kyN x c o t);have hfl:fle (kL (kyN x c o) L) (kyN x c o t)<=L.length:=by unfold fle;exact Nat.le_trans (cnt_le _) (by rw[kL_len];exact Nat.le_refl _)
 have hlo:=lQ h.row;have hL100:=h.len
 have HQ:=G (fun i(hi:i<L.length)(hf:frm (kL (kyN x c o) L) (kyN x c o t)<=i)=>show decide (kyN x c o L[i].2=kyN x c o t)=decide (i<fle (kL (kyN x c o) L) (kyN x c o t)) by
  have h1:=HS1.out i hi
  have h2:=HS2.out i hi
  rw[kL_get i hi]at h1 h2
  dsimp only at h1 h2
  have h3:=iB (kyN x c o L[i].2) (kyN x c o t)
  rw[Bool.eq_iff_iff]
  simp only[decide_eq_true_eq]
  rw[<-h3,<-h1]
  omega)
 unfold bE at KC|-;have FC:=G (fun(W:Wv) K kk (hW:Lst W l bs V mb O oc cnt x c o f L) (hK:aA W K (kyN x c o t))=>uB hW K kk (kyN x c o t) hK (by omega));have hil:=idsL_len (L:=L);rw[<-EI.out];have HIL:=G hil;clear EI;generalize fle (kL (kyN x c o) L) (kyN x c o t)=hi at *;generalize frm (kL (kyN x c o) L) (kyN x c o t)=lo at *;generalize hkg:kyN x c o t=k at *;clear h hD hio X0 HS1 HS2 hil hkg;go_enter func24,ntmps24;go_wp2_with fail;with_reducible refine KC.out.mono ?_
 rintro e W1 ⟨K1,kk1,rfl,hK,hb1⟩;have HK:=G hK;have FC1:=G (FC.out W1 K1 kk1 (HH.out.below hb1) (Sl.of_own hK));clear KC FC hK c12;go_wp2_with fail;with_reducible refine FC1.out.mono ?_
 rintro e W2 ⟨rfl,hb2⟩;have hb02:=hb1.trans (hb2.mono hb1.size);have HB2:=G hb2;clear FC1 hb2 hb1;go_upto_region 6 with(fail)
 go_loopw [7] (fun u wr=>∃e:Nat,lo<=e/\e<=hi/\u=I J e/\By W2 wr) (fun u _=>hi-(intOf u).toNat)
 case atStart=>exact⟨lo,Nat.le_refl _,hlf,rfl,Below.refl _ _⟩
 obtain⟨e,hle,heh,rfl,hbr⟩:=hrel;have hbw:=hb02.trans (hbr.mono hb02.size);have Hr:=G (HH.out.below hbw);have HBR:=G hbr;have Xr:=Hr.out.box;unfold lsC at Xr;have lr:=Xr.lt;clear hbr
 have LAST:=G (fun(he:e=hi) W (hb:By wr W)=>show Calls prog 47 #[H (bV O oc lo) (hi-lo) (oc-lo)] W (bE (((idsL L).take hi).drop lo) W)from
  jC (bV O oc lo) (hi-lo) (oc-lo) (((idsL L).take hi).drop lo) W ((aA.sub (Hr.out.ids.below hb) hlf (by rw[HIL.out];omega) (by rw[HIL.out];omega))) (by simp[HIL.out];omega) (by omega))
 have hlen:(((idsL L).take hi).drop lo).length=hi-lo:=by simp[HIL.out];omega
 have HLN:=G hlen;clear hlen;by_cases hlt:e<L.length
 ·have d1:decide ((e:Int)<(L.length:Int))=true:=by simp;omega
  have LAST':=LAST;have Hr':=Hr;obtain⟨g,hO,hg1,hg2,hcell⟩:=Hr.out.at hlt;obtain⟨T,tk,K,kk,hf,hT,hK'⟩:=Hr.out.get hlt;have hid':=(Hr.out.ok _ (List.getElem_mem hlt)).1;have hkl':=iF x c o L[e].2;have htl:=(Hr.out.ok _ (List.getElem_mem hlt)).2.1;have HQe:=HQ.out e hlt hle;have HM:=G (fun W(hb:By wr W)=>(Hr.out.map.is.below hb:hZ W mb cnt f));have SHX:=G (fun W'(hb':By wr W')=>show W'.cell? ⟨l,12,N⟩=Z (.map (Z mb))/\W'.cell? ⟨l,13,N⟩=Z (H O L.length oc)/\W'.cell? ⟨g,e,N⟩=Z (I J L[e].1)/\By wr W' from⟨(Xr.below hb' lr).c 12 rfl,(Xr.below hb' lr).c 13 rfl,(hb'.cell (p:=⟨g,e,N⟩) hg2).trans hcell,hb'⟩);subst hO;have SH:=SHX;have TC0:=G (fun W(hb':By wr W)=>KH K K1 (kyN x c o L[e].2).length k.length kk kk1 (kyN x c o L[e].2) k W (hK'.1.below hb') ((((Sl.of_own HK.out:aA W1 K1 k).below HB2.out).below HBR.out).below hb') rfl rfl (by omega) (by omega));rw[HQe]at TC0;generalize kyN x c o L[e].2=ky at *;generalize L[e].2.length=tl at *;generalize L[e].1=id' at *;have TC1:=G (fun W(hb':By wr W)=>(TC0.out W hb').mono (R':=fun e' W'=>e'=.returned (.bool (decide (e<hi)))/\(W'.cell? ⟨l,12,N⟩=Z (.map (Z mb))/\W'.cell? ⟨l,13,N⟩=Z (H (Z ⟨g,0,N⟩) L.length oc)/\W'.cell? ⟨g,e,N⟩=Z (I J id')/\By wr W')) (fun e' W' hh=>⟨hh.1,SH.out W' (hb'.trans (hh.2.below.mono hb'.size))⟩));have HID:=G hid';have HF:=G hf;by_cases heq:e<hi
  ·rw[decide_eq_true heq]at TC1
   clear hT hK' hf hid' hkl' htl hcell TC0 HQe LAST LAST' Xr SHX;go_upto_region 6 with(fail)
   refine wp_region_held_drew (S:=fun W'=>W'.cell? ⟨l,12,N⟩=Z (.map (Z mb))/\W'.cell? ⟨l,13,N⟩=Z (H (Z ⟨g,0,N⟩) L.length oc)/\W'.cell? ⟨g,e,N⟩=Z (I J id')/\By wr W') (by kernel_rfl) (SH.out _ ((Below.refl _ _).drew)) (fun hHeld=>?_);refine tK 0 24 ?_;refine tK 1 25 ?_;refine tK 2 26 ?_;refine tK 3 27 ?_;refine tK 4 28 ?_;refine tK 5 29 ?_;refine tK 6 30 ?_;refine tK 7 31 ?_;refine tK 8 32 ?_;refine tK 9 33 ?_;refine tK 10 34 ?_;refine tK 11 35 ?_;refine tK 12 36 ?_;refine tK 13 37 ?_;refine tK 14 38 ?_;refine tK 15 39 ?_;refine tK 16 40 ?_;refine tK 17 41 ?_;refine tK 18 42 ?_;refine oJ (i:=19) (v:=.agg #[H T tl tk,H K ky.length kk]) (Z 43) rfl rfl (by kernel_rfl) (by kernel_rfl) (by kernel_rfl) (fun _ _ _ h=>h) (by rfl) (by assumption) _ _ 78 rfl (fun W hS=>HM.out W hS.2.2.2) eD underlying78 jI rfl rfl HID.out (eC HID.out) (by rw[HF.out];rfl) ?_;try simp only[Act.put,sA,sB,sC]
   refine eR (i:=20) (v:=H K ky.length kk) (Z 44) rfl rfl (by kernel_rfl) (by kernel_rfl) (by kernel_rfl) (fun _ _ _ h=>h) (by rfl) (by assumption) (fun W _=>oZ _ _ W) ?_;try simp only[Act.put,sA,sB,sC]
   refine tK 21 45 ?_;refine qK 22 46 (TC1.out _ hHeld.2.2.2) ?_;clear hHeld;intro W5 hHeld;refine tK 23 47 ?_;refine wpAnyH_done (by kernel_rfl) ?_ _;have hbf:=hHeld.2.2.2;have HBF:=G (HBR.out.trans (hbf.mono HBR.out.size));clear hHeld SH TC1 hbf Hr' HM;go_wp2_with fail;go_roundw
   case rel=>exact⟨e+1,by omega,by omega,by go_num,HBF.out⟩
   simp[intOf];omega
  rw[decide_eq_false heq]at TC1;obtain rfl:e=hi:=by omega
  clear hT hK' hf hid' hkl' htl hcell TC0 HQe LAST SHX;go_upto_region 6 with(fail)
  refine wp_region_held_drew (S:=fun W'=>W'.cell? ⟨l,12,N⟩=Z (.map (Z mb))/\W'.cell? ⟨l,13,N⟩=Z (H (Z ⟨g,0,N⟩) L.length oc)/\W'.cell? ⟨g,e,N⟩=Z (I J id')/\By wr W') (by kernel_rfl) (SH.out _ ((Below.refl _ _).drew)) (fun hHeld=>?_);refine tK 0 24 ?_;refine tK 1 25 ?_;refine tK 2 26 ?_;refine tK 3 27 ?_;refine tK 4 28 ?_;refine tK 5 29 ?_;refine tK 6 30 ?_;refine tK 7 31 ?_;refine tK 8 32 ?_;refine tK 9 33 ?_;refine tK 10 34 ?_;refine tK 11 35 ?_;refine tK 12 36 ?_;refine tK 13 37 ?_;refine tK 14 38 ?_;refine tK 15 39 ?_;refine tK 16 40 ?_;refine tK 17 41 ?_;refine tK 18 42 ?_;refine oJ (i:=19) (v:=.agg #[H T tl tk,H K ky.length kk]) (Z 43) rfl rfl (by kernel_rfl) (by kernel_rfl) (by kernel_rfl) (fun _ _ _ h=>h) (by rfl) (by assumption) _ _ 78 rfl (fun W hS=>HM.out W hS.2.2.2) eD underlying78 jI rfl rfl HID.out (eC HID.out) (by rw[HF.out];rfl) ?_;try simp only[Act.put,sA,sB,sC]
  refine eR (i:=20) (v:=H K ky.length kk) (Z 44) rfl rfl (by kernel_rfl) (by kernel_rfl) (by kernel_rfl) (fun _ _ _ h=>h) (by rfl) (by assumption) (fun W _=>oZ _ _ W) ?_;try simp only[Act.put,sA,sB,sC]
  refine tK 21 45 ?_;refine qK 22 46 (TC1.out _ hHeld.2.2.2) ?_;clear hHeld;intro W5 hHeld;refine tK 23 47 ?_;refine wpAnyH_done (by kernel_rfl) ?_ _;have hbf:=hHeld.2.2.2;have c13:=(Xr.below hbf lr).c 13 rfl;have LC:=G (LAST'.out rfl _ hbf);have rc:=nN (Z ⟨g,0,N⟩) L.length oc lo e hlf (by omega);have HBF:=G (hbw.trans (hbf.mono hbw.size));unfold bE at LC;rw[HLN.out]at LC;clear hHeld SH TC1 hbf Hr' HM Xr;go_wp2_with fail;with_reducible refine LC.out.mono ?_
  rintro e' W9 ⟨E9,d9,rfl,hE9,hb9⟩;go_wp2_with fail;go_ret;rw[HLN.out];exact⟨E9,d9,rfl,eL hE9 HBF.out.size,HBF.out.trans (hb9.mono HBF.out.size)⟩
 have d1:decide ((e:Int)<(L.length:Int))=false:=by simp;omega
 obtain rfl:e=hi:=by omega
 have SH:=G (fun W'(hb':By wr W')=>show W'.cell? ⟨l,13,N⟩=Z (H O L.length oc)/\By wr W' from⟨(Xr.below hb' lr).c 13 rfl,hb'⟩);go_upto_region 6 with(fail)
 refine wp_region_held_drew (S:=fun W'=>W'.cell? ⟨l,13,N⟩=Z (H O L.length oc)/\By wr W') (by kernel_rfl) (SH.out _ ((Below.refl _ _).drew)) (fun hHeld=>?_);refine tK 0 24 ?_;refine tK 1 25 ?_;refine tK 2 26 ?_;refine tK 3 27 ?_;refine tK 4 28 ?_;refine tK 5 29 ?_;refine tK 6 30 ?_;refine tK 7 31 ?_;refine sK 8 32 ?_;refine sK 9 33 ?_;refine sK 10 34 ?_;refine sK 11 35 ?_;refine sK 12 36 ?_;refine sK 13 37 ?_;refine sK 14 38 ?_;refine sK 15 39 ?_;refine sK 16 40 ?_;refine sK 17 41 ?_;refine sK 18 42 ?_;refine sK 19 43 ?_;refine sK 20 44 ?_;refine sK 21 45 ?_;refine sK 22 46 ?_;refine tK 23 47 ?_;refine wpAnyH_done (by kernel_rfl) ?_ _;have hbf:=hHeld.2;have c13:=(Xr.below hbf lr).c 13 rfl;have LC:=G (LAST.out rfl _ hbf);have rc:=nN O L.length oc lo e hlf (by omega);have HBF:=G (hbw.trans (hbf.mono hbw.size));unfold bE at LC;rw[HLN.out]at LC;clear hHeld SH hbf Hr Xr LAST;go_wp2_with fail;with_reducible refine LC.out.mono ?_
 rintro e' W9 ⟨E9,d9,rfl,hE9,hb9⟩;go_wp2_with fail;go_ret;rw[HLN.out];exact⟨E9,d9,rfl,eL hE9 HBF.out.size,HBF.out.trans (hb9.mono HBF.out.size)⟩
theorem BV{w:Wv}{l bs:Nat}{V:LsV}{mb:Nat}{O:Oa}{oc cnt:Nat}{x:Nrm}{c:Col}{o:Opt}{f:Int->Option Value}{L:Its}(h:Lst w l bs V mb O oc cnt x c o f L)(D:Oa)(dk:Nat)(t:Li)(D':Oa)(dk':Nat)(t':Li)(hD:aA w D t)(hD':aA w D' t')(ht:t.length<=16384)(ht':t'.length<=16384)(hio:∀z∈t,iok z)(hio':∀z∈t',iok z):
  Calls prog 26 #[.pointer (Z ⟨l,0,N⟩),H D t.length dk,H D' t'.length dk'] w (fun e w'=>∃A k,e=.returned (H A (idsL (btwL (kyN x c o) L t t')).length k)/\aA w' A (idsL (btwL (kyN x c o) L t t'))/\(∀q,blk A=Z q->w.heap.size<=q)/\By w w'):=by
 have X0:=h.box;unfold lsC at X0;have l0:=X0.lt;have c12:=X0.c 12 rfl;have NM:∀W,(binOp .eql 78 (.map (Z mb)) (.map N)).run prog W=.ok (.bool false) W:=oV mb;have KC:=G (nP h D t.length dk t hD rfl ht hio);have HH:=G h;have KC2:=G (fun W(hb:By w W)=>nP (h.below hb) D' t'.length dk' t' (hD'.below hb) rfl ht' hio');have hkl:=iF x c o t;have hkl':=iF x c o t';have hlo:=lQ h.row;have hL100:=h.len;have FC:=G (fun(W:Wv) K kk (hW:Lst W l bs V mb O oc cnt x c o f L) (hK:aA W K (kyN x c o t))=>uB hW K kk (kyN x c o t) hK (by omega));have FC2:=G (fun(W:Wv) K kk (hW:Lst W l bs V mb O oc cnt x c o f L) (hK:aA W K (kyN x c o t'))=>uB hW K kk (kyN x c o t') hK (by omega));have hf1:frm (kL (kyN x c o) L) (kyN x c o t')<=L.length:=by unfold frm;exact Nat.le_trans (cnt_le _) (by rw[kL_len];exact Nat.le_refl _)
 have HN:=G (IP (K:=kyN x c o) (L:=L) (a:=t) (b:=t'));have HI:=G (IOq (K:=kyN x c o) (L:=L) h.srt (a:=t) (b:=t'));have hil:=idsL_len (L:=L);have HIL:=G hil;unfold bE at KC KC2;generalize btwL (kyN x c o) L t t'=R at *;generalize frm (kL (kyN x c o) L) (kyN x c o t)=lo at *;generalize frm (kL (kyN x c o) L) (kyN x c o t')=hi at *;generalize kyN x c o t=k at *;generalize kyN x c o t'=k' at *;clear h hD hD' hio hio' X0 hil;go_enter func26,ntmps26;go_wp2_with fail;with_reducible refine KC.out.mono ?_
 rintro e W1 ⟨K1,kk1,rfl,hK,hb1⟩;have FC1:=G (FC.out W1 K1 kk1 (HH.out.below hb1) (Sl.of_own hK));clear KC FC hK c12;go_wp2_with fail;with_reducible refine FC1.out.mono ?_
 rintro e W2 ⟨rfl,hb2⟩;have hb02:=hb1.trans (hb2.mono hb1.size);clear FC1 hb2 hb1;go_wp2_with fail;with_reducible refine(KC2.out W2 hb02).mono ?_
 rintro e W3 ⟨K2,kk2,rfl,hK2,hb3⟩;have hb03:=hb02.trans (hb3.mono hb02.size);have FC3:=G (FC2.out W3 K2 kk2 (HH.out.below hb03) (Sl.of_own hK2));clear KC2 FC2 hK2 hb3 hb02;go_wp2_with fail;with_reducible refine FC3.out.mono ?_
 rintro e W4 ⟨rfl,hb4⟩;have hb04:=hb03.trans (hb4.mono hb03.size);have H4:=G (HH.out.below hb04);have X4:=H4.out.box;unfold lsC at X4;have c13:=X4.c 13 rfl;clear FC3 hb4 hb03 X4;by_cases hlt:hi<lo
 ·have HR:=G (HN.out hlt)
  have d1:decide ((hi:Int)<(lo:Int))=true:=by simp;omega
  clear HN HI;go_wp2_with fail;go_ret;rw[HR.out];exact⟨N,0,rfl,Sl.nil _ _,(fun q hq=>by cases hq),hb04⟩
 have d1:decide ((hi:Int)<(lo:Int))=false:=by simp;omega
 have hle:lo<=hi:=by omega
 have HR:=G (HI.out hle);have rc:=nN O L.length oc lo hi hle (by omega);have hlen:(((idsL L).take hi).drop lo).length=hi-lo:=by simp[HIL.out];omega
 have LC:=G (jC (bV O oc lo) (hi-lo) (oc-lo) (((idsL L).take hi).drop lo) W4 ((aA.sub H4.out.ids hle (by rw[HIL.out];omega) (by rw[HIL.out];omega))) hlen (by omega));unfold bE at LC;rw[hlen]at LC;have HLN:=G hlen;clear HN HI hlt hlen;go_wp2_with fail;with_reducible refine LC.out.mono ?_
 rintro e' W9 ⟨E9,d9,rfl,hE9,hb9⟩;have HE:=G hE9;clear LC hE9 rc c13;go_wp2_with fail;go_ret;rw[<-HR.out,HLN.out];exact⟨E9,d9,rfl,Sl.of_own HE.out,fun q hq=>Nat.le_trans hb04.size (dD HE.out hq).1,hb04.trans (hb9.mono hb04.size)⟩
end
end Go.Proofs.YtpfbnikbebccjaaGreatDoor
