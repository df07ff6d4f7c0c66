import Derived.Test.YtkhmjidaeliccaaGreatDoorD00
import Derived.Test.YtkhmjidaeliccaaGreatDoorD01
import Derived.Test.YtkhmjidaeliccaaGreatDoorD02
import Derived.Test.YtkhmjidaeliccaaGreatDoorD09
import Derived.Test.YtkhmjidaeliccaaGreatDoorD19
import Derived.Test.YtkhmjidaeliccaaGreatDoorD25
import Derived.Test.YtkhmjidaeliccaaGreatDoorD26
import Derived.Laws.BytesArg
import Derived.Lib.Join
import Derived.Deep.Cut
import Derived.Shelf.Strings.OnBuilder
import Derived.Test.YtkhmjidaeliccaaGreatDoorProg
import Derived.Shelf.Strings.BuilderK
set_option maxRecDepth 100000
set_option maxHeartbeats 51200000
namespace Go.Proofs.YtkhmjidaeliccaaGreatDoor
open Option renaming none->N,some->Z
open Value renaming int->I,slice->H
open IntKind renaming i64->J
open Go.Proofs.Tryz
namespace Pa
open Go.RowKit Tl
def nH(m:Nat):Nat:=if m<65536 then 4 else if m<1048576 then 5 else 6
theorem nH_bd(m:Nat):4<=nH m/\nH m<=6:=by unfold nH;split;omega;split<;>omega
def dgH(m j:Nat):Int:=hd ((m/16^j%16:Nat):Int)
def bufI(m i:Nat):Li:=(List.range 6).map fun k=>if 5-k<i then dgH m (5-k)else 0
theorem bufI_len(m i:Nat):(bufI m i).length=6:=by unfold bufI;simp
theorem bufI_set(m i:Nat)(hi:i<6):(bufI m i).set (5-i) (dgH m i)=bufI m (i+1):=by
 have h:i=0\/i=1\/i=2\/i=3\/i=4\/i=5:=by omega
 rcases h with rfl|rfl|rfl|rfl|rfl|rfl<;>rfl
theorem dgH_eq(m:Nat):dgH m 0=hd ((m:Int)%16)/\dgH m 1=hd ((m:Int)/16%16)/\dgH m 2=hd ((m:Int)/256%16)/\dgH m 3=hd ((m:Int)/4096%16)/\dgH m 4=hd ((m:Int)/65536%16)/\dgH m 5=hd ((m:Int)/1048576%16):=by
 unfold dgH;simp only[Nat.reducePow];refine⟨congrArg hd ?_,congrArg hd ?_,congrArg hd ?_,congrArg hd ?_,congrArg hd ?_,congrArg hd ?_⟩<;>omega
theorem hexI_buf{m:Nat}(hm:m<=1114111):hexI (m:Int)=(bufI m (nH m)).drop (6-nH m):=by
 obtain⟨e0,e1,e2,e3,e4,e5⟩:=dgH_eq m;unfold hexI nH;by_cases h1:m<65536
 ·rw[if_pos (by omega),if_pos h1]
  show _=[dgH m 3,dgH m 2,dgH m 1,dgH m 0]
  rw[e0,e1,e2,e3,show(m:Int)/4096%16=(m:Int)/4096 by omega]
 rw[if_neg (by omega),if_neg h1];by_cases h2:m<1048576
 ·rw[if_pos (by omega),if_pos h2]
  show _=[dgH m 4,dgH m 3,dgH m 2,dgH m 1,dgH m 0]
  rw[e0,e1,e2,e3,e4,show(m:Int)/65536%16=(m:Int)/65536 by omega]
 rw[if_neg (by omega),if_neg h2];show _=[dgH m 5,dgH m 4,dgH m 3,dgH m 2,dgH m 1,dgH m 0]
 rw[e0,e1,e2,e3,e4,e5,show(m:Int)/1048576%16=(m:Int)/1048576 by omega]
theorem nH_stop{m i:Nat}(hm:m<=1114111)(hi:i<=nH m)(h4:4<=i)(h0:m/16^i=0):i=nH m:=by
 have hb:=nH_bd m;have h:i=4\/i=5\/i=6:=by omega
 unfold nH at *;rcases h with rfl|rfl|rfl
 ·have:m<65536:=by simp only[Nat.reducePow]at h0;omega
  rw[if_pos this]
 ·have:m<1048576:=by simp only[Nat.reducePow]at h0;omega
  split at hi
  ·omega
  rw[if_neg (by assumption),if_pos this]
 split at hi
 ·omega
 split at hi
 ·omega
 rw[if_neg (by assumption),if_neg (by assumption)]
theorem nH_go{m i:Nat}(hi:i<6)(hn:i<=nH m)(h:¬(4<=i/\m/16^i=0)):i+1<=nH m:=by
 have hb:=nH_bd m;by_cases h4:4<=i
 ·have h2:i=4\/i=5:=by omega
  have h0:m/16^i≠0:=fun e=>h ⟨h4,e⟩
  unfold nH;rcases h2 with rfl|rfl
  ·have:¬m<65536:=by simp only[Nat.reducePow]at h0;omega
   rw[if_neg this];split<;>omega
  have:¬m<1048576:=by simp only[Nat.reducePow]at h0;omega
  rw[if_neg (by omega),if_neg this];exact Nat.le_refl _
 omega
def byt(r:Li):List UInt8:=r.map fun n=>UInt8.ofNat n.toNat
theorem byt_app(r s:Li):byt (r++s)=byt r++byt s:=by unfold byt;simp
def By8(r:Li):Prop:=∀z∈r,0<=z/\z<256
theorem By8.app{r s:Li}(h:By8 r)(g:By8 s):By8 (r++s):=fun z hz=>by
 rcases List.mem_append.1 hz with e|e
 ·exact h z e
 exact g z e
theorem join_codI:∀l:Li,Lib.join (l.map fun c=>byt (hexI c)) [32]=byt (codI l)
 | []=>rfl
 | [c]=>by
  show Lib.join [byt (hexI c)] [32]=_
  rw[Lib.join_one];rfl
 |c::d::r=>by
  have ih:=join_codI (d::r);show Lib.join (byt (hexI c)::(d::r).map fun c=>byt (hexI c)) [32]=byt (hexI c++32::codI (d::r))
  rw[byt_app,show byt (32::codI (d::r))=32::byt (codI (d::r))from rfl,<-ih];simp[Lib.join,List.intercalate]
theorem rng_all{l:Li}(h:rngT l=true):l≠[]/\∀z∈l,0<=z/\z<=1114111:=by
 unfold rngT at h;simp only[Bool.and_eq_true,Bool.not_eq_true',List.all_eq_true,decide_eq_true_eq]at h;refine⟨?_,h.2⟩;rintro rfl;simp at h
end Pa
section
open Go.RowKit Go.Maps Go.WideMaps Tl Pa
def jR(w:Wv):Prop:=∀i:Nat,i<16->w.cell? ⟨0,i,N⟩=Z (.int .u8 (hd i))
theorem jR.below{w w':Wv}(h:jR w)(hb:By w w'):jR w':=fun i hi=>(hb.cell (World.block_lt_of_cell? w _ (h i hi))).trans (h i hi)
def qD(s:ByteArray)(w:Wv)(e:Ending)(w':Wv):Prop:=e=.returned (.string s)/\By w w'
def eW(m i:Nat):Lv:=(bufI m i).map (Value.int .u8)
theorem LO(c:Int)(w:Wv)(hc:0<=c/\c<=1114111)(hG:jR w):Calls prog 136 #[I J c] w (qD (strOfNums (hexI c)) w):=by
 obtain⟨m,rfl⟩:∃m:Nat,c=m:=⟨c.toNat,by omega⟩;have hm:m<=1114111:=by omega
 have hv:inR 0 1114111 (m:Int)=true:=by unfold inR;simp;omega
 have VA:=G (fun W=>gM (m:Int) W);rw[hv]at VA;have XB:Box (w.alloc (.cells #[.int .u8 0,.int .u8 0,.int .u8 0,.int .u8 0,.int .u8 0,.int .u8 0] 219)) w.heap.size 219 (eW m 0):=Box.new w _ _ rfl;have BB:By w (w.alloc (.cells #[.int .u8 0,.int .u8 0,.int .u8 0,.int .u8 0,.int .u8 0,.int .u8 0] 219)):=ba _ _;have WE:=U (∃V,(w.alloc (.cells #[.int .u8 0,.int .u8 0,.int .u8 0,.int .u8 0,.int .u8 0,.int .u8 0] 219))=V) (⟨_,rfl⟩);have HG:=G (fun W(hb:By w W)=>hG.below hb);clear hG hv;have CV:=G (fun(W:Wv) b off len cap (xs:Li) hlen hcell=>run_convert_bytes_arg W 123 5 underlying123 underlying5 b off len cap xs hlen hcell 9 underlying9)
 have HFIN:=U (∀(W:Wv)(a:Nat),a+nH m=6->Box W w.heap.size 219 (eW m (nH m))->(convert 123 9 (H (Z ⟨w.heap.size,a,N⟩) (6-a) (6-a))).run prog W=.ok (.string (strOfNums (hexI (m:Int)))) W) (fun W a ha hX=>by
  have hl:(hexI (m:Int)).length=6-a:=by rw[hexI_buf hm,List.length_drop,bufI_len];omega
  refine CV.out W w.heap.size a (6-a) (6-a) (hexI (m:Int)) hl (fun k hk=>?_)
  have hk6:a+k<6:=by omega
  refine hX.cell ?_
  unfold eW
  rw[List.getElem?_map,hexI_buf hm,List.getD_eq_getElem?_getD,List.getElem?_drop,show 6-nH m+k=a+k by omega,List.getElem?_eq_getElem (by rw[bufI_len];exact hk6)]
  rfl)
 unfold qD;go_enter func136,ntmps136;go_wp2_with fail;with_reducible refine(VA.out _).mono ?_
 rintro e W1 ⟨rfl,rfl⟩;clear VA;go_upto_region 4 with(fail)
 obtain⟨V,hV⟩:=WE.out;rw[hV]at XB BB|-;clear hV WE;have HXB:=G XB;have HBB:=G BB;clear XB BB;go_wp2_with fail;go_loopw [0,4,9] (fun u0 u4 u9 wr=>∃i a q:Nat,a+i=6/\i<=nH m/\q=m/16^i/\u0=I J q/\u4=I J a/\u9=I J i/\Box wr w.heap.size 219 (eW m i)/\By w wr) (fun _ _ u _=>6-(intOf u).toNat)
 case atStart=>exact⟨0,6,m,rfl,Nat.zero_le _,by simp,rfl,rfl,rfl,HXB.out,HBB.out⟩
 obtain⟨i,a,q,hai,hn,hq,rfl,rfl,rfl,hX,hB⟩:=hrel;have HX:=G hX;have HB:=G hB;clear hX hB HXB HBB;by_cases h6:i<6
 ·have d1:decide ((i:Int)<6)=true:=by simp;omega
  by_cases h4:4<=i
  ·have d2:decide ((4:Int)<=(i:Int))=true:=by simp;omega
   by_cases hq0:q=0
   ·have d3:((q:Int)==0)=true:=by simp;omega
    obtain rfl:=nH_stop hm hn h4 (by rw[<-hq];exact hq0);have hfin:=HFIN.out wr a (by omega) HX.out;have hle:a<=6:=by omega
    have ha8:(a:Int)<=6:=by omega
    clear hq;go_wp2_with fail;go_ret;exact⟨rfl,HB.out⟩
   have d3:((q:Int)==0)=false:=by simp;omega
   have hstop:¬(4<=i/\m/16^i=0):=fun h=>hq0 (by rw[hq];exact h.2)
   obtain⟨a',rfl⟩:∃a',a=a'+1:=⟨a-1,by omega⟩;have hsub:((a'+1:Nat):Int)-1=(a':Int):=by omega
   have hqle:q<=1114111:=by rw[hq];exact Nat.le_trans (Nat.div_le_self _ _) hm
   have hn':=nH_go h6 hn hstop;have hd1:(0:Int)<=((q%16:Nat):Int):=by omega
   have hd2:((q%16:Nat):Int)<16:=by omega
   have hlt:q%16<16:=Nat.mod_lt _ (by decide);have ha6:a' < 6:=by omega
   have ha7:(a':Int)<6:=by omega
   have hrem:Int.tmod (q:Int) 16=((q%16:Nat):Int):=by rw[Int.tmod_eq_emod_of_nonneg (by omega)];omega
   have hquo:Int.tdiv (q:Int) 16=((q/16:Nat):Int):=by rw[Int.tdiv_eq_ediv_of_nonneg (by omega)];omega
   have g0:=HG.out wr HB.out (q%16) hlt;have hlen:(eW m i).length=6:=by unfold eW;rw[List.length_map,bufI_len]
   have c0:=HX.out.cell (i:=a') (List.getElem?_eq_getElem (by rw[hlen];exact ha6));have f0:=HX.out.free a';have hset:(eW m i).set a' (.int .u8 (hd ((q%16:Nat):Int)))=eW m (i+1):=by
    unfold eW;rw[<-bufI_set m i h6,show 5-i=a' by omega,List.map_set,hq];rfl
   have HX2:=U (Box (wr.setCell ⟨w.heap.size,a',N⟩ (.int .u8 (hd ((q%16:Nat):Int)))) w.heap.size 219 (eW m (i+1))) (hset ▸ HX.out.set a' _);have HB2:=G (HB.out.setCell (p:=⟨w.heap.size,a',N⟩) (Nat.le_refl _) (.int .u8 (hd ((q%16:Nat):Int))));have HQ2:=U (q/16=m/16^(i+1)) (by rw[hq,Nat.div_div_eq_div_mul,Nat.pow_succ]);have HAI:=G hai;clear hset hq hai;go_wp2_with fail;go_roundw
   case rel=>exact⟨i+1,a',q/16,by have:=HAI.out;omega,hn',HQ2.out,by go_num,by go_num,by go_num,HX2.out,HB2.out⟩
   (try simp[intOf])<;>(try omega)
  have d2:decide ((4:Int)<=(i:Int))=false:=by simp;omega
  have hstop:¬(4<=i/\m/16^i=0):=fun h=>h4 h.1
  obtain⟨a',rfl⟩:∃a',a=a'+1:=⟨a-1,by omega⟩;have hsub:((a'+1:Nat):Int)-1=(a':Int):=by omega
  have hqle:q<=1114111:=by rw[hq];exact Nat.le_trans (Nat.div_le_self _ _) hm
  have hn':=nH_go h6 hn hstop;have hd1:(0:Int)<=((q%16:Nat):Int):=by omega
  have hd2:((q%16:Nat):Int)<16:=by omega
  have hlt:q%16<16:=Nat.mod_lt _ (by decide);have ha6:a' < 6:=by omega
  have ha7:(a':Int)<6:=by omega
  have hrem:Int.tmod (q:Int) 16=((q%16:Nat):Int):=by rw[Int.tmod_eq_emod_of_nonneg (by omega)];omega
  have hquo:Int.tdiv (q:Int) 16=((q/16:Nat):Int):=by rw[Int.tdiv_eq_ediv_of_nonneg (by omega)];omega
  have g0:=HG.out wr HB.out (q%16) hlt;have hlen:(eW m i).length=6:=by unfold eW;rw[List.length_map,bufI_len]
  have c0:=HX.out.cell (i:=a') (List.getElem?_eq_getElem (by rw[hlen];exact ha6));have f0:=HX.out.free a';have hset:(eW m i).set a' (.int .u8 (hd ((q%16:Nat):Int)))=eW m (i+1):=by
   unfold eW;rw[<-bufI_set m i h6,show 5-i=a' by omega,List.map_set,hq];rfl
  have HX2:=U (Box (wr.setCell ⟨w.heap.size,a',N⟩ (.int .u8 (hd ((q%16:Nat):Int)))) w.heap.size 219 (eW m (i+1))) (hset ▸ HX.out.set a' _);have HB2:=G (HB.out.setCell (p:=⟨w.heap.size,a',N⟩) (Nat.le_refl _) (.int .u8 (hd ((q%16:Nat):Int))));have HQ2:=U (q/16=m/16^(i+1)) (by rw[hq,Nat.div_div_eq_div_mul,Nat.pow_succ]);have HAI:=G hai;clear hset hq hai;go_wp2_with fail;go_roundw
  case rel=>exact⟨i+1,a',q/16,by have:=HAI.out;omega,hn',HQ2.out,by go_num,by go_num,by go_num,HX2.out,HB2.out⟩
  (try simp[intOf])<;>(try omega)
 have d1:decide ((i:Int)<6)=false:=by simp;omega
 have hb:=nH_bd m;obtain rfl:i=nH m:=by omega
 have hfin:=HFIN.out wr a (by omega) HX.out;have hle:a<=6:=by omega
 have ha8:(a:Int)<=6:=by omega
 clear hq;go_wp2_with fail;go_ret;exact⟨rfl,HB.out⟩
end
section
open Go.Shelf Go.RowKit
def oY:Ren:=⟨fun|156=>137|165=>175|166=>75|169=>77|240=>134|241=>193|276=>174|277=>205|n=>n,fun|31=>132|9=>9|3=>3|4=>4|0=>0|20=>20|72=>125|76=>128|70=>122|37=>123|75=>127|127=>194|164=>217|5=>5|80=>131|n=>n,fun n=>n⟩
theorem oW:Lays.n156 prog oY:={
 mixed:=by kernel_rfl,
 f156:=func137.trans (congrArg Z (by kernel_rfl)),
 f165:=func175.trans (congrArg Z (by kernel_rfl)),
 f166:=func75.trans (congrArg Z (by kernel_rfl)),
 f169:=func77.trans (congrArg Z (by kernel_rfl)),
 f240:=func134.trans (congrArg Z (by kernel_rfl)),
 f241:=func193.trans (congrArg Z (by kernel_rfl)),
 f276:=func174.trans (congrArg Z (by kernel_rfl)),
 f277:=func205.trans (congrArg Z (by kernel_rfl)),
 t0:=underlying0,
 a0:=isAgg0,
 z0:=sizeOf0,
 v0:=zeroValue0,
 t3:=underlying3,
 a3:=isAgg3,
 z3:=sizeOf3,
 v3:=zeroValue3,
 t4:=underlying4,
 a4:=isAgg4,
 z4:=sizeOf4,
 v4:=zeroValue4,
 t9:=underlying9,
 a9:=isAgg9,
 z9:=sizeOf9,
 v9:=zeroValue9,
 t20:=underlying20,
 a20:=isAgg20,
 z20:=sizeOf20,
 v20:=zeroValue20,
 t31:=underlying132,
 a31:=isAgg132,
 z31:=sizeOf132,
 v31:=zeroValue132,
 t37:=underlying123,
 a37:=isAgg123,
 z37:=sizeOf123,
 v37:=zeroValue123,
 t70:=underlying122,
 a70:=isAgg122,
 z70:=sizeOf122,
 v70:=zeroValue122,
 t72:=underlying125,
 a72:=isAgg125,
 z72:=sizeOf125,
 v72:=zeroValue125,
 t75:=underlying127,
 a75:=isAgg127,
 z75:=sizeOf127,
 v75:=zeroValue127,
 t76:=underlying128,
 a76:=isAgg128,
 z76:=sizeOf128,
 v76:=zeroValue128,
 t127:=underlying194,
 a127:=isAgg194,
 z127:=sizeOf194,
 v127:=zeroValue194,
 t164:=underlying217,
 a164:=isAgg217,
 z164:=sizeOf217,
 v164:=zeroValue217 }
theorem oX:Builder.Extra prog oY:={
 sizeBuilder:=by kernel_rfl,liesBuilder:=by kernel_rfl,t5:=underlying5,a5:=isAgg5,z5:=sizeOf5,v5:=zeroValue5,infoByte:=by kernel_rfl,cellsByte:=by kernel_rfl,sizeByte:=by kernel_rfl,neB5:=by decide }
end
section
open Go.RowKit Go.Maps Go.WideMaps Go.Shelf Tl Pa
theorem LY:(prog.info? 9).map (fun i=>(i.zero,i.size,i.bytes))=Z (Z (.string .empty),1,16):=by kernel_rfl
theorem IV(A:Oa)(n k:Nat)(l:Li)(w:Wv)(hA:aB w A l)(hn:l.length=n)(hv:∀z∈l,0<=z/\z<=1114111)(hb:n<=1048576):Calls prog 135 #[H A n k] w (fun e w'=>e=.returned (.bool true)/\w=w'):=by
 subst hn;have HA:=G hA;have HV:=G hv;clear hA hv;go_enter func135,ntmps135;go_wp2_with fail;go_loop [7] (fun u=>∃i:Nat,i<=l.length/\u=I J i) (fun u=>l.length-(intOf u).toNat)
 case atStart=>exact⟨0,Nat.zero_le _,rfl⟩
 obtain⟨i,hi,rfl⟩:=hrel;by_cases hlt:i<l.length
 ·obtain⟨b,o,rfl,hc⟩:=HA.out.at hlt
  have c0:=hc i hlt;have hz:=HV.out _ (List.getElem_mem hlt);have KV:=G (fun W=>gM l[i] W);rw[fU hz.1 hz.2]at KV;clear hc hz;generalize l[i]=z at *;go_wp2_with fail;with_reducible refine(KV.out _).mono ?_
  rintro e W1 ⟨rfl,rfl⟩;go_wp2_with fail;go_round
  case rel=>exact⟨i+1,by omega,by go_num⟩
  (try simp[intOf])<;>(try omega)
 obtain rfl:i=l.length:=by omega
 go_wp2_with fail;go_ret;exact⟨rfl,rfl⟩
def lY(l:Li):Lv:=l.map fun c=>.string (strOfNums (hexI c))
theorem LM{l:Li}{i:Nat}(hi:i<l.length):lY (l.take (i+1))=lY (l.take i)++[.string (strOfNums (hexI l[i]))]:=by
 unfold lY;rw[List.take_add_one,List.getElem?_eq_getElem hi,List.map_append];rfl
theorem MP(l:Li):(⟨(Lib.join ((l.map fun c=>strOfNums (hexI c)).map (·.data.toList)) (⟨#[32]⟩:ByteArray).data.toList).toArray⟩:ByteArray)=strOfNums (codI l):=by
 rw[List.map_map];show(⟨(Lib.join (l.map fun c=>byt (hexI c)) [32]).toArray⟩:ByteArray)=_
 rw[join_codI];rfl
theorem oI(A:Oa)(n k:Nat)(l:Li)(w:Wv)(hA:aB w A l)(hn:l.length=n)(hv:∀z∈l,0<=z/\z<=1114111)(hb:n<=65536)(hG:jR w):Calls prog 76 #[H A n k] w (fun e w'=>e=.returned (.tuple #[.string (strOfNums (codI l)),I J 0])/\By w w'):=by
 subst hn;have HV:=G hv;have KV:=G (IV A l.length k l w hA rfl hv (by omega));have KH:=G (fun W(hb:By w W)c(hc:0<=c/\c<=1114111)=>LO c W hc (hG.below hb));have HI:=G (fun W(hb:By w W)=>hA.below hb);have HJ0:=MP l
 have HJL0:=(show(Lib.join ((l.map fun c=>strOfNums (hexI c)).map (·.data.toList)) (⟨#[32]⟩:ByteArray).data.toList).length<=140737488355328 from by
  rw[List.map_map]
  show(Lib.join (l.map fun c=>byt (hexI c)) [32]).length<=_
  rw[join_codI]
  unfold byt
  rw[List.length_map]
  have:=codI_len l
  omega)
 have KJ:=U (∀(W:Wv)(g c:Nat),(W.ownsRow w.heap.size 9 1 (H (Z ⟨g,0,N⟩) l.length c) l.length (lY l))->Calls prog 137 #[H (Z ⟨g,0,N⟩) l.length c,.string ⟨#[32]⟩] W (fun e w'=>e=.returned (.string (strOfNums (codI l)))/\By W w')) (fun W g c ho=>by
  have h:=Any.strings_Join oW oX g 0 c (l.map fun c=>strOfNums (hexI c)) (⟨#[32]⟩:ByteArray) W (fun j x hj=>by
   have hjl:j<l.length:=by have:=(List.getElem?_eq_some_iff.1 hj).1;simpa using this
   rw[Nat.zero_add,ho.cellAt j (by omega)]
   unfold lY
   rw[List.getElem?_map]at hj|-
   cases hq:l[j]? with
   |none=>rw[hq]at hj;cases hj
   | some y=>rw[hq]at hj;simp only[Option.map_some,Option.some.injEq]at hj|-;rw[hj]) (aU ho rfl).2 (by rw[List.length_map];omega) (by rw[List.length_map];exact nM ho) HJL0
  rw[HJ0,List.length_map]at h
  exact h)
 have KN:=U (∀(W:Wv)(a:Oa)(c:Nat),Calls prog 137 #[H a 0 c,.string ⟨#[32]⟩] W (fun e w'=>e=.returned (.string ⟨#[]⟩)/\w'=W)) (fun W a c=>Any.strings_Join_none oW oX a c (⟨#[32]⟩:ByteArray) W);have HSN:=G (fun i(hi:i<l.length)=>LM hi);unfold qD at KH;clear hA hv hG HJ0 HJL0;go_enter func76,ntmps76;go_wp2_with fail;with_reducible refine KV.out.mono ?_
 rintro e W1 ⟨rfl,rfl⟩;clear KV;go_wp2_with fail;go_loopw [4,12] (fun u v wr=>∃(i:Nat)(S:Oa)(c:Nat),i<=l.length/\v=I J i/\u=H S i c/\wr.ownsRow w.heap.size 9 1 (H S i c) i (lY (l.take i))/\By w wr) (fun _ v _=>l.length-(intOf v).toNat)
 case atStart=>exact⟨0,N,0,Nat.zero_le _,rfl,rfl,World.ownsRow_nil _ _ _ _,Below.refl _ _⟩
 obtain⟨i,S,c,hi,rfl,rfl,hown,hbr⟩:=hrel;have HOWN:=G hown;have HB:=G hbr;clear hown hbr;by_cases hlt:i<l.length
 ·obtain⟨b1,o1,rfl,hcell⟩:=(HI.out wr HB.out).at hlt
  have c1:=hcell i hlt;have HS:=G (HSN.out i hlt);have KH1:=G (KH.out wr HB.out l[i] (HV.out _ (List.getElem_mem hlt)));have hii:(i:Int)<(l.length:Int):=by omega
  clear hcell;generalize l[i]=z at *;go_wp2_with fail;with_reducible refine KH1.out.mono ?_
  rintro e W2 ⟨rfl,hb2⟩;have HB2:=G (HB.out.trans (hb2.mono HB.out.size));have HO2:=G (bI HOWN.out hb2);generalize strOfNums (hexI z)=nm at *;have Bp:By W2 (W2.alloc (.cells #[.string nm] 9)):=ba _ _;have HOP:=G (bI HO2.out Bp);have szp:w.heap.size<=(W2.alloc (.cells #[.string nm] 9)).heap.size:=Nat.le_trans HB2.out.size Bp.size;have HB9:=G (HB2.out.trans (Bp.mono HB2.out.size));clear Bp hb2 KH1 c1;go_wp2_with(at_builtin;refine cJ _ _ 132 9 (.string .empty) 1 16 rfl rfl underlying132 LY rfl (by decide) (by decide) rfl HOP.out rfl (eE _ [.string nm] _ rfl) rfl (by intro u hu;simp at hu;rw[hu];rfl) (by omega) szp ?_;intro A7 c7 w7 hown7 hc7 hb7 hgr7 hAA7;clear hgr7 hAA7;have HO7:=G hown7;have HB7:=G hb7;clear hown7 hb7);go_wp2_with fail;go_roundw
  case rel=>
   refine⟨i+1,A7,c7,by omega,by go_num,rfl,?_,HB9.out.trans HB7.out⟩;rw[HS.out];exact HO7.out
  (try simp[intOf])<;>(try omega)
 obtain rfl:i=l.length:=by omega
 have ho:=HOWN.out;rw[List.take_length]at ho;have HO:=G ho;clear ho;by_cases h0:l.length=0
 ·obtain rfl:l=[]:=List.length_eq_zero_iff.1 h0
  clear h0;go_wp2_with fail;with_reducible refine(KN.out _ _ _).mono ?_
  rintro e W2 ⟨rfl,rfl⟩;go_wp2_with fail;go_ret2;exact⟨rfl,HB.out⟩
 obtain⟨g,rfl,hg1,hg2⟩:=gY HO.out (by omega);have KJ1:=G (KJ.out wr g c HO.out);clear h0 hg1 hg2 KJ KN;go_wp2_with fail;with_reducible refine KJ1.out.mono ?_
 rintro e W2 ⟨rfl,hb2⟩;have HB2:=G (HB.out.trans (hb2.mono HB.out.size));clear hb2;go_wp2_with fail;go_ret2;exact⟨rfl,HB2.out⟩
def Bld(B b:Nat)(r:Li)(w:Wv):Prop:=Lib.IsBuilderF 125 5 B b (Lib.byteCells (byt r)) w
theorem Bld.new(w:Wv)(n:Nat)(h:w.heap.size=n):Bld n n [] (w.alloc (.cells #[.pointer N,H N 0 0] 125)):=by
 subst h;exact .inl ⟨Nat.le_refl _,H N 0 0,heap_alloc_new w _,⟨rfl,.inl ⟨rfl,rfl⟩⟩,fun e=>by cases e⟩
theorem Bld.below{B b:Nat}{r:Li}{w w':Wv}(h:Bld B b r w)(hb:By w w'):Bld B b r w':=by
 have key:∀p,Lib.BuilderAtF 125 5 B b p (Lib.byteCells (byt r)) w->Lib.BuilderAtF 125 5 B b p (Lib.byteCells (byt r)) w':=fun p hp=>by
  have hl:=hp.lt;obtain⟨h1,v,h2,h3,h4⟩:=hp;refine⟨h1,v,(hb.block b hl).trans h2,h3.kept (row:=N) ⟨hb.os,hb.tape,hb.output,hb.size,fun k hk _=>hb.block k hk⟩ ?_,h4⟩;cases v.ownBlock with
  |none=>exact .inl rfl
  |some q=>exact .inr (fun e=>by cases e)
 exact h.elim (fun x=>.inl (key _ x)) (fun x=>.inr (key _ x))
theorem Bld.lt{B b:Nat}{r:Li}{w:Wv}(h:Bld B b r w):b<w.heap.size:=h.elim (fun x=>x.lt) (fun x=>x.lt)
theorem EG(a b:Li):Lib.byteCells (byt (a++b))=Lib.byteCells (byt a)++Lib.strCells (strOfNums b):=by
 rw[byt_app];unfold Lib.byteCells Lib.strCells;rw[List.map_append];rfl
theorem nU(B b:Nat)(r s:Li)(x:ByteArray)(w:Wv)(h:Bld B b r w)(hx:x=strOfNums s)(hl:r.length+s.length<=140737488355328)(hB:B<=w.heap.size):
  Calls prog 75 #[.pointer (Z ⟨b,0,N⟩),.string x] w (fun e w'=>(∃v,e=.returned v)/\Bld B b (r++s) w'/\Below B w w'/\Lib.OthersKept 5 (Z b) w w'):=by
 subst hx;have L:Lays.n166 prog oY:={ oW with };refine(show Calls prog 75 _ w _ from Any.Builder_WriteString_k L oX B b (Lib.byteCells (byt r)) (strOfNums s) w h ?_ hB).mono ?_
 ·unfold Lib.byteCells byt
  rw[strOfNums_size,List.length_map,List.length_map];exact hl
 rintro e w' ⟨rfl,h1,h2,h3⟩;refine⟨⟨_,rfl⟩,.inr ?_,h2,h3⟩;rw[EG];exact h1
theorem DZ(B b:Nat)(r:Li)(w:Wv)(h:Bld B b r w)(hB:B<=w.heap.size):
  Calls prog 77 #[.pointer (Z ⟨b,0,N⟩)] w (fun e w'=>e=.returned (.string (strOfNums r))/\Below B w w'):=by
 have L:Lays.n169 prog oY:={ oW with };refine(show Calls prog 77 _ w _ from Any.Builder_String_any_k L oX B b (byt r) w h hB).mono ?_;rintro e w' ⟨rfl,-,h2,-⟩;exact⟨rfl,h2⟩
theorem Box.kept{w w':Wv}{b n:Nat}{t:TypeId}{cs:Lv}(h:Box w n t cs)(hk:Lib.OthersKept 5 (Z b) w w')(hn:n≠b)(ht:t≠5):Box w' n t cs:=
 hk n _ h (fun e=>hn (Option.some.inj e)) (fun c fz e=>by injection e with e1 e2 e3;exact ht e2)
theorem tG{l:List Tlr}{i:Nat}(hi:i<l.length):txtI (l.take (i+1))=txtI (l.take i)++stpI l[i]:=by
 unfold txtI;rw[List.take_add_one,List.getElem?_eq_getElem hi,List.flatMap_append];simp
theorem zV{l:List Tlr}(h:∀t∈l,t.anc.length<=65536/\t.cds.length<=65536):∀i,(txtI (l.take i)).length<=i*917525:=by
 intro i;induction i with
 |zero=>simp[txtI]
 |succ i ih=>
  by_cases hi:i<l.length
  ·rw[tG hi,List.length_append]
   have:=stpI_len l[i];have:=h _ (List.getElem_mem hi);omega
  have e1:l.take (i+1)=l:=List.take_of_length_le (by omega);have e2:l.take i=l:=List.take_of_length_le (by omega);rw[e2]at ih;rw[e1];exact Nat.le_trans ih (Nat.mul_le_mul_right _ (Nat.le_succ i))
theorem yY(k:Int):(sgnI k).length<=3:=by unfold sgnI;split;simp;split;simp;split<;>simp
def mM(l:List Tlr)(w:Wv)(e:Ending)(w':Wv):Prop:=e=.returned (.tuple #[.string (strOfNums (if txtErr l=0 then txtI l else [])),I J (txtErr l)])/\By w w'
theorem zS{l:List Tlr}{t:Tlr}(ht:t∈l)(h:(rngT t.anc&&rngT t.cds)=false):txtErr l=1:=by
 unfold txtErr;rw[if_neg];intro e;rw[List.all_eq_true]at e;rw[e t ht]at h;cases h
theorem zT{l:List Tlr}{t:Tlr}(ha:∀t∈l,(rngT t.anc&&rngT t.cds)=true)(ht:t∈l)(h:kndT t=false):txtErr l=8:=by
 unfold txtErr;rw[if_pos (List.all_eq_true.2 ha),if_neg];intro e;rw[List.all_eq_true]at e;rw[e t ht]at h;cases h
theorem zU{l:List Tlr}(ha:∀t∈l,(rngT t.anc&&rngT t.cds)=true)(hk:∀t∈l,kndT t=true):txtErr l=0:=by
 unfold txtErr;rw[if_pos (List.all_eq_true.2 ha),if_pos (List.all_eq_true.2 hk)]
theorem oL{P:Tlr->Prop}{l:List Tlr}{k:Nat}(hk:k<l.length)(h:∀j,(hj:j<l.length)->j<k->P l[j])(hp:P l[k]):∀j,(hj:j<l.length)->j<k+1->P l[j]:=fun j hj h1=>by
 by_cases e:j<k
 ·exact h j hj e
 obtain rfl:j=k:=by omega
 exact hp
theorem oD{P:Tlr->Prop}{l:List Tlr}(h:∀j,(hj:j<l.length)->j<l.length->P l[j]):∀t∈l,P t:=fun t ht=>by
 obtain⟨j,hj,rfl⟩:=List.getElem_of_mem ht;exact h j hj hj
theorem d_(a b:Li):strOfNums (a++b)=strOfNums a++strOfNums b:=by
 apply ByteArray.ext;rw[ByteArray.data_append];simp[strOfNums]
theorem wW(a c:Li)(k:Int):(⟨#[40]⟩:ByteArray)++strOfNums (codI a)++⟨#[41,32]⟩++strOfNums (sgnI k)++⟨#[32,40]⟩++strOfNums (codI c)++⟨#[41,10]⟩=strOfNums (40::codI a++([41,32]++(sgnI k++([32,40]++(codI c++[41,10]))))):=by
 have e1:(⟨#[40]⟩:ByteArray)=strOfNums [40]:=rfl;have e2:(⟨#[41,32]⟩:ByteArray)=strOfNums [41,32]:=rfl;have e3:(⟨#[32,40]⟩:ByteArray)=strOfNums [32,40]:=rfl;have e4:(⟨#[41,10]⟩:ByteArray)=strOfNums [41,10]:=rfl;rw[e1,e2,e3,e4,<-d_,<-d_,<-d_,<-d_,<-d_,<-d_];simp only[List.cons_append,List.nil_append,List.append_assoc]
theorem WF(K:Oa)(k:Nat)(l:List Tlr)(w:Wv)(hK:eU w K l)(hll:l.length<=65536)(hts:∀t∈l,t.anc.length<=65536/\t.cds.length<=65536)(hG:jR w):Calls prog 28 #[H K l.length k] w (mM l w):=by
 have HK0:=G hK;have HK:=G (fun W(hb:By w W)=>hK.below hb);have HG:=G (fun W(hb:By w W)=>hG.below hb);have HTS:=G hts;have HLE:=G (zV hts);have KR:=G (fun P p Q q(t:Tlr)(W:Wv)hP hQ(ht:t.anc.length<=65536/\t.cds.length<=65536)=>yL P t.anc.length p Q t.cds.length q t W hP hQ rfl rfl (by omega) (by omega));have KK:=G (fun P a p Q b q(t:Tlr)(W:Wv)=>wQ P a p Q b q t W);unfold bU at KR KK;unfold mM;obtain⟨re,hre⟩:∃e,txtErr l=e:=⟨_,rfl⟩;obtain⟨rs,hrs⟩:∃s,strOfNums (if txtErr l=0 then txtI l else [])=s:=⟨_,rfl⟩
 have E1:=Proofs.YtkhmjidaeliccaaGreatDoor.U (∀t:Tlr,t∈l->(rngT t.anc&&rngT t.cds)=false->re=1/\rs=⟨#[]⟩) (fun t ht h=>by
  have e:=zS (l:=l) (t:=t) ht h
  exact⟨hre.symm.trans e,by rw[<-hrs,e];rfl⟩)
 have E8:=Proofs.YtkhmjidaeliccaaGreatDoor.U (∀t:Tlr,(∀t∈l,(rngT t.anc&&rngT t.cds)=true)->t∈l->kndT t=false->re=8/\rs=⟨#[]⟩) (fun t ha ht h=>by
  have e:=zT (l:=l) (t:=t) ha ht h
  exact⟨hre.symm.trans e,by rw[<-hrs,e];rfl⟩)
 have E0:=Proofs.YtkhmjidaeliccaaGreatDoor.U ((∀t∈l,(rngT t.anc&&rngT t.cds)=true)->(∀t∈l,kndT t=true)->re=0/\rs=strOfNums (txtI l)) (fun ha hk=>by
  have e:=zU (l:=l) ha hk
  exact⟨hre.symm.trans e,by rw[<-hrs,e];rfl⟩)
 rw[hrs,hre];clear hre hrs;have XF:Box (w.alloc (.cells #[.func (Fn.func 73) #[] #[],.func (Fn.func 74) #[] #[]] 119)) w.heap.size 119 [.func (Fn.func 73) #[] #[],.func (Fn.func 74) #[] #[]]:=Box.new w 119 [.func (Fn.func 73) #[] #[],.func (Fn.func 74) #[] #[]] rfl;have BF:By w (w.alloc (.cells #[.func (Fn.func 73) #[] #[],.func (Fn.func 74) #[] #[]] 119)):=ba _ _;have WE:=Proofs.YtkhmjidaeliccaaGreatDoor.U (∃V,(w.alloc (.cells #[.func (Fn.func 73) #[] #[],.func (Fn.func 74) #[] #[]] 119))=V) (⟨_,rfl⟩);clear hK hG hts;go_enter func28,ntmps28;go_upto_region 2 with(fail)
 obtain⟨V,hV⟩:=WE.out;rw[hV]at XF BF|-;clear hV WE;have HXF:=G XF;have HBF:=G BF;clear XF BF;go_wp2_with fail;go_loopw [19] (fun u wr=>∃i:Int,(i=0\/i=1\/i=2)/\u=I J i/\Hid (0<i->∀t∈l,(rngT t.anc&&rngT t.cds)=true)/\Hid (1<i->∀t∈l,kndT t=true)/\Box wr w.heap.size 119 [.func (Fn.func 73) #[] #[],.func (Fn.func 74) #[] #[]]/\By w wr) (fun u _=>2-(intOf u).toNat)
 case atStart=>exact⟨0,.inl rfl,rfl,G (fun h=>absurd h (by omega)),G (fun h=>absurd h (by omega)),HXF.out,HBF.out⟩
 obtain⟨i,hi,rfl,h1,h2,hX,hB⟩:=hrel;have HX:=G hX;have HB:=G hB;clear hX hB HXF HBF;rcases hi with rfl|rfl|rfl
 ·have cx:=HX.out.c 0 rfl
  clear h1 h2;go_wp2_with fail;go_loopw [25] (fun u wr=>∃k:Nat,k<=l.length/\u=I J k/\Hid (∀j,(hj:j<l.length)->j<k->(fun t:Tlr=>(rngT t.anc&&rngT t.cds)=true) l[j])/\Box wr w.heap.size 119 [.func (Fn.func 73) #[] #[],.func (Fn.func 74) #[] #[]]/\By w wr) (fun u _=>l.length-(intOf u).toNat)
  case atStart=>exact⟨0,Nat.zero_le _,rfl,G (fun j _ h=>absurd h (by omega)),HX.out,HB.out⟩
  obtain⟨k,hk,rfl,hall,hX,hB⟩:=hrel;have HX2:=G hX;have HB2:=G hB;clear hX hB;by_cases hlt:k<l.length
  ·obtain⟨kb,ko,rfl,hkb,hat⟩:=(HK.out wr HB2.out).at hlt
   obtain⟨P,pk,Q,qk,t0,t1,t2,t3,hP,hQ⟩:=hat k hlt;have HTI:=G (HTS.out _ (List.getElem_mem hlt));have HMI:=G (List.getElem_mem hlt);have HEX:=G (fun h=>oL (P:=fun t:Tlr=>(rngT t.anc&&rngT t.cds)=true) hlt hall.out h);have hkl:(k:Int)<(l.length:Int):=by omega
   clear hat hall;generalize l[k]=t at *;have XA:Box (wr.alloc (.cells #[H P t.anc.length pk,H Q t.cds.length qk,I J t.lvl,.bool t.bef] 35)) wr.heap.size 35 [H P t.anc.length pk,H Q t.cds.length qk,I J t.lvl,.bool t.bef]:=Box.new wr 35 [H P t.anc.length pk,H Q t.cds.length qk,I J t.lvl,.bool t.bef] rfl;have BA:By wr (wr.alloc (.cells #[H P t.anc.length pk,H Q t.cds.length qk,I J t.lvl,.bool t.bef] 35)):=ba _ _;have WE2:=Proofs.YtkhmjidaeliccaaGreatDoor.U (∃Wa,wr.alloc (.cells #[H P t.anc.length pk,H Q t.cds.length qk,I J t.lvl,.bool t.bef] 35)=Wa) (⟨_,rfl⟩);have hPa:=hP.below BA;have hQa:=hQ.below BA;go_upto_region 7 with(fail)
   obtain⟨Wa,hWa⟩:=WE2.out;rw[hWa]at XA BA hPa hQa|-;clear hWa WE2 t0 t1 t2 t3 hP hQ;have a0:=XA.c 0 rfl;have a1:=XA.c 1 rfl;have a2:=XA.c 2 rfl;have a3:=XA.c 3 rfl;have KC:=G (KR.out P pk Q qk t Wa hPa hQa HTI.out);have HX3:=G (HX2.out.below BA HX2.out.lt);have HB3:=G (HB2.out.trans (BA.mono HB2.out.size));clear XA BA hPa hQa;go_wp2_with fail;with_reducible refine KC.out.mono ?_
   rintro e W2 ⟨rfl,hb2⟩;have HX4:=G (HX3.out.below hb2 HX3.out.lt);have HB4:=G (HB3.out.trans (hb2.mono HB3.out.size));clear hb2 KC a0 a1 a2 a3;cases hq:(rngT t.anc&&rngT t.cds)with
   |true=>
    have HN:=G (HEX.out hq);clear hq HEX;go_wp2_with fail;go_roundw
    case rel=>exact⟨k+1,by omega,by go_num,G HN.out,HX4.out,HB4.out⟩
    (try simp[intOf])<;>(try omega)
   |false=>
    have HE:=G (E1.out t HMI.out hq);clear hq HEX;go_wp2_with fail;go_ret2;obtain⟨rfl,rfl⟩:=HE.out;exact⟨rfl,HB4.out⟩
  obtain rfl:k=l.length:=by omega
  have HALL:=G (oD (P:=fun t:Tlr=>(rngT t.anc&&rngT t.cds)=true) hall.out);clear hall;go_wp2_with fail;go_roundw
  case rel=>exact⟨1,by omega,by go_num,G (fun _=>HALL.out),G (fun h=>absurd h (by omega)),HX2.out,HB2.out⟩
  (try simp[intOf])<;>(try omega)
 ·have cx:=HX.out.c 1 rfl
  have HA:=G (h1.out (by omega));clear h1 h2;go_wp2_with fail;go_loopw [25] (fun u wr=>∃k:Nat,k<=l.length/\u=I J k/\Hid (∀j,(hj:j<l.length)->j<k->(fun t:Tlr=>kndT t=true) l[j])/\Box wr w.heap.size 119 [.func (Fn.func 73) #[] #[],.func (Fn.func 74) #[] #[]]/\By w wr) (fun u _=>l.length-(intOf u).toNat)
  case atStart=>exact⟨0,Nat.zero_le _,rfl,G (fun j _ h=>absurd h (by omega)),HX.out,HB.out⟩
  obtain⟨k,hk,rfl,hall,hX,hB⟩:=hrel;have HX2:=G hX;have HB2:=G hB;clear hX hB;by_cases hlt:k<l.length
  ·obtain⟨kb,ko,rfl,hkb,hat⟩:=(HK.out wr HB2.out).at hlt
   obtain⟨P,pk,Q,qk,t0,t1,t2,t3,hP,hQ⟩:=hat k hlt;have HTI:=G (HTS.out _ (List.getElem_mem hlt));have HMI:=G (List.getElem_mem hlt);have HEX:=G (fun h=>oL (P:=fun t:Tlr=>kndT t=true) hlt hall.out h);have hkl:(k:Int)<(l.length:Int):=by omega
   clear hat hall;generalize l[k]=t at *;have XA:Box (wr.alloc (.cells #[H P t.anc.length pk,H Q t.cds.length qk,I J t.lvl,.bool t.bef] 35)) wr.heap.size 35 [H P t.anc.length pk,H Q t.cds.length qk,I J t.lvl,.bool t.bef]:=Box.new wr 35 [H P t.anc.length pk,H Q t.cds.length qk,I J t.lvl,.bool t.bef] rfl;have BA:By wr (wr.alloc (.cells #[H P t.anc.length pk,H Q t.cds.length qk,I J t.lvl,.bool t.bef] 35)):=ba _ _;have WE2:=Proofs.YtkhmjidaeliccaaGreatDoor.U (∃Wa,wr.alloc (.cells #[H P t.anc.length pk,H Q t.cds.length qk,I J t.lvl,.bool t.bef] 35)=Wa) (⟨_,rfl⟩);have hPa:=hP.below BA;have hQa:=hQ.below BA;go_upto_region 7 with(fail)
   obtain⟨Wa,hWa⟩:=WE2.out;rw[hWa]at XA BA hPa hQa|-;clear hWa WE2 t0 t1 t2 t3 hP hQ;have a0:=XA.c 0 rfl;have a1:=XA.c 1 rfl;have a2:=XA.c 2 rfl;have a3:=XA.c 3 rfl;have KC:=G (KK.out P t.anc.length pk Q t.cds.length qk t Wa);have HX3:=G (HX2.out.below BA HX2.out.lt);have HB3:=G (HB2.out.trans (BA.mono HB2.out.size));clear XA BA hPa hQa;go_wp2_with fail;with_reducible refine KC.out.mono ?_
   rintro e W2 ⟨rfl,hb2⟩;have HX4:=G (HX3.out.below hb2 HX3.out.lt);have HB4:=G (HB3.out.trans (hb2.mono HB3.out.size));clear hb2 KC a0 a1 a2 a3;cases hq:kndT t with
   |true=>
    have HN:=G (HEX.out hq);clear hq HEX;go_wp2_with fail;go_roundw
    case rel=>exact⟨k+1,by omega,by go_num,G HN.out,HX4.out,HB4.out⟩
    (try simp[intOf])<;>(try omega)
   |false=>
    have HE:=G (E8.out t HA.out HMI.out hq);clear hq HEX;go_wp2_with fail;go_ret2;obtain⟨rfl,rfl⟩:=HE.out;exact⟨rfl,HB4.out⟩
  obtain rfl:k=l.length:=by omega
  have HALL:=G (oD (P:=fun t:Tlr=>kndT t=true) hall.out);clear hall;go_wp2_with fail;go_roundw
  case rel=>exact⟨2,by omega,by go_num,G (fun _=>HA.out),G (fun _=>HALL.out),HX2.out,HB2.out⟩
  (try simp[intOf])<;>(try omega)
 have HA:=G (h1.out (by omega));have HKN:=G (h2.out (by omega));have HTE:=G (E0.out HA.out HKN.out);clear h1 h2 HX;have XS:Box ((wr.alloc (.cells #[.string ⟨#[61]⟩,.string ⟨#[60]⟩,.string ⟨#[60,60]⟩,.string ⟨#[60,60,60]⟩] 121)).alloc (.cells #[.pointer N,H N 0 0] 125)) wr.heap.size 121 [.string ⟨#[61]⟩,.string ⟨#[60]⟩,.string ⟨#[60,60]⟩,.string ⟨#[60,60,60]⟩]:=(Box.new wr 121 [.string ⟨#[61]⟩,.string ⟨#[60]⟩,.string ⟨#[60,60]⟩,.string ⟨#[60,60,60]⟩] rfl).below (ba _ _) (by simp);have HBL:Bld (wr.heap.size+1) (wr.heap.size+1) [] ((wr.alloc (.cells #[.string ⟨#[61]⟩,.string ⟨#[60]⟩,.string ⟨#[60,60]⟩,.string ⟨#[60,60,60]⟩] 121)).alloc (.cells #[.pointer N,H N 0 0] 125)):=Bld.new (wr.alloc (.cells #[.string ⟨#[61]⟩,.string ⟨#[60]⟩,.string ⟨#[60,60]⟩,.string ⟨#[60,60,60]⟩] 121)) _ (by simp);have BA:By w ((wr.alloc (.cells #[.string ⟨#[61]⟩,.string ⟨#[60]⟩,.string ⟨#[60,60]⟩,.string ⟨#[60,60,60]⟩] 121)).alloc (.cells #[.pointer N,H N 0 0] 125)):=(HB.out.alloc HB.out.size _).alloc (by have:=HB.out.size;simp;omega) _;have WE2:=Proofs.YtkhmjidaeliccaaGreatDoor.U (∃U,((wr.alloc (.cells #[.string ⟨#[61]⟩,.string ⟨#[60]⟩,.string ⟨#[60,60]⟩,.string ⟨#[60,60,60]⟩] 121)).alloc (.cells #[.pointer N,H N 0 0] 125))=U) (⟨_,rfl⟩);go_upto_region 14 with(fail)
 obtain⟨U,hU⟩:=WE2.out;rw[hU]at XS HBL BA|-;clear hU WE2;have hsz:=HB.out.size;obtain⟨sg,hsg⟩:∃s,wr.heap.size=s:=⟨_,rfl⟩;rw[hsg]at XS HBL hsz|-;clear hsg;have HXS:=G XS;have HBD:=G HBL;have HBA:=G BA;clear XS HBL BA HB;go_wp2_with fail;go_loopw [40] (fun u wq=>∃i:Nat,i<=l.length/\u=I J i/\Bld (sg+1) (sg+1) (txtI (l.take i)) wq/\Box wq sg 121 [.string ⟨#[61]⟩,.string ⟨#[60]⟩,.string ⟨#[60,60]⟩,.string ⟨#[60,60,60]⟩]/\By w wq) (fun u _=>l.length-(intOf u).toNat)
 case atStart=>exact⟨0,Nat.zero_le _,rfl,HBD.out,HXS.out,HBA.out⟩
 obtain⟨i,hi,rfl,hbd,hX,hB⟩:=hrel;have HBD2:=G hbd;have HX2:=G hX;have HB2:=G hB;clear hbd hX hB HBD HXS HBA;by_cases hlt:i<l.length
 ·obtain⟨kb,ko,rfl,hkb,hat⟩:=HK0.out.at hlt
  obtain⟨P,pk,Q,qk,t0,t1,t2,t3,hP,hQ⟩:=hat i hlt;replace t0:=(HB2.out.cell (p:=⟨kb,ko+i*4,N⟩) hkb).trans t0;replace t1:=(HB2.out.cell (p:=⟨kb,ko+i*4+1,N⟩) hkb).trans t1;replace t2:=(HB2.out.cell (p:=⟨kb,ko+i*4+2,N⟩) hkb).trans t2;replace t3:=(HB2.out.cell (p:=⟨kb,ko+i*4+3,N⟩) hkb).trans t3;have HTI:=G (HTS.out _ (List.getElem_mem hlt));have HRA:=G (rng_all (Bool.and_eq_true_iff.1 (HA.out _ (List.getElem_mem hlt))).1);have HRC:=G (rng_all (Bool.and_eq_true_iff.1 (HA.out _ (List.getElem_mem hlt))).2);have hkn:=HKN.out _ (List.getElem_mem hlt);have HSN:=G (tG hlt);have HL1:=G (HLE.out i);have HPW:=G (fun W(hb:By w W)=>hP.below hb);have HQW:=G (fun W(hb:By w W)=>hQ.below hb);have hil:(i:Int)<(l.length:Int):=by omega
  have hlk:∃k:Nat,l[i].lvl=(k:Int)/\k<4:=by
   unfold kndT at hkn;simp only[Bool.and_eq_true,decide_eq_true_eq]at hkn;exact⟨l[i].lvl.toNat,by omega,by omega⟩
  clear hat hP hQ hkn;generalize l[i]=t at *;generalize txtI (l.take i)=R at *;obtain⟨R2,hR2⟩:∃R2,txtI (l.take (i+1))=R2:=⟨_,rfl⟩;rw[hR2]at HSN;have HRE:=G hR2;clear hR2;obtain⟨lk,hlk,hk4⟩:=hlk;have hk0:(0:Int)<=(lk:Int):=by omega
  have hk4':(lk:Int)<4:=by omega
  have HSG:=Proofs.YtkhmjidaeliccaaGreatDoor.U (∀W,Box W sg 121 [.string ⟨#[61]⟩,.string ⟨#[60]⟩,.string ⟨#[60,60]⟩,.string ⟨#[60,60,60]⟩]->W.cell? ⟨sg,lk,N⟩=Z (.string (strOfNums (sgnI t.lvl)))) (fun W h=>by
   rw[hlk]
   rcases show lk=0\/lk=1\/lk=2\/lk=3 by omega with rfl|rfl|rfl|rfl
   ·exact h.c 0 rfl
   ·exact h.c 1 rfl
   ·exact h.c 2 rfl
   ·exact h.c 3 rfl)
  have HSL:=G (yY t.lvl);have HST:=Proofs.YtkhmjidaeliccaaGreatDoor.U (stpI t=[38,32]++(befI t.bef++(40::codI t.anc++([41,32]++(sgnI t.lvl++([32,40]++(codI t.cds++[41,10]))))))) rfl;have HCA:=G (codI_len t.anc);have HCC:=G (codI_len t.cds);have za:(strOfNums (codI t.anc)).size<=458752:=by rw[strOfNums_size];have:=HCA.out;have:=HTI.out;omega
  have zc:(strOfNums (codI t.cds)).size<=458752:=by rw[strOfNums_size];have:=HCC.out;have:=HTI.out;omega
  have zs:(strOfNums (sgnI t.lvl)).size<=3:=by rw[strOfNums_size];exact HSL.out
  rw[hlk]at t2;have hbl2:=HBD2.out.lt;obtain⟨pn,hpn⟩:∃pn,t.anc.length=pn:=⟨_,rfl⟩;obtain⟨qn,hqn⟩:∃qn,t.cds.length=qn:=⟨_,rfl⟩;rw[hpn]at t0;rw[hqn]at t1;have HPN:=G hpn;have HQN:=G hqn;clear hpn hqn hlk;cases hbf:t.bef with
  |true=>
   rw[hbf]at t3 HST;clear hbf;have XA:Box (wr.alloc (.cells #[H P pn pk,H Q qn qk,I J (lk:Int),.bool true] 35)) wr.heap.size 35 [H P pn pk,H Q qn qk,I J (lk:Int),.bool true]:=Box.new wr 35 [H P pn pk,H Q qn qk,I J (lk:Int),.bool true] rfl;have BA:By wr (wr.alloc (.cells #[H P pn pk,H Q qn qk,I J (lk:Int),.bool true] 35)):=ba _ _;have WE2:=Proofs.YtkhmjidaeliccaaGreatDoor.U (∃Wa,wr.alloc (.cells #[H P pn pk,H Q qn qk,I J (lk:Int),.bool true] 35)=Wa) (⟨_,rfl⟩);go_upto_region 17 with(fail)
   obtain⟨Wa,hWa⟩:=WE2.out;rw[hWa]at XA BA|-;clear hWa WE2 t0 t1 t2 t3;obtain⟨rn,hrn⟩:∃n,wr.heap.size=n:=⟨_,rfl⟩;have HNR:=Proofs.YtkhmjidaeliccaaGreatDoor.U (rn≠sg+1) (by omega);have hsz2:w.heap.size<=sg+1:=by omega
   have HBDWa:=G (HBD2.out.below BA);have HXSWa:=G (HX2.out.below BA HX2.out.lt);have HBWWa:=G (HB2.out.trans (BA.mono HB2.out.size));rw[hrn]at XA|-;have HXRWa:=G XA;clear XA BA hrn;have KW1:=G (nU (sg+1) (sg+1) (R) ([38,32]) (⟨#[38,32]⟩) Wa HBDWa.out rfl (by have:=HL1.out;have:=HSL.out;have:=HCA.out;have:=HCC.out;have:=HTI.out;simp only[List.length_cons,List.length_nil];omega) (by have:=HBDWa.out.lt;omega));go_wp2_with fail;with_reducible refine KW1.out.mono ?_
   rintro e Wb ⟨⟨v1,rfl⟩,hbl,hbb,hok⟩;have HBDWb:=G hbl;have HXRWb:=G (HXRWa.out.kept hok HNR.out (by decide));have HXSWb:=G (HXSWa.out.kept hok (by omega) (by decide));have HBWWb:=G (HBWWa.out.trans (hbb.mono hsz2));clear hbl hbb hok KW1;have a0:=HXRWb.out.c 0 rfl;have a1:=HXRWb.out.c 1 rfl;have a2:=HXRWb.out.c 2 rfl;have a3:=HXRWb.out.c 3 rfl;have KW2:=G (nU (sg+1) (sg+1) (R++[38,32]) (befI true) (⟨#[91,98,101,102,111,114,101,93,32]⟩) Wb HBDWb.out rfl (by have:=HL1.out;have:=HSL.out;have:=HCA.out;have:=HCC.out;have hbl9:(befI true).length=9:=rfl;have:=HTI.out;simp only[List.length_append,List.length_cons,List.length_nil];omega) (by have:=HBDWb.out.lt;omega));go_wp2_with fail;with_reducible refine KW2.out.mono ?_
   rintro e Wc ⟨⟨v2,rfl⟩,hbl,hbb,hok⟩;have HBDWc:=G hbl;have HXRWc:=G (HXRWb.out.kept hok HNR.out (by decide));have HXSWc:=G (HXSWb.out.kept hok (by omega) (by decide));have HBWWc:=G (HBWWb.out.trans (hbb.mono hsz2));clear hbl hbb hok KW2;clear a0 a1 a2 a3;have a0:=HXRWc.out.c 0 rfl;have a1:=HXRWc.out.c 1 rfl;have a2:=HXRWc.out.c 2 rfl;have a3:=HXRWc.out.c 3 rfl;have KC3:=G (oI P pn pk t.anc Wc (HPW.out Wc HBWWc.out) HPN.out HRA.out.2 (by have:=HTI.out;have:=HPN.out;omega) (HG.out Wc HBWWc.out));go_wp2_with fail;with_reducible refine KC3.out.mono ?_
   rintro e Wd ⟨rfl,hb2⟩;have HBDWd:=G (HBDWc.out.below hb2);have HXRWd:=G (HXRWc.out.below hb2 HXRWc.out.lt);have HXSWd:=G (HXSWc.out.below hb2 HXSWc.out.lt);have HBWWd:=G (HBWWc.out.trans (hb2.mono HBWWc.out.size));clear hb2 KC3;clear a0 a1 a2 a3;have a0:=HXRWd.out.c 0 rfl;have a1:=HXRWd.out.c 1 rfl;have a2:=HXRWd.out.c 2 rfl;have a3:=HXRWd.out.c 3 rfl;have KC4:=G (oI Q qn qk t.cds Wd (HQW.out Wd HBWWd.out) HQN.out HRC.out.2 (by have:=HTI.out;have:=HQN.out;omega) (HG.out Wd HBWWd.out));go_wp2_with fail;with_reducible refine KC4.out.mono ?_
   rintro e We ⟨rfl,hb2⟩;have HBDWe:=G (HBDWd.out.below hb2);have HXRWe:=G (HXRWd.out.below hb2 HXRWd.out.lt);have HXSWe:=G (HXSWd.out.below hb2 HXSWd.out.lt);have HBWWe:=G (HBWWd.out.trans (hb2.mono HBWWd.out.size));clear hb2 KC4;clear a0 a1 a2 a3;have a0:=HXRWe.out.c 0 rfl;have a1:=HXRWe.out.c 1 rfl;have a2:=HXRWe.out.c 2 rfl;have a3:=HXRWe.out.c 3 rfl;have cs:=HSG.out We HXSWe.out;have KW5:=G (nU (sg+1) (sg+1) (R++[38,32]++befI true) (40::codI t.anc++([41,32]++(sgnI t.lvl++([32,40]++(codI t.cds++[41,10]))))) ((⟨#[40]⟩:ByteArray)++strOfNums (codI t.anc)++⟨#[41,32]⟩++strOfNums (sgnI t.lvl)++⟨#[32,40]⟩++strOfNums (codI t.cds)++⟨#[41,10]⟩) We HBDWe.out (wW t.anc t.cds t.lvl) (by have:=HL1.out;have:=HSL.out;have:=HCA.out;have:=HCC.out;have hbl9:(befI true).length=9:=rfl;have:=HTI.out;simp only[List.length_append,List.length_cons,List.length_nil];omega) (by have:=HBDWe.out.lt;omega));go_wp2_with fail;with_reducible refine KW5.out.mono ?_
   rintro e Wf ⟨⟨v5,rfl⟩,hbl,hbb,hok⟩;have HBDWf:=G hbl;have HXRWf:=G (HXRWe.out.kept hok HNR.out (by decide));have HXSWf:=G (HXSWe.out.kept hok (by omega) (by decide));have HBWWf:=G (HBWWe.out.trans (hbb.mono hsz2));clear hbl hbb hok KW5
   have HR2:=Proofs.YtkhmjidaeliccaaGreatDoor.U (Bld (sg+1) (sg+1) R2 Wf) (by
    have h:=HBDWf.out
    rw[HSN.out,HST.out]
    simpa[List.append_assoc,befI]using h)
   clear a0 a1 a2 a3 cs;go_wp2_with fail;go_roundw
   case rel=>exact⟨i+1,by omega,by go_num,by rw[HRE.out];exact HR2.out,HXSWf.out,HBWWf.out⟩
   (try simp[intOf])<;>(try omega)
  |false=>
   rw[hbf]at t3 HST;clear hbf;have XA:Box (wr.alloc (.cells #[H P pn pk,H Q qn qk,I J (lk:Int),.bool false] 35)) wr.heap.size 35 [H P pn pk,H Q qn qk,I J (lk:Int),.bool false]:=Box.new wr 35 [H P pn pk,H Q qn qk,I J (lk:Int),.bool false] rfl;have BA:By wr (wr.alloc (.cells #[H P pn pk,H Q qn qk,I J (lk:Int),.bool false] 35)):=ba _ _;have WE2:=Proofs.YtkhmjidaeliccaaGreatDoor.U (∃Wa,wr.alloc (.cells #[H P pn pk,H Q qn qk,I J (lk:Int),.bool false] 35)=Wa) (⟨_,rfl⟩);go_upto_region 17 with(fail)
   obtain⟨Wa,hWa⟩:=WE2.out;rw[hWa]at XA BA|-;clear hWa WE2 t0 t1 t2 t3;obtain⟨rn,hrn⟩:∃n,wr.heap.size=n:=⟨_,rfl⟩;have HNR:=Proofs.YtkhmjidaeliccaaGreatDoor.U (rn≠sg+1) (by omega);have hsz2:w.heap.size<=sg+1:=by omega
   have HBDWa:=G (HBD2.out.below BA);have HXSWa:=G (HX2.out.below BA HX2.out.lt);have HBWWa:=G (HB2.out.trans (BA.mono HB2.out.size));rw[hrn]at XA|-;have HXRWa:=G XA;clear XA BA hrn;have KW1:=G (nU (sg+1) (sg+1) (R) ([38,32]) (⟨#[38,32]⟩) Wa HBDWa.out rfl (by have:=HL1.out;have:=HSL.out;have:=HCA.out;have:=HCC.out;have:=HTI.out;simp only[List.length_cons,List.length_nil];omega) (by have:=HBDWa.out.lt;omega));go_wp2_with fail;with_reducible refine KW1.out.mono ?_
   rintro e Wb ⟨⟨v1,rfl⟩,hbl,hbb,hok⟩;have HBDWb:=G hbl;have HXRWb:=G (HXRWa.out.kept hok HNR.out (by decide));have HXSWb:=G (HXSWa.out.kept hok (by omega) (by decide));have HBWWb:=G (HBWWa.out.trans (hbb.mono hsz2));clear hbl hbb hok KW1;have a0:=HXRWb.out.c 0 rfl;have a1:=HXRWb.out.c 1 rfl;have a2:=HXRWb.out.c 2 rfl;have a3:=HXRWb.out.c 3 rfl;have KC3:=G (oI P pn pk t.anc Wb (HPW.out Wb HBWWb.out) HPN.out HRA.out.2 (by have:=HTI.out;have:=HPN.out;omega) (HG.out Wb HBWWb.out));go_wp2_with fail;with_reducible refine KC3.out.mono ?_
   rintro e Wd ⟨rfl,hb2⟩;have HBDWd:=G (HBDWb.out.below hb2);have HXRWd:=G (HXRWb.out.below hb2 HXRWb.out.lt);have HXSWd:=G (HXSWb.out.below hb2 HXSWb.out.lt);have HBWWd:=G (HBWWb.out.trans (hb2.mono HBWWb.out.size));clear hb2 KC3;clear a0 a1 a2 a3;have a0:=HXRWd.out.c 0 rfl;have a1:=HXRWd.out.c 1 rfl;have a2:=HXRWd.out.c 2 rfl;have a3:=HXRWd.out.c 3 rfl;have KC4:=G (oI Q qn qk t.cds Wd (HQW.out Wd HBWWd.out) HQN.out HRC.out.2 (by have:=HTI.out;have:=HQN.out;omega) (HG.out Wd HBWWd.out));go_wp2_with fail;with_reducible refine KC4.out.mono ?_
   rintro e We ⟨rfl,hb2⟩;have HBDWe:=G (HBDWd.out.below hb2);have HXRWe:=G (HXRWd.out.below hb2 HXRWd.out.lt);have HXSWe:=G (HXSWd.out.below hb2 HXSWd.out.lt);have HBWWe:=G (HBWWd.out.trans (hb2.mono HBWWd.out.size));clear hb2 KC4;clear a0 a1 a2 a3;have a0:=HXRWe.out.c 0 rfl;have a1:=HXRWe.out.c 1 rfl;have a2:=HXRWe.out.c 2 rfl;have a3:=HXRWe.out.c 3 rfl;have cs:=HSG.out We HXSWe.out;have KW5:=G (nU (sg+1) (sg+1) (R++[38,32]) (40::codI t.anc++([41,32]++(sgnI t.lvl++([32,40]++(codI t.cds++[41,10]))))) ((⟨#[40]⟩:ByteArray)++strOfNums (codI t.anc)++⟨#[41,32]⟩++strOfNums (sgnI t.lvl)++⟨#[32,40]⟩++strOfNums (codI t.cds)++⟨#[41,10]⟩) We HBDWe.out (wW t.anc t.cds t.lvl) (by have:=HL1.out;have:=HSL.out;have:=HCA.out;have:=HCC.out;have:=HTI.out;simp only[List.length_append,List.length_cons,List.length_nil];omega) (by have:=HBDWe.out.lt;omega));go_wp2_with fail;with_reducible refine KW5.out.mono ?_
   rintro e Wf ⟨⟨v5,rfl⟩,hbl,hbb,hok⟩;have HBDWf:=G hbl;have HXRWf:=G (HXRWe.out.kept hok HNR.out (by decide));have HXSWf:=G (HXSWe.out.kept hok (by omega) (by decide));have HBWWf:=G (HBWWe.out.trans (hbb.mono hsz2));clear hbl hbb hok KW5
   have HR2:=Proofs.YtkhmjidaeliccaaGreatDoor.U (Bld (sg+1) (sg+1) R2 Wf) (by
    have h:=HBDWf.out
    rw[HSN.out,HST.out]
    simpa[List.append_assoc,befI]using h)
   clear a0 a1 a2 a3 cs;go_wp2_with fail;go_roundw
   case rel=>exact⟨i+1,by omega,by go_num,by rw[HRE.out];exact HR2.out,HXSWf.out,HBWWf.out⟩
   (try simp[intOf])<;>(try omega)
 obtain rfl:i=l.length:=by omega
 have hb:=HBD2.out;rw[List.take_length]at hb;have KS:=G (DZ (sg+1) (sg+1) (txtI l) wr hb (by have:=hb.lt;omega));have hsz2:w.heap.size<=sg+1:=by omega
 clear hb;go_wp2_with fail;with_reducible refine KS.out.mono ?_
 rintro e W2 ⟨rfl,hb2⟩;have HB4:=G (HB2.out.trans (hb2.mono hsz2));clear hb2 KS;go_wp2_with fail;go_ret2;obtain⟨rfl,rfl⟩:=HTE.out;exact⟨rfl,HB4.out⟩
theorem uL(z:Int)(r:Li):strOfNums (z::r)=strOfNums [z]++strOfNums r:=d_ [z] r
def jY(m:Nat):Nat->Li
 |0=>[]
 |i+1=>dgH m i::jY m i
theorem vD(m:Nat):∀i,(jY m i).length=i
 |0=>rfl
 |i+1=>by show(dgH m i::jY m i).length=i+1;rw[List.length_cons,vD m i]
theorem LL{m:Nat}(hm:m<=1114111):hexI (m:Int)=jY m (nH m):=by
 rw[hexI_buf hm];have hb:=nH_bd m;rcases show nH m=4\/nH m=5\/nH m=6 by omega with h|h|h<;>rw[h]<;>rfl
theorem LI(k:Nat)(hk:k<16):(⟨#[48,49,50,51,52,53,54,55,56,57,65,66,67,68,69,70]⟩:ByteArray).extract k (k+1)=strOfNums [hd (k:Int)]:=by
 rcases show k=0\/k=1\/k=2\/k=3\/k=4\/k=5\/k=6\/k=7\/k=8\/k=9\/k=10\/k=11\/k=12\/k=13\/k=14\/k=15 by omega with rfl|rfl|rfl|rfl|rfl|rfl|rfl|rfl|rfl|rfl|rfl|rfl|rfl|rfl|rfl|rfl<;>rfl
theorem xK{m i:Nat}(hm:m<=1114111)(hn:i<=nH m)(h:i<4\/0<m/16^i):i<nH m:=by
 have hb:=nH_bd m;rcases h with h|h
 ·omega
 by_cases e:i=nH m
 ·exfalso
  rw[e]at h;unfold nH at h;split at h
  ·simp only[Nat.reducePow]at h;omega
  split at h
  ·simp only[Nat.reducePow]at h;omega
  simp only[Nat.reducePow]at h;omega
 omega
theorem RM(c:Int)(w:Wv)(hc:0<=c/\c<=1114111):Calls prog 138 #[I J c] w (fun e w'=>e=.returned (.string (strOfNums (hexI c)))/\w=w'):=by
 obtain⟨m,rfl⟩:∃m:Nat,c=m:=⟨c.toNat,by omega⟩;have hm:m<=1114111:=by omega
 have hv:inR 0 1114111 (m:Int)=true:=by unfold inR;simp;omega
 have VA:=G (fun W=>lC (m:Int) W);rw[hv]at VA;have HX:=G (LL hm);have HC:=G LI;clear hv;go_enter func138,ntmps138;go_wp2_with fail;with_reducible refine(VA.out _).mono ?_
 rintro e W1 ⟨rfl,rfl⟩;clear VA;go_wp2_with fail;go_loop [0,3] (fun u0 u3=>∃i q:Nat,i<=nH m/\q=m/16^i/\u0=I J q/\u3=.string (strOfNums (jY m i))) (fun _ u=>match u with | .string s=>6-s.size|_=>0)
 case atStart=>exact⟨0,m,Nat.zero_le _,by simp,rfl,rfl⟩
 obtain⟨i,q,hn,hq,rfl,rfl⟩:=hrel;obtain⟨sx,hsx⟩:∃s,strOfNums (jY m i)=s:=⟨_,rfl⟩;have hsz:sx.size=i:=by rw[<-hsx,strOfNums_size,vD]
 rw[hsx];by_cases h4:i<4
 ·have d1:decide ((sx.size:Int)<4)=true:=by simp;omega
  have HGO:i<4\/0<m/16^i:=.inl h4;have hn':=xK hm hn HGO;have hd2:((q%16:Nat):Int)<16:=by omega
  have hlt:q%16<16:=Nat.mod_lt _ (by decide);have hqle:q<=1114111:=by rw[hq];exact Nat.le_trans (Nat.div_le_self _ _) hm
  have hrem:Int.tmod (q:Int) 16=((q%16:Nat):Int):=by rw[Int.tmod_eq_emod_of_nonneg (by omega)];omega
  have hquo:Int.tdiv (q:Int) 16=((q/16:Nat):Int):=by rw[Int.tdiv_eq_ediv_of_nonneg (by omega)];omega
  have HQ2:=U (q/16=m/16^(i+1)) (by rw[hq,Nat.div_div_eq_div_mul,Nat.pow_succ]);have HD:=U (strOfNums (jY m (i+1))=strOfNums [hd ((q%16:Nat):Int)]++sx) (by rw[<-hsx,hq];exact uL _ _);have hcut:=HC.out (q%16) hlt;have hs1:(strOfNums [hd ((q%16:Nat):Int)]).size=1:=rfl;obtain⟨kq,hkq⟩:∃k,q%16=k:=⟨_,rfl⟩;rw[hkq]at hd2 hlt hrem HD hcut hs1;have hn4:sx.size<=6:=by rw[hsz];exact Nat.le_trans hn (nH_bd m).2
  have HSZ:=G hsz;clear hkq hq hsx HGO hsz;go_wp2_with fail;go_round
  case rel=>exact⟨i+1,q/16,hn',HQ2.out,by go_num,by rw[HD.out]⟩
  simp[ByteArray.size_append,hs1,HSZ.out];have:=(nH_bd m).2;omega
 have d1:decide ((sx.size:Int)<4)=false:=by simp;omega
 by_cases h0:0<q
 ·have d2:decide ((0:Int)<(q:Int))=true:=by simp;omega
  have HGO:i<4\/0<m/16^i:=.inr (by rw[<-hq];exact h0);have hn':=xK hm hn HGO;have hd2:((q%16:Nat):Int)<16:=by omega
  have hlt:q%16<16:=Nat.mod_lt _ (by decide);have hqle:q<=1114111:=by rw[hq];exact Nat.le_trans (Nat.div_le_self _ _) hm
  have hrem:Int.tmod (q:Int) 16=((q%16:Nat):Int):=by rw[Int.tmod_eq_emod_of_nonneg (by omega)];omega
  have hquo:Int.tdiv (q:Int) 16=((q/16:Nat):Int):=by rw[Int.tdiv_eq_ediv_of_nonneg (by omega)];omega
  have HQ2:=U (q/16=m/16^(i+1)) (by rw[hq,Nat.div_div_eq_div_mul,Nat.pow_succ]);have HD:=U (strOfNums (jY m (i+1))=strOfNums [hd ((q%16:Nat):Int)]++sx) (by rw[<-hsx,hq];exact uL _ _);have hcut:=HC.out (q%16) hlt;have hs1:(strOfNums [hd ((q%16:Nat):Int)]).size=1:=rfl;obtain⟨kq,hkq⟩:∃k,q%16=k:=⟨_,rfl⟩;rw[hkq]at hd2 hlt hrem HD hcut hs1;have hn4:sx.size<=6:=by rw[hsz];exact Nat.le_trans hn (nH_bd m).2
  have HSZ:=G hsz;clear hkq hq hsx HGO hsz;go_wp2_with fail;go_round
  case rel=>exact⟨i+1,q/16,hn',HQ2.out,by go_num,by rw[HD.out]⟩
  simp[ByteArray.size_append,hs1,HSZ.out];have:=(nH_bd m).2;omega
 have d2:decide ((0:Int)<(q:Int))=false:=by simp;omega
 have e:=nH_stop hm hn (by omega) (by rw[<-hq];omega);have HE:=U (strOfNums (hexI (m:Int))=sx) (by rw[HX.out,<-e,hsx]);clear hsz hsx hq;go_wp2_with fail;go_ret;rw[HE.out];exact⟨rfl,rfl⟩
theorem GE{l:Li}{i:Nat}(hi:i<l.length):codI (l.take (i+1))=(if i=0 then []else codI (l.take i)++[32])++hexI l[i]:=by
 have e:l.take (i+1)=l.take i++[l[i]]:=by rw[List.take_add_one,List.getElem?_eq_getElem hi];rfl
 rw[e];cases hl:l.take i with
 |nil=>
  have:i=0:=by
   have h:=congrArg List.length hl;rw[List.length_take,List.length_nil]at h;omega
  rw[if_pos this];rfl
 |cons c r=>
  have:i≠0:=fun e0=>by rw[e0]at hl;cases hl
  rw[if_neg this,codI_eq,List.cons_append,codI_eq,List.flatMap_append];simp
theorem WG(A:Oa)(n k:Nat)(l:Li)(w:Wv)(hA:aB w A l)(hn:l.length=n)(hv:∀z∈l,0<=z/\z<=1114111)(hb:n<=65536):Calls prog 78 #[H A n k] w (fun e w'=>e=.returned (.tuple #[.string (strOfNums (codI l)),I J 0])/\w=w'):=by
 subst hn;have HV:=G hv;have HA:=G hA;have HSN:=G (fun i(hi:i<l.length)=>GE hi)
 have HLE:=G (fun i=>show(codI (l.take i)).length<=458752 from by
  have:=codI_len (l.take i)
  rw[List.length_take]at this
  omega)
 clear hA hv;go_enter func78,ntmps78;go_wp2_with fail;go_loop [4,5] (fun u v=>∃i:Nat,i<=l.length/\v=I J i/\u=.string (strOfNums (codI (l.take i)))) (fun _ v=>l.length-(intOf v).toNat)
 case atStart=>exact⟨0,Nat.zero_le _,rfl,rfl⟩
 obtain⟨i,hi,rfl,rfl⟩:=hrel;by_cases hlt:i<l.length
 ·obtain⟨b,o,rfl,hc⟩:=HA.out.at hlt
  have c0:=hc i hlt;have hz:=HV.out _ (List.getElem_mem hlt);have KV:=G (fun W=>lC l[i] W);rw[fU hz.1 hz.2]at KV;have KH:=G (fun W=>RM l[i] W hz);have hil:(i:Int)<(l.length:Int):=by omega
  have hs:=HLE.out i;have HS:=G (HSN.out i hlt);have hh:=(hexI_len l[i]).2;clear hc hz;generalize l[i]=z at *;obtain⟨sx,hsx⟩:∃s,strOfNums (codI (l.take i))=s:=⟨_,rfl⟩;have hsz:sx.size<=458752:=by rw[<-hsx,strOfNums_size];exact hs
  have HSX:=G hsx;have hhz:(strOfNums (hexI z)).size<=6:=by rw[strOfNums_size];exact hh
  rw[hsx];clear hsx hs hh;by_cases h0:i=0
  ·have d0:decide (0<i)=false:=decide_eq_false (by omega)
   have d0':¬0<i:=by omega
   have HE:=U (strOfNums (codI (l.take (i+1)))=sx++strOfNums (hexI z)) (by
    rw[HS.out,if_pos h0,d_,<-HSX.out,h0];rfl)
   clear h0 HS;go_wp2_with fail;with_reducible refine(KV.out _).mono ?_
   rintro e W1 ⟨rfl,rfl⟩;go_wp2_with fail;with_reducible refine(KH.out _).mono ?_
   rintro e W1 ⟨rfl,rfl⟩;go_wp2_with fail;go_round
   case rel=>exact⟨i+1,by omega,by go_num,by rw[HE.out]⟩
   (try simp[intOf])<;>(try omega)
  have d0:decide (0<i)=true:=decide_eq_true (by omega);have d0':0<i:=by omega
  have HE:=U (strOfNums (codI (l.take (i+1)))=sx++⟨#[32]⟩++strOfNums (hexI z)) (by
   rw[HS.out,if_neg h0,d_,d_,<-HSX.out];rfl)
  clear h0 HS;go_wp2_with fail;with_reducible refine(KV.out _).mono ?_
  rintro e W1 ⟨rfl,rfl⟩;go_wp2_with fail;with_reducible refine(KH.out _).mono ?_
  rintro e W1 ⟨rfl,rfl⟩;go_wp2_with fail;go_round
  case rel=>exact⟨i+1,by omega,by go_num,by rw[HE.out]⟩
  (try simp[intOf])<;>(try omega)
 obtain rfl:i=l.length:=by omega
 rw[List.take_length];go_wp2_with fail;go_ret2;exact⟨rfl,rfl⟩
theorem yM(w:Wv):Calls prog 79 #[] w (fun e w'=>e=.returned (H (Z ⟨w.heap.size,0,N⟩) 4 4)/\Box w' w.heap.size 9 [.string ⟨#[61]⟩,.string ⟨#[60]⟩,.string ⟨#[60,60]⟩,.string ⟨#[60,60,60]⟩]/\By w w'):=by
 have XA:=Box.new w 9 [.string ⟨#[61]⟩,.string ⟨#[60]⟩,.string ⟨#[60,60]⟩,.string ⟨#[60,60,60]⟩] rfl;have BA:=(Below.refl w.heap.size w).alloc (Nat.le_refl _) (.cells #[.string ⟨#[61]⟩,.string ⟨#[60]⟩,.string ⟨#[60,60]⟩,.string ⟨#[60,60,60]⟩] 9);go_enter func79,ntmps79;go_wp2_with fail;go_ret;exact⟨rfl,XA,BA⟩
theorem WH(A:Oa)(na ca:Nat)(B:Oa)(nb cb:Nat)(t:Tlr)(w:Wv):Calls prog 43 #[.agg #[H A na ca,H B nb cb,I J t.lvl,.bool t.bef]] w (eD (kndT t) w):=by
 have XA:=Box.new w 35 [H A na ca,H B nb cb,I J t.lvl,.bool t.bef] rfl;have BA:=(Below.refl w.heap.size w).alloc (Nat.le_refl _) (.cells #[H A na ca,H B nb cb,I J t.lvl,.bool t.bef] 35);have WE:=U (∃V,w.alloc (.cells #[H A na ca,H B nb cb,I J t.lvl,.bool t.bef] 35)=V) (⟨_,rfl⟩);have HK:=U (kndT t=(decide (0<=t.lvl)&&decide (t.lvl<=3)&&(decide (0<t.lvl)||!t.bef))) rfl;obtain⟨r,hr⟩:∃r,kndT t=r:=⟨_,rfl⟩;rw[hr]at HK|-;clear hr;unfold eD;change Box (w.alloc (.cells #[H A na ca,H B nb cb,I J t.lvl,.bool t.bef] 35)) _ _ _ at XA;go_enter func43,ntmps43;go_upto_region 1 with(fail)
 obtain⟨V,hV⟩:=WE.out;rw[hV]at XA BA|-;clear hV WE;have a2:=XA.c 2 rfl;have a3:=XA.c 3 rfl;clear XA;generalize t.lvl=lv at *;generalize t.bef=bf at *;by_cases h0:0<=lv
 ·have d0:decide (0<=lv)=true:=decide_eq_true h0
  by_cases h3:lv<=3
  ·have d3:decide (lv<=3)=true:=decide_eq_true h3
   by_cases h1:0<lv
   ·have d1:decide (0<lv)=true:=decide_eq_true h1
    have HE:=U (r=true) (by rw[HK.out,d0,d3,d1];rfl);clear h0 h3 h1;go_wp2_with fail;go_ret;rw[HE.out];exact⟨rfl,BA⟩
   have d1:decide (0<lv)=false:=decide_eq_false h1;have HE:=U (r=!bf) (by rw[HK.out,d0,d3,d1];rfl);clear h0 h3 h1;go_wp2_with fail;go_ret;rw[HE.out];exact⟨rfl,BA⟩
  have d3:decide (lv<=3)=false:=decide_eq_false h3;have HE:=U (r=false) (by rw[HK.out,d0,d3];rfl);clear h0 h3;go_wp2_with fail;go_ret;rw[HE.out];exact⟨rfl,BA⟩
 have d0:decide (0<=lv)=false:=decide_eq_false h0;have HE:=U (r=false) (by rw[HK.out,d0];rfl);clear h0;go_wp2_with fail;go_ret;rw[HE.out];exact⟨rfl,BA⟩
theorem RP(A:Oa)(n k:Nat)(l:Li)(w:Wv)(hA:aB w A l)(hn:l.length=n)(hb:n<=9223372036854775807):Calls prog 44 #[H A n k] w (fun e w'=>e=.returned (.bool (rngT l))/\w=w'):=by
 subst hn;have HA:=G hA;have HB:=G (fun k(hk:k<l.length)h=>sX (zs:=l) hk h);have HGD:=G (fun h0 h=>sY (zs:=l) h0 h);have HN:=U (l.length=0->rngT l=false) (fun h=>by rw[List.length_eq_zero_iff.1 h];rfl);obtain⟨r,hr⟩:∃r,rngT l=r:=⟨_,rfl⟩;rw[hr]at HB HGD HN|-;clear hA hr;go_enter func44,ntmps44;go_wp2_with fail;go_loop [3] (fun u=>∃i:Nat,i<=l.length/\u=I J i/\Hid (∀j,(hj:j<l.length)->j<i->0<=l[j]/\l[j]<=1114111)) (fun u=>l.length-(intOf u).toNat)
 case atStart=>exact⟨0,Nat.zero_le _,rfl,G (fun j _ h=>absurd h (by omega))⟩
 obtain⟨i,hi,rfl,hall⟩:=hrel;by_cases hlt:i<l.length
 ·obtain⟨b,o,rfl,hc⟩:=HA.out.at hlt
  have c0:=hc i hlt;have KV:=G (fun W=>lC l[i] W);have hil:(i:Int)<(l.length:Int):=by omega
  have HBI:=G (fun h=>HB.out i hlt h)
  have HX:=U (0<=l[i]/\l[i]<=1114111->∀j,(hj:j<l.length)->j<i+1->0<=l[j]/\l[j]<=1114111) (fun h j hj h1=>by
   by_cases e:j<i
   ·exact hall.out j hj e
   ·obtain rfl:j=i:=by omega
    exact h)
  clear hc hall;generalize l[i]=z at *;by_cases hz:0<=z/\z<=1114111
  ·rw[fU hz.1 hz.2]at KV
   have HN2:=G (HX.out hz);clear hz HX HBI;go_wp2_with fail;with_reducible refine(KV.out _).mono ?_
   rintro e W1 ⟨rfl,rfl⟩;go_wp2_with fail;go_round
   case rel=>exact⟨i+1,by omega,by go_num,G HN2.out⟩
   (try simp[intOf])<;>(try omega)
  have hf:inR 0 1114111 z=false:=by
   by_cases h1:0<=z
   ·exact nA (by omega)
   exact nB (by omega)
  rw[hf]at KV;have HE:=G (HBI.out hz);clear hz HX HBI hf;go_wp2_with fail;with_reducible refine(KV.out _).mono ?_
  rintro e W1 ⟨rfl,rfl⟩;go_wp2_with fail;go_ret;rw[HE.out];exact⟨rfl,rfl⟩
 obtain rfl:i=l.length:=by omega
 by_cases h0:l.length=0
 ·have HE:=G (HN.out h0)
  have d0:decide (0<l.length)=false:=decide_eq_false (by omega);clear hall h0;go_wp2_with fail;go_ret;rw[HE.out,<-d0];exact⟨rfl,rfl⟩
 have HE:=G (HGD.out (by omega) (fun j hj=>hall.out j hj hj));have d0:decide (0<l.length)=true:=decide_eq_true (by omega);clear hall h0;go_wp2_with fail;go_ret;rw[HE.out,<-d0];exact⟨rfl,rfl⟩
end
end Go.Proofs.YtkhmjidaeliccaaGreatDoor
