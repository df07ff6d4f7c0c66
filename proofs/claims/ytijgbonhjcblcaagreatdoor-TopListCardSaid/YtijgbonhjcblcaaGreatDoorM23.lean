/- Texts that are merged into one file: ListPlain, SlPlain, SlClone, SlRows, MapC, SlLst. -/
import Derived.Test.YtijgbonhjcblcaaGreatDoorM02
import Derived.Test.YtijgbonhjcblcaaGreatDoorM03
import Derived.Test.YtijgbonhjcblcaaGreatDoorM04
import Derived.Test.YtijgbonhjcblcaaGreatDoorM06
import Derived.Test.YtijgbonhjcblcaaGreatDoorM10
import Derived.Test.YtijgbonhjcblcaaGreatDoorM16
import Derived.Test.YtijgbonhjcblcaaGreatDoorM22
set_option maxRecDepth 100000
set_option maxHeartbeats 51200000
namespace Go.Proofs.YtijgbonhjcblcaaGreatDoor.Srl
open Go.RowKit
abbrev It:=List Int × Int
def ltI (x y:It):Prop:=cmpL x.1 y.1 < 0∨(cmpL x.1 y.1=0∧x.2 < y.2)
instance (x y:It):Decidable (ltI x y):=by unfold ltI;infer_instance
theorem ltI_irrefl (x:It):¬ltI x x:=by
 rintro (h | ⟨_,h⟩)
 ·rw [cmpL_self] at h;omega
 ·omega
theorem ltI_trans {x y z:It} (h:ltI x y) (g:ltI y z):ltI x z:=by
 rcases h with h | ⟨h1,h2⟩
 ·rcases g with g | ⟨g1,g2⟩
  ·exact .inl (cmpL_lt_trans h g)
  ·rw [cmpL_eq_zero] at g1
   exact .inl (by rw [←g1];exact h)
 ·rw [cmpL_eq_zero] at h1
  rcases g with g | ⟨g1,g2⟩
  ·exact .inl (by rw [h1];exact g)
  ·exact .inr ⟨by rw [h1];exact g1,by omega⟩
theorem ltI_total {x y:It} (h:x≠y):ltI x y∨ltI y x:=by
 rcases cmpL_vals x.1 y.1 with e | e | e
 ·exact .inl (.inl (by omega))
 ·rcases Int.lt_trichotomy x.2 y.2 with g | g | g
  ·exact .inl (.inr ⟨e,g⟩)
  ·exact absurd (Prod.ext ((cmpL_eq_zero _ _).1 e) g) h
  ·exact .inr (.inr ⟨by rw [Pk.cmp_neg,e];rfl,g⟩)
 ·exact .inr (.inl (by rw [Pk.cmp_neg,e];omega))
theorem asc_unique:∀{L M:List It},L.Pairwise ltI→M.Pairwise ltI→(∀t,t ∈ L ↔ t ∈ M)→L=M
 | [],[],_,_,_=>rfl
 | [],y::M,_,_,h=>by have:=(h y).2 (by simp);cases this
 | x::L,[],_,_,h=>by have:=(h x).1 (by simp);cases this
 | x::L,y::M,hL,hM,h=>by
  rw [List.pairwise_cons] at hL hM
  have hxy:x=y:=by
   rcases List.mem_cons.1 ((h x).1 (by simp)) with e | e
   ·exact e
   ·rcases List.mem_cons.1 ((h y).2 (by simp)) with e' | e'
    ·exact e'.symm
    ·exact absurd (ltI_trans (hM.1 x e) (hL.1 y e')) (ltI_irrefl _)
  subst hxy
  rw [asc_unique hL.2 hM.2 (fun t=>?_)]
  have:=h t
  simp only [List.mem_cons] at this
  constructor
  ·intro ht
   rcases this.1 (.inr ht) with e | e
   ·subst e;exact absurd (hL.1 t ht) (ltI_irrefl _)
   ·exact e
  ·intro ht
   rcases this.2 (.inr ht) with e | e
   ·subst e;exact absurd (hM.1 t ht) (ltI_irrefl _)
   ·exact e
section
variable {α:Type} {p:α→Bool}
theorem cnt_le (l:List α):l.countP p≤l.length:=List.countP_le_length
theorem cnt_iff:∀{l:List α},l.Pairwise (fun a b=>p b=true→p a=true)→∀i,(hi:i < l.length)→(p l[i]=true ↔ i < l.countP p)
 | [],_,i,hi=>by simp at hi
 | a::l,h,i,hi=>by
  rw [List.pairwise_cons] at h
  by_cases ha:p a=true
  ·rw [List.countP_cons_of_pos ha]
   cases i with
   | zero=>simp [ha]
   | succ i=>
    rw [List.getElem_cons_succ,cnt_iff h.2 i (by simpa using hi)]
    omega
  ·have hz:l.countP p=0:=by
    rw [List.countP_eq_zero]
    intro b hb hp
    exact ha (h.1 b hb hp)
   rw [List.countP_cons_of_neg ha,hz]
   cases i with
   | zero=>simp [ha]
   | succ i=>
    rw [List.getElem_cons_succ,cnt_iff h.2 i (by simpa using hi),hz]
    omega
theorem cnt_take:∀{l:List α},l.Pairwise (fun a b=>p b=true→p a=true)→l.take (l.countP p)=l.filter p
 | [],_=>rfl
 | a::l,h=>by
  rw [List.pairwise_cons] at h
  by_cases ha:p a=true
  ·rw [List.countP_cons_of_pos ha,List.take_succ_cons,cnt_take h.2,List.filter_cons_of_pos ha]
  ·have hz:l.countP p=0:=by
    rw [List.countP_eq_zero]
    intro b hb hp
    exact ha (h.1 b hb hp)
   rw [List.countP_cons_of_neg ha,hz,List.take_zero,List.filter_cons_of_neg ha]
   symm
   rw [List.filter_eq_nil_iff]
   intro b hb hp
   exact ha (h.1 b hb hp)
theorem cnt_drop:∀{l:List α},l.Pairwise (fun a b=>p b=true→p a=true)→l.drop (l.countP p)=l.filter (fun x=>!p x)
 | [],_=>rfl
 | a::l,h=>by
  rw [List.pairwise_cons] at h
  by_cases ha:p a=true
  ·rw [List.countP_cons_of_pos ha,List.drop_succ_cons,cnt_drop h.2,List.filter_cons_of_neg (by simp [ha])]
  ·have hz:l.countP p=0:=by
    rw [List.countP_eq_zero]
    intro b hb hp
    exact ha (h.1 b hb hp)
   rw [List.countP_cons_of_neg ha,hz,List.drop_zero]
   symm
   rw [List.filter_eq_self]
   intro b hb
   rcases List.mem_cons.1 hb with rfl | hb
   ·simp [ha]
   ·have:¬p b=true:=fun hp=>ha (h.1 b hb hp)
    simp [this]
end
def plc (l:List It) (x:It):Nat:=l.countP (fun y=>decide (ltI y x))
theorem plc_pw {l:List It} (h:l.Pairwise ltI) (x:It):l.Pairwise (fun a b=>decide (ltI b x)=true→decide (ltI a x)=true):=
 h.imp (fun hab hb=>by simp at hb ⊢;exact ltI_trans hab hb)
theorem plc_iff {l:List It} (h:l.Pairwise ltI) (x:It) (i:Nat) (hi:i < l.length):ltI l[i] x ↔ i < plc l x:=by
 unfold plc
 have:=cnt_iff (plc_pw h x) i hi
 simpa using this
theorem plc_at {l:List It} (h:l.Pairwise ltI) {i:Nat} (hi:i < l.length):plc l l[i]=i:=by
 have h1:=(plc_iff h l[i] i hi)
 have h2:¬i < plc l l[i]:=fun g=>ltI_irrefl _ (h1.2 g)
 rcases Nat.lt_or_ge (plc l l[i]) i with g | g
 ·exfalso
  have h3:=(plc_iff h l[i] (plc l l[i]) (by omega)).1 (List.pairwise_iff_getElem.1 h _ _ (by omega) hi g)
  omega
 ·omega
def ins (l:List It) (x:It):List It:=l.take (plc l x)++x::l.drop (plc l x)
theorem ins_len {l:List It} {x:It}:(ins l x).length=l.length+1:=by
 unfold ins
 rw [List.length_append,List.length_cons,List.length_take,List.length_drop]
 have:plc l x≤l.length:=cnt_le _
 omega
theorem ins_asc {l:List It} {x:It} (h:l.Pairwise ltI) (hx:x ∉ l):(ins l x).Pairwise ltI:=by
 unfold ins
 have hp:=h
 rw [←List.take_append_drop (plc l x) l,List.pairwise_append] at hp
 rw [List.pairwise_append,List.pairwise_cons]
 have h1:∀y ∈ l.take (plc l x),ltI y x:=fun y hy=>by
  have e:l.take (plc l x)=l.filter (fun y=>decide (ltI y x)):=cnt_take (plc_pw h x)
  rw [e] at hy
  have:=(List.mem_filter.1 hy).2
  simpa using this
 have h2:∀y ∈ l.drop (plc l x),ltI x y:=fun y hy=>by
  have e:l.drop (plc l x)=l.filter (fun y=>!decide (ltI y x)):=cnt_drop (plc_pw h x)
  rw [e] at hy
  obtain ⟨hm,hn⟩:=List.mem_filter.1 hy
  have hne:x≠y:=fun e=>hx (by rw [e];exact hm)
  rcases ltI_total hne with g | g
  ·exact g
  ·simp at hn;exact absurd g hn
 refine ⟨hp.1,⟨h2,hp.2.1⟩,fun a ha b hb=>?_⟩
 rcases List.mem_cons.1 hb with rfl | hb
 ·exact h1 a ha
 ·exact ltI_trans (h1 a ha) (h2 b hb)
def frm (l:List It) (k:List Int):Nat:=l.countP (fun y=>decide (cmpL y.1 k < 0))
end Go.Proofs.YtijgbonhjcblcaaGreatDoor.Srl
namespace Go.Proofs.YtijgbonhjcblcaaGreatDoor.Srl
open Go.RowKit
abbrev Its:=List (Int × List Int)
section
variable (K:List Int→List Int)
def kI (p:Int × List Int):It:=(K p.2,p.1)
def kL (L:Its):List It:=L.map (kI K)
def idsL (L:Its):List Int:=L.map Prod.fst
def remL (L:Its) (id:Int):Its:=L.filter (fun p=>decide (p.1≠id))
def atL (L:Its) (id:Int) (t:List Int):Nat:=plc (kL K (remL L id)) (K t,id)
def putL (L:Its) (id:Int) (t:List Int):Its:=(remL L id).take (atL K L id t)++(id,t)::(remL L id).drop (atL K L id t)
def getL:Its→Int→Option (List Int)
 | [],_=>none
 | p::L,id=>if p.1=id then some p.2 else getL L id
def posL:Its→Int→Int
 | [],_=>-1
 | p::L,id=>if p.1=id then 0 else if posL L id=-1 then -1 else posL L id+1
structure Srt (L:Its):Prop where
 asc:(kL K L).Pairwise ltI
 one:(idsL L).Nodup
end
section
variable {K:List Int→List Int} {L:Its}
theorem kL_len:(kL K L).length=L.length:=by simp [kL]
theorem kL_get (i:Nat) (hi:i < L.length):(kL K L)[i]'(by rw [kL_len];exact hi)=(K L[i].2,L[i].1):=by simp [kL,kI]
theorem idsL_len:(idsL L).length=L.length:=by simp [idsL]
theorem getL_mem {id:Int} {t:List Int} (hn:(idsL L).Nodup) (h:(id,t) ∈ L):getL L id=some t:=by
 induction L with
 | nil=>cases h
 | cons p L ih=>
  unfold getL
  simp only [idsL,List.map_cons,List.nodup_cons] at hn
  rcases List.mem_cons.1 h with e | e
  ·subst e;rw [if_pos rfl]
  ·rw [if_neg (fun q=>hn.1 (by rw [q];exact List.mem_map_of_mem (f:=Prod.fst) e))]
   exact ih hn.2 e
theorem posL_none {id:Int} (h:id ∉ idsL L):posL L id=-1:=by
 induction L with
 | nil=>rfl
 | cons p L ih=>
  simp [idsL] at h
  unfold posL
  rw [if_neg (fun q=>h.1 q.symm),ih (by simpa [idsL] using h.2),if_pos rfl]
theorem posL_at (hn:(idsL L).Nodup) {i:Nat} (hi:i < L.length):posL L L[i].1=i:=by
 induction L generalizing i with
 | nil=>simp at hi
 | cons p L ih=>
  simp only [idsL,List.map_cons,List.nodup_cons] at hn
  unfold posL
  cases i with
  | zero=>simp
  | succ i=>
   have hi':i < L.length:=by simpa using hi
   have hne:¬p.1=L[i].1:=fun q=>hn.1 (by rw [q];exact List.mem_map_of_mem (f:=Prod.fst) (List.getElem_mem hi'))
   rw [List.getElem_cons_succ,if_neg hne,ih hn.2 hi',if_neg (by omega)]
   omega
theorem remL_none {id:Int} (h:id ∉ idsL L):remL L id=L:=by
 unfold remL
 rw [List.filter_eq_self]
 intro p hp
 simp
 rintro rfl
 exact h (List.mem_map_of_mem (f:=Prod.fst) hp)
theorem remL_at (hn:(idsL L).Nodup) {i:Nat} (hi:i < L.length):remL L L[i].1=L.take i++L.drop (i+1):=by
 induction L generalizing i with
 | nil=>simp at hi
 | cons p L ih=>
  simp only [idsL,List.map_cons,List.nodup_cons] at hn
  cases i with
  | zero=>
   unfold remL
   rw [List.getElem_cons_zero,List.filter_cons_of_neg (by simp)]
   rw [List.take_zero,List.nil_append,List.drop_succ_cons,List.drop_zero,List.filter_eq_self]
   intro q hq
   simp only [decide_eq_true_eq]
   intro e
   exact hn.1 (by rw [←e];exact List.mem_map_of_mem (f:=Prod.fst) hq)
  | succ i=>
   have hi':i < L.length:=by simpa using hi
   have hne:¬p.1=L[i].1:=fun q=>hn.1 (by rw [q];exact List.mem_map_of_mem (f:=Prod.fst) (List.getElem_mem hi'))
   have:=ih hn.2 hi'
   unfold remL at this ⊢
   rw [List.getElem_cons_succ,List.filter_cons_of_pos (by simpa using hne),this]
   rfl
theorem remL_ids {id:Int}:idsL (remL L id)=(idsL L).filter (fun z=>decide (z≠id)):=by
 unfold idsL remL
 rw [List.filter_map]
 rfl
theorem remL_not {id:Int}:id ∉ idsL (remL L id):=by
 rw [remL_ids]
 simp
theorem remL_mem {id:Int} {p:Int × List Int}:p ∈ remL L id ↔ p ∈ L∧p.1≠id:=by
 unfold remL
 rw [List.mem_filter]
 simp
theorem remL_len {id:Int}:(remL L id).length≤L.length:=List.length_filter_le _ _
theorem remL_len1 (hn:(idsL L).Nodup) {id:Int} (h:id ∈ idsL L):(remL L id).length+1=L.length:=by
 obtain ⟨p,hp,rfl⟩:=List.mem_map.1 h
 obtain ⟨i,hi,rfl⟩:=List.mem_iff_getElem.1 hp
 rw [remL_at hn hi]
 simp
 omega
theorem remL_srt (h:Srt K L) (id:Int):Srt K (remL L id):=by
 refine ⟨?_,?_⟩
 ·have:kL K (remL L id)=(kL K L).filter (fun z=>decide (z.2≠id)):=by
   unfold kL remL
   rw [List.filter_map]
   rfl
  rw [this]
  exact h.asc.filter _
 ·rw [remL_ids]
  exact h.one.filter _
theorem kL_mem {z:It}:z ∈ kL K L ↔ ∃p ∈ L,kI K p=z:=List.mem_map
theorem kL_not {k:List Int} {id:Int} (h:id ∉ idsL L):(k,id) ∉ kL K L:=by
 intro hm
 obtain ⟨p,hp,e⟩:=kL_mem.1 hm
 injection e with _ e
 exact h (by rw [←e];exact List.mem_map_of_mem (f:=Prod.fst) hp)
theorem putL_k (L:Its) (id:Int) (t:List Int):kL K (putL K L id t)=ins (kL K (remL L id)) (K t,id):=by
 unfold kL putL ins atL kL
 rw [List.map_append,List.map_cons,List.map_take,List.map_drop]
 rfl
theorem putL_mem {id:Int} {t:List Int} {p:Int × List Int}:p ∈ putL K L id t ↔ p=(id,t)∨(p ∈ L∧p.1≠id):=by
 unfold putL
 rw [List.mem_append,List.mem_cons]
 conv=>rhs;rw [←remL_mem,←List.take_append_drop (atL K L id t) (remL L id),List.mem_append]
 constructor
 ·rintro (h | h | h)
  ·exact .inr (.inl h)
  ·exact .inl h
  ·exact .inr (.inr h)
 ·rintro (h | h | h)
  ·exact .inr (.inl h)
  ·exact .inl h
  ·exact .inr (.inr h)
theorem putL_srt (h:Srt K L) (id:Int) (t:List Int):Srt K (putL K L id t):=by
 have hr:=remL_srt h id
 refine ⟨?_,?_⟩
 ·rw [putL_k]
  exact ins_asc hr.asc (kL_not remL_not)
 ·unfold putL idsL
  rw [List.map_append,List.map_cons]
  have hp:((remL L id).take (atL K L id t)++(remL L id).drop (atL K L id t))=remL L id:=List.take_append_drop _ _
  have h1:=hr.one
  have h2:id ∉ idsL (remL L id):=remL_not
  unfold idsL at h1 h2
  rw [←hp,List.map_append] at h1 h2
  rw [List.nodup_append] at h1 ⊢
  rw [List.mem_append,not_or] at h2
  refine ⟨h1.1,List.nodup_cons.2 ⟨h2.2,h1.2.1⟩,fun a ha b hb=>?_⟩
  rcases List.mem_cons.1 hb with e | e
  ·intro e'
   have e2:a=id:=e'.trans e
   exact h2.1 (by rw [←e2];rw [e2] at ha ⊢;exact ha)
  ·exact h1.2.2 a ha b e
theorem putL_len {id:Int} {t:List Int}:(putL K L id t).length=(remL L id).length+1:=by
 have:=congrArg List.length (putL_k (K:=K) L id t)
 rw [ins_len,kL_len,kL_len] at this
 exact this
theorem atL_le {id:Int} {t:List Int}:atL K L id t≤(remL L id).length:=by
 unfold atL plc
 exact Nat.le_trans (cnt_le _) (by rw [kL_len];exact Nat.le_refl _)
theorem srt_nil:Srt K []:=⟨List.Pairwise.nil,List.nodup_nil⟩
theorem posL_plc (h:Srt K L) {id:Int} {t:List Int} (hm:(id,t) ∈ L):posL L id=(plc (kL K L) (K t,id):Nat)∧plc (kL K L) (K t,id) < L.length:=by
 obtain ⟨i,hi,e⟩:=List.mem_iff_getElem.1 hm
 have h1:=plc_at h.asc (i:=i) (by rw [kL_len];exact hi)
 rw [kL_get i hi,e] at h1
 have h2:=posL_at h.one hi
 rw [e] at h2
 dsimp only at h1 h2
 rw [h2,h1]
 exact ⟨rfl,hi⟩
end
end Go.Proofs.YtijgbonhjcblcaaGreatDoor.Srl
namespace Go.Proofs.YtijgbonhjcblcaaGreatDoor
open Go.RowKit Go.Maps Go.WideMaps
def RetOwnC (t:TypeId) (k n:Nat) (cs:List Value) (w:World) (e:Ending) (w':World):Prop:=∃A c,e=.returned (.slice A n c)∧w'.ownsRow w.heap.size t k (.slice A n c) n cs∧Below w.heap.size w w'
theorem infoC_Span:(Tryz.prog.info? 128).map (fun i=>(i.zero,i.size,i.bytes))=some (some (.agg #[.int .i64 0,.int .i64 0,.int .i64 0]),3,24):=by kernel_rfl
theorem cloneSpan_raw (A:Option Addr) (n k:Nat) (cs:List Value) (w:World) (hA:Sl w A cs) (hl:cs.length=n*3) (h1:∀u ∈ cs,u.oneCell'=true) (hb:n≤1048576) :
  Calls Tryz.prog 96 #[.slice A n k] w (RetOwnC 128 3 n cs w):=by
 cases A with
 | none=>
  have hz:cs=[]:=by
   cases cs with
   | nil=>rfl
   | cons z r=>obtain ⟨b,o,h,_⟩:=hA (by simp);cases h
  subst hz
  have hn:n=0:=by simp at hl;omega
  subst hn
  have hnil:=fun (W:World) n c=>Lib.run_eql_slice_nil (P:=Tryz.prog) W 22 128 none n c 0 0 Tryz.underlying22
  go_enter Tryz.func96,Tryz.ntmps96
  go_wp2
  go_ret
  exact ⟨none,0,rfl,World.ownsRow_nil _ _ _ _,Below.refl _ _⟩
 | some a=>
  have hnil:=fun (W:World) n c=>Lib.run_eql_slice_nil (P:=Tryz.prog) W 22 128 (some a) n c 0 0 Tryz.underlying22
  go_enter Tryz.func96,Tryz.ntmps96
  go_wp2_with (at_builtin;refine wpList_app _ _ 22 128 (.agg #[.int .i64 0,.int .i64 0,.int .i64 0]) 3 24 rfl rfl Tryz.underlying22 infoC_Span rfl (by decide) (by decide) rfl (own_new [] 128 3 0 w.heap.size rfl rfl (Nat.le_refl _) (by omega)) rfl (Sl.alloc hA _) hl h1 (by omega) (by simp) ?_;intro A1 c1 w1 hown1 hc1 hb1 _ _;simp only [Nat.zero_add,List.nil_append] at hown1 hc1)
  go_ret
  exact ⟨A1,c1,rfl,hown1,((Below.refl _ _).alloc (Nat.le_refl _) _).trans hb1⟩
theorem infoC_Range:(Tryz.prog.info? 131).map (fun i=>(i.zero,i.size,i.bytes))=some (some (.agg #[.int .i64 0,.int .i64 0]),2,16):=by kernel_rfl
theorem cloneRange_raw (A:Option Addr) (n k:Nat) (cs:List Value) (w:World) (hA:Sl w A cs) (hl:cs.length=n*2) (h1:∀u ∈ cs,u.oneCell'=true) (hb:n≤1048576) :
  Calls Tryz.prog 97 #[.slice A n k] w (RetOwnC 131 2 n cs w):=by
 cases A with
 | none=>
  have hz:cs=[]:=by
   cases cs with
   | nil=>rfl
   | cons z r=>obtain ⟨b,o,h,_⟩:=hA (by simp);cases h
  subst hz
  have hn:n=0:=by simp at hl;omega
  subst hn
  have hnil:=fun (W:World) n c=>Lib.run_eql_slice_nil (P:=Tryz.prog) W 24 131 none n c 0 0 Tryz.underlying24
  go_enter Tryz.func97,Tryz.ntmps97
  go_wp2
  go_ret
  exact ⟨none,0,rfl,World.ownsRow_nil _ _ _ _,Below.refl _ _⟩
 | some a=>
  have hnil:=fun (W:World) n c=>Lib.run_eql_slice_nil (P:=Tryz.prog) W 24 131 (some a) n c 0 0 Tryz.underlying24
  go_enter Tryz.func97,Tryz.ntmps97
  go_wp2_with (at_builtin;refine wpList_app _ _ 24 131 (.agg #[.int .i64 0,.int .i64 0]) 2 16 rfl rfl Tryz.underlying24 infoC_Range rfl (by decide) (by decide) rfl (own_new [] 131 2 0 w.heap.size rfl rfl (Nat.le_refl _) (by omega)) rfl (Sl.alloc hA _) hl h1 (by omega) (by simp) ?_;intro A1 c1 w1 hown1 hc1 hb1 _ _;simp only [Nat.zero_add,List.nil_append] at hown1 hc1)
  go_ret
  exact ⟨A1,c1,rfl,hown1,((Below.refl _ _).alloc (Nat.le_refl _) _).trans hb1⟩
theorem infoC_Mapping:(Tryz.prog.info? 63).map (fun i=>(i.zero,i.size,i.bytes))=some (some (.agg #[.int .i64 0,.slice none 0 0,.string .empty]),3,48):=by kernel_rfl
theorem cloneMapping_raw (A:Option Addr) (n k:Nat) (cs:List Value) (w:World) (hA:Sl w A cs) (hl:cs.length=n*3) (h1:∀u ∈ cs,u.oneCell'=true) (hb:n≤1048576) :
  Calls Tryz.prog 98 #[.slice A n k] w (RetOwnC 63 3 n cs w):=by
 cases A with
 | none=>
  have hz:cs=[]:=by
   cases cs with
   | nil=>rfl
   | cons z r=>obtain ⟨b,o,h,_⟩:=hA (by simp);cases h
  subst hz
  have hn:n=0:=by simp at hl;omega
  subst hn
  have hnil:=fun (W:World) n c=>Lib.run_eql_slice_nil (P:=Tryz.prog) W 23 63 none n c 0 0 Tryz.underlying23
  go_enter Tryz.func98,Tryz.ntmps98
  go_wp2
  go_ret
  exact ⟨none,0,rfl,World.ownsRow_nil _ _ _ _,Below.refl _ _⟩
 | some a=>
  have hnil:=fun (W:World) n c=>Lib.run_eql_slice_nil (P:=Tryz.prog) W 23 63 (some a) n c 0 0 Tryz.underlying23
  go_enter Tryz.func98,Tryz.ntmps98
  go_wp2_with (at_builtin;refine wpList_app _ _ 23 63 (.agg #[.int .i64 0,.slice none 0 0,.string .empty]) 3 48 rfl rfl Tryz.underlying23 infoC_Mapping rfl (by decide) (by decide) rfl (own_new [] 63 3 0 w.heap.size rfl rfl (Nat.le_refl _) (by omega)) rfl (Sl.alloc hA _) hl h1 (by omega) (by simp) ?_;intro A1 c1 w1 hown1 hc1 hb1 _ _;simp only [Nat.zero_add,List.nil_append] at hown1 hc1)
  go_ret
  exact ⟨A1,c1,rfl,hown1,((Below.refl _ _).alloc (Nat.le_refl _) _).trans hb1⟩
theorem infoC_Group:(Tryz.prog.info? 137).map (fun i=>(i.zero,i.size,i.bytes))=some (some (.agg #[.string .empty,.int .i64 0,.int .i64 0]),3,32):=by kernel_rfl
theorem cloneGroup_raw (A:Option Addr) (n k:Nat) (cs:List Value) (w:World) (hA:Sl w A cs) (hl:cs.length=n*3) (h1:∀u ∈ cs,u.oneCell'=true) (hb:n≤1048576) :
  Calls Tryz.prog 99 #[.slice A n k] w (RetOwnC 137 3 n cs w):=by
 cases A with
 | none=>
  have hz:cs=[]:=by
   cases cs with
   | nil=>rfl
   | cons z r=>obtain ⟨b,o,h,_⟩:=hA (by simp);cases h
  subst hz
  have hn:n=0:=by simp at hl;omega
  subst hn
  have hnil:=fun (W:World) n c=>Lib.run_eql_slice_nil (P:=Tryz.prog) W 30 137 none n c 0 0 Tryz.underlying30
  go_enter Tryz.func99,Tryz.ntmps99
  go_wp2
  go_ret
  exact ⟨none,0,rfl,World.ownsRow_nil _ _ _ _,Below.refl _ _⟩
 | some a=>
  have hnil:=fun (W:World) n c=>Lib.run_eql_slice_nil (P:=Tryz.prog) W 30 137 (some a) n c 0 0 Tryz.underlying30
  go_enter Tryz.func99,Tryz.ntmps99
  go_wp2_with (at_builtin;refine wpList_app _ _ 30 137 (.agg #[.string .empty,.int .i64 0,.int .i64 0]) 3 32 rfl rfl Tryz.underlying30 infoC_Group rfl (by decide) (by decide) rfl (own_new [] 137 3 0 w.heap.size rfl rfl (Nat.le_refl _) (by omega)) rfl (Sl.alloc hA _) hl h1 (by omega) (by simp) ?_;intro A1 c1 w1 hown1 hc1 hb1 _ _;simp only [Nat.zero_add,List.nil_append] at hown1 hc1)
  go_ret
  exact ⟨A1,c1,rfl,hown1,((Below.refl _ _).alloc (Nat.le_refl _) _).trans hb1⟩
theorem infoC_Entry:(Tryz.prog.info? 105).map (fun i=>(i.zero,i.size,i.bytes))=some (some (.agg #[.slice none 0 0,.slice none 0 0]),2,48):=by kernel_rfl
theorem cloneEntry_raw (A:Option Addr) (n k:Nat) (cs:List Value) (w:World) (hA:Sl w A cs) (hl:cs.length=n*2) (h1:∀u ∈ cs,u.oneCell'=true) (hb:n≤1048576) :
  Calls Tryz.prog 100 #[.slice A n k] w (RetOwnC 105 2 n cs w):=by
 cases A with
 | none=>
  have hz:cs=[]:=by
   cases cs with
   | nil=>rfl
   | cons z r=>obtain ⟨b,o,h,_⟩:=hA (by simp);cases h
  subst hz
  have hn:n=0:=by simp at hl;omega
  subst hn
  have hnil:=fun (W:World) n c=>Lib.run_eql_slice_nil (P:=Tryz.prog) W 29 105 none n c 0 0 Tryz.underlying29
  go_enter Tryz.func100,Tryz.ntmps100
  go_wp2
  go_ret
  exact ⟨none,0,rfl,World.ownsRow_nil _ _ _ _,Below.refl _ _⟩
 | some a=>
  have hnil:=fun (W:World) n c=>Lib.run_eql_slice_nil (P:=Tryz.prog) W 29 105 (some a) n c 0 0 Tryz.underlying29
  go_enter Tryz.func100,Tryz.ntmps100
  go_wp2_with (at_builtin;refine wpList_app _ _ 29 105 (.agg #[.slice none 0 0,.slice none 0 0]) 2 48 rfl rfl Tryz.underlying29 infoC_Entry rfl (by decide) (by decide) rfl (own_new [] 105 2 0 w.heap.size rfl rfl (Nat.le_refl _) (by omega)) rfl (Sl.alloc hA _) hl h1 (by omega) (by simp) ?_;intro A1 c1 w1 hown1 hc1 hb1 _ _;simp only [Nat.zero_add,List.nil_append] at hown1 hc1)
  go_ret
  exact ⟨A1,c1,rfl,hown1,((Below.refl _ _).alloc (Nat.le_refl _) _).trans hb1⟩
end Go.Proofs.YtijgbonhjcblcaaGreatDoor
namespace Go.Proofs.YtijgbonhjcblcaaGreatDoor
open Go.RowKit
theorem flatK_set {α:Type} (enc:α→List Value) (k:Nat) (hk:∀x,(enc x).length=k):∀(xs:List α) (i j:Nat) (v:Value) (y:α) (hi:i < xs.length),j < k→enc y=(enc xs[i]).set j v→(flatK enc xs).set (i*k+j) v=flatK enc (xs.set i y)
 | [],i,_,_,_,hi,_,_=>absurd hi (Nat.not_lt_zero _)
 | x::xs,0,j,v,y,_,hj,he=>by
  have e1:flatK enc (x::xs)=enc x++flatK enc xs:=by simp [flatK]
  have e2:flatK enc ((x::xs).set 0 y)=enc y++flatK enc xs:=by simp [flatK]
  rw [e1,e2,he,Nat.zero_mul,Nat.zero_add,List.set_append_left _ _ (by rw [hk];exact hj)]
  rfl
 | x::xs,i+1,j,v,y,hi,hj,he=>by
  have e1:flatK enc (x::xs)=enc x++flatK enc xs:=by simp [flatK]
  have e2:flatK enc ((x::xs).set (i+1) y)=enc x++flatK enc (xs.set i y):=by simp [flatK]
  have hi':i < xs.length:=by simpa using hi
  rw [e1,e2,List.set_append_right _ _ (by rw [hk,Nat.add_mul];omega),hk,show (i+1)*k+j - k=i*k+j by rw [Nat.add_mul,Nat.one_mul];omega]
  rw [flatK_set enc k hk xs i j v y hi' hj (by simpa using he)]
theorem zip_set {α β:Type}:∀(ms:List α) (vs:List β) (i:Nat) (v:β) (hi:i < ms.length),(ms.zip vs).set i (ms[i],v)=ms.zip (vs.set i v)
 | [],_,i,_,hi=>absurd hi (Nat.not_lt_zero _)
 | _::_,[],_,_,_=>by simp
 | m::ms,u::vs,0,v,_=>by simp
 | m::ms,u::vs,i+1,v,hi=>by simp [zip_set ms vs i v (by simpa using hi)]
def IntsAp (B:Option Addr) (z:Nat) (w:World) (C:Option Addr) (zs:List Int):Prop:=Ints w C zs∧(zs≠[]→∀q,blk C=some q→blk B≠some q∧q≠z)
theorem Sl.stored {w:World} {C:Option Addr} {cs:List Value} (h:Sl w C cs) (p:Addr) (hp:cs≠[]→∀q,blk C=some q→p.block≠q) (v:Value):Sl (w.setCell p v) C cs:=fun hne=>by
 obtain ⟨b,o,rfl,hc⟩:=h hne
 refine ⟨b,o,rfl,fun j u hu=>?_⟩
 have hn:=hp hne b rfl
 rw [World.cell?_of_block (Below.heap_setCell w p v b (fun e=>hn e.symm))]
 exact hc j u hu
theorem IntsAp.below {w w':World} {z:Nat} {B C:Option Addr} {zs:List Int} (h:IntsAp B z w C zs) (hb:Below w.heap.size w w'):IntsAp B z w' C zs:=⟨h.1.below hb,h.2⟩
theorem IntsAp.stored {w:World} {z:Nat} {B C:Option Addr} {zs:List Int} (h:IntsAp B z w C zs) (p:Addr) (hp:blk B=some p.block∨p.block=z) (v:Value):IntsAp B z (w.setCell p v) C zs:=
 ⟨Sl.stored h.1 p (fun hne q hq e=>by
  have h2:=h.2 (by rintro rfl;exact hne rfl) q hq
  rcases hp with g | g
  ·exact h2.1 (by rw [g,e])
  ·exact h2.2 (by rw [←e,g])) v,h.2⟩
theorem sl_lt {w:World} {C:Option Addr} {cs:List Value} (h:Sl w C cs) (hne:cs≠[]) {q:Nat} (hq:blk C=some q):q < w.heap.size:=by
 obtain ⟨b,o,rfl,hc⟩:=h hne
 have hl:0 < cs.length:=List.length_pos_iff.2 hne
 have h1:=hc 0 cs[0] (List.getElem?_eq_getElem hl)
 have:=World.block_lt_of_cell? w _ h1
 have e:b=q:=by injection hq
 dsimp only at this
 omega
theorem ints_ne {zs:List Int} (h:zs≠[]):zs.map (Value.int .i64)≠[]:=by simpa using h
theorem own_blk {w:World} {base:Nat} {e:TypeId} {size n c:Nat} {A:Option Addr} {xs:List Value} (h:w.ownsRow base e size (.slice A n c) n xs) {q:Nat} (hq:blk A=some q):base≤q∧q < w.heap.size:=h.lt q (by rw [ownBlock_blk];exact hq)
theorem own_at {w:World} {base:Nat} {e:TypeId} {size n c:Nat} {A:Option Addr} {xs:List Value} (h:w.ownsRow base e size (.slice A n c) n xs) (hn:0 < n):∃g,A=some ⟨g,0,none⟩∧base≤g∧g < w.heap.size:=by
 rcases h.2 with ⟨_,h0⟩ | ⟨g,cap,cur,hv,h1,h2,_⟩
 ·omega
 ·injection hv with hA _ _
  exact ⟨g,hA,h1,(own_blk h (by rw [hA];rfl)).2⟩
theorem own_z {w:World} {base z size n c:Nat} {e:TypeId} {B:Option Addr} {cs:List Value} (h:w.ownsRow base e size (.slice B n c) n cs) (hz:z < base) (p:Addr) (hp:p.block=z) (v:Value):(w.setCell p v).ownsRow base e size (.slice B n c) n cs:=
 ownsRow_setCell_below h (by omega) v
structure MpsIn (w:World) (base z:Nat) (B:Option Addr) (cap:Nat) (ms:List Mp):Prop where
 ex:∃vs:List Value,vs.length=ms.length∧w.ownsRow base 63 3 (.slice B ms.length cap) ms.length (flatK mpC (ms.zip vs))∧∀i,(hi:i < ms.length)→(hv:i < vs.length)→∃C c,vs[i]=.slice C ms[i].to.length c∧ms[i].to.length≤c∧IntsAp B z w C ms[i].to
theorem mps_raw {w:World} {A:Option Addr} {ms:List Mp} (h:Mps w A ms):∃cs,Sl w A cs∧cs.length=ms.length*3∧(∀u ∈ cs,u.oneCell'=true)∧
  ∀base z B cap w',Below w.heap.size w w'→w.heap.size≤base→w.heap.size≤z→w'.ownsRow base 63 3 (.slice B ms.length cap) ms.length cs→MpsIn w' base z B cap ms:=by
 obtain ⟨vs,h1,h2,h3⟩:=h
 have hzl:(ms.zip vs).length=ms.length:=by rw [List.length_zip];omega
 refine ⟨flatK mpC (ms.zip vs),h2,by rw [flatK_len mpC 3 (fun _=>rfl),hzl],?_,fun base z B cap w' hb hbs hzs ho=>⟨vs,h1,ho,fun i hi hv=>?_⟩⟩
 ·intro u hu
  obtain ⟨p,hp,hg⟩:=List.mem_flatMap.1 hu
  obtain ⟨j,hj,rfl⟩:=List.getElem_of_mem hp
  simp only [mpC,List.mem_cons,List.not_mem_nil,or_false] at hg
  have hj':j < ms.length:=by omega
  rcases hg with rfl | rfl | rfl
  ·rfl
  ·obtain ⟨C,c,e,_⟩:=h3 j hj' (by omega)
   rw [show (ms.zip vs)[j].2=vs[j]'(by omega) from by rw [List.getElem_zip],e]
   rfl
  ·rfl
 ·obtain ⟨C,c,e1,e2,e3⟩:=h3 i hi hv
  refine ⟨C,c,e1,e2,e3.below hb,fun hne q hq=>?_⟩
  have h1:=sl_lt e3 (ints_ne hne) hq
  refine ⟨fun e=>?_,by omega⟩
  have:=(own_blk ho e).1
  omega
section
variable {w w':World} {base z:Nat} {B:Option Addr} {cap:Nat} {ms:List Mp}
theorem MpsIn.below (h:MpsIn w base z B cap ms) (hb:Below w.heap.size w w'):MpsIn w' base z B cap ms:=by
 obtain ⟨vs,h1,h2,h3⟩:=h.ex
 refine ⟨vs,h1,own_keep h2 hb,fun i hi hv=>?_⟩
 obtain ⟨C,c,e1,e2,e3⟩:=h3 i hi hv
 exact ⟨C,c,e1,e2,e3.below hb⟩
theorem MpsIn.is (h:MpsIn w base z B cap ms):Mps w B ms:=by
 obtain ⟨vs,h1,h2,h3⟩:=h.ex
 refine ⟨vs,h1,Sl.of_own h2,fun i hi hv=>?_⟩
 obtain ⟨C,c,e1,e2,e3⟩:=h3 i hi hv
 exact ⟨C,c,e1,e2,e3.1⟩
theorem MpsIn.at (h:MpsIn w base z B cap ms) {i:Nat} (hi:i < ms.length):∃g C c,B=some ⟨g,0,none⟩∧base≤g∧g < w.heap.size∧w.cell? ⟨g,i*3,none⟩=some (.int .i64 ms[i].frm)∧w.cell? ⟨g,i*3+1,none⟩=some (.slice C ms[i].to.length c)∧w.cell? ⟨g,i*3+2,none⟩=some (.string ms[i].tag)∧w.frozen? ⟨g,i*3+1,none⟩=false∧Ints w C ms[i].to:=by
 obtain ⟨vs,h1,h2,h3⟩:=h.ex
 obtain ⟨g,rfl,hg1,hg2⟩:=own_at h2 (by omega)
 obtain ⟨C,c,e1,e2,e3⟩:=h3 i hi (by omega)
 have hzl:(ms.zip vs).length=ms.length:=by rw [List.length_zip];omega
 have hzi:i < (ms.zip vs).length:=by omega
 have ezi:(ms.zip vs)[i]=(ms[i],vs[i]'(by omega)):=List.getElem_zip
 have gt:=fun j (hj:j < 3)=>(h2.cellAt (i*3+j) (by omega)).trans (flatK_get mpC 3 (fun _=>rfl) (ms.zip vs) i j hzi hj)
 refine ⟨g,C,c,rfl,hg1,hg2,(gt 0 (by omega)).trans (by rw [ezi];rfl),(gt 1 (by omega)).trans (by rw [ezi,e1];rfl),(gt 2 (by omega)).trans (by rw [ezi];rfl),h2.frozenAt _,e3.1⟩
theorem MpsIn.put {g:Nat} (h:MpsIn w base z (some ⟨g,0,none⟩) cap ms) {i:Nat} (hi:i < ms.length) {C:Option Addr} {c:Nat} (hc:ms[i].to.length≤c) (hC:Ints w C ms[i].to) (hap:ms[i].to≠[]→∀q,blk C=some q→g≠q∧q≠z) :
  MpsIn (w.setCell ⟨g,i*3+1,none⟩ (.slice C ms[i].to.length c)) base z (some ⟨g,0,none⟩) cap ms:=by
 obtain ⟨vs,h1,h2,h3⟩:=h.ex
 have hzi:i < (ms.zip vs).length:=by rw [List.length_zip];omega
 have ezi:(ms.zip vs)[i]=(ms[i],vs[i]'(by omega)):=List.getElem_zip
 refine ⟨vs.set i (.slice C ms[i].to.length c),by simpa using h1,?_,fun j hj hv=>?_⟩
 ·have:=(h2.stored (i*3+1) (.slice C ms[i].to.length c)).1
  rw [flatK_set mpC 3 (fun _=>rfl) (ms.zip vs) i 1 _ (ms[i],.slice C ms[i].to.length c) hzi (by omega) (by rw [ezi];rfl),zip_set ms vs i _ hi] at this
  exact this
 ·have hIC:IntsAp (some ⟨g,0,none⟩) z w C ms[i].to:=⟨hC,fun hne q hq=>⟨fun e=>(hap hne q hq).1 (Option.some.inj (show some g=some q from e)),(hap hne q hq).2⟩⟩
  by_cases e:i=j
  ·subst e
   exact ⟨C,c,by rw [List.getElem_set_self],hc,hIC.stored ⟨g,i*3+1,none⟩ (.inl rfl) _⟩
  ·obtain ⟨C',c',e1,e2,e3⟩:=h3 j hj (by omega)
   exact ⟨C',c',by rw [List.getElem_set_ne e,e1],e2,e3.stored ⟨g,i*3+1,none⟩ (.inl rfl) _⟩
theorem MpsIn.off (h:MpsIn w base z B cap ms) (hz:z < base) (p:Addr) (hp:p.block=z) (v:Value):MpsIn (w.setCell p v) base z B cap ms:=by
 obtain ⟨vs,h1,h2,h3⟩:=h.ex
 refine ⟨vs,h1,own_z h2 hz p hp v,fun i hi hv=>?_⟩
 obtain ⟨C,c,e1,e2,e3⟩:=h3 i hi hv
 exact ⟨C,c,e1,e2,e3.stored p (.inr hp) v⟩
end
def EltsAp (B:Option Addr) (z:Nat) (w:World) (C:Option Addr) (es:List Elt):Prop:=Elts w C es∧(es≠[]→∀q,blk C=some q→blk B≠some q∧q≠z)
theorem elts_ne {es:List Elt} (h:es≠[]):flatK Elt.cells es≠[]:=by
 intro e
 have:=congrArg List.length e
 rw [flatK_len Elt.cells 4 (fun _=>rfl)] at this
 have:=List.length_pos_iff.2 h
 simp at *
 omega
theorem EltsAp.below {w w':World} {z:Nat} {B C:Option Addr} {es:List Elt} (h:EltsAp B z w C es) (hb:Below w.heap.size w w'):EltsAp B z w' C es:=⟨h.1.below hb,h.2⟩
theorem EltsAp.stored {w:World} {z:Nat} {B C:Option Addr} {es:List Elt} (h:EltsAp B z w C es) (p:Addr) (hp:blk B=some p.block∨p.block=z) (v:Value):EltsAp B z (w.setCell p v) C es:=
 ⟨Sl.stored h.1 p (fun hne q hq e=>by
  have h2:=h.2 (by rintro rfl;exact hne rfl) q hq
  rcases hp with g | g
  ·exact h2.1 (by rw [g,e])
  ·exact h2.2 (by rw [←e,g])) v,h.2⟩
def enC (v:Value × Value):List Value:=[v.1,v.2]
structure EntsIn (w:World) (base z:Nat) (B:Option Addr) (cap:Nat) (xs:List Ent):Prop where
 ex:∃vs:List (Value × Value),vs.length=xs.length∧w.ownsRow base 105 2 (.slice B xs.length cap) xs.length (flatK enC vs)∧∀i,(hi:i < xs.length)→(hv:i < vs.length)→∃C c E d,vs[i]=(.slice C xs[i].codes.length c,.slice E xs[i].elems.length d)∧IntsAp B z w C xs[i].codes∧EltsAp B z w E xs[i].elems
theorem ents_raw {w:World} {A:Option Addr} {xs:List Ent} (h:Ents w A xs):∃cs,Sl w A cs∧cs.length=xs.length*2∧(∀u ∈ cs,u.oneCell'=true)∧
  ∀base z B cap w',Below w.heap.size w w'→w.heap.size≤base→w.heap.size≤z→w'.ownsRow base 105 2 (.slice B xs.length cap) xs.length cs→EntsIn w' base z B cap xs:=by
 obtain ⟨vs,h1,h2,h3⟩:=h
 refine ⟨flatK enC vs,h2,by rw [flatK_len enC 2 (fun _=>rfl),h1],?_,fun base z B cap w' hb hbs hzs ho=>⟨vs,h1,ho,fun i hi hv=>?_⟩⟩
 ·intro u hu
  obtain ⟨p,hp,hg⟩:=List.mem_flatMap.1 hu
  obtain ⟨j,hj,rfl⟩:=List.getElem_of_mem hp
  obtain ⟨C,c,E,d,e,_⟩:=(h3 j (by omega) hj).ex
  simp only [enC,List.mem_cons,List.not_mem_nil,or_false] at hg
  rcases hg with rfl | rfl
  ·rw [e];rfl
  ·rw [e];rfl
 ·obtain ⟨C,c,E,d,e1,e2,e3⟩:=(h3 i hi hv).ex
  refine ⟨C,c,E,d,e1,⟨e2.below hb,fun hne q hq=>⟨fun e=>?_,?_⟩⟩,⟨e3.below hb,fun hne q hq=>⟨fun e=>?_,?_⟩⟩⟩
  ·have:=sl_lt e2 (ints_ne hne) hq
   have:=(own_blk ho e).1
   omega
  ·have:=sl_lt e2 (ints_ne hne) hq
   omega
  ·have:=sl_lt e3 (elts_ne hne) hq
   have:=(own_blk ho e).1
   omega
  ·have:=sl_lt e3 (elts_ne hne) hq
   omega
section
variable {w w':World} {base z:Nat} {B:Option Addr} {cap:Nat} {xs:List Ent}
theorem EntsIn.below (h:EntsIn w base z B cap xs) (hb:Below w.heap.size w w'):EntsIn w' base z B cap xs:=by
 obtain ⟨vs,h1,h2,h3⟩:=h.ex
 refine ⟨vs,h1,own_keep h2 hb,fun i hi hv=>?_⟩
 obtain ⟨C,c,E,d,e1,e2,e3⟩:=h3 i hi hv
 exact ⟨C,c,E,d,e1,e2.below hb,e3.below hb⟩
theorem EntsIn.is (h:EntsIn w base z B cap xs):Ents w B xs:=by
 obtain ⟨vs,h1,h2,h3⟩:=h.ex
 refine ⟨vs,h1,Sl.of_own h2,fun i hi hv=>?_⟩
 obtain ⟨C,c,E,d,e1,e2,e3⟩:=h3 i hi hv
 exact ⟨C,c,E,d,e1,e2.1,e3.1⟩
theorem EntsIn.at (h:EntsIn w base z B cap xs) {i:Nat} (hi:i < xs.length):∃g C c E d,B=some ⟨g,0,none⟩∧base≤g∧g < w.heap.size∧w.cell? ⟨g,i*2,none⟩=some (.slice C xs[i].codes.length c)∧w.cell? ⟨g,i*2+1,none⟩=some (.slice E xs[i].elems.length d)∧w.frozen? ⟨g,i*2,none⟩=false∧w.frozen? ⟨g,i*2+1,none⟩=false∧Ints w C xs[i].codes∧Elts w E xs[i].elems:=by
 obtain ⟨vs,h1,h2,h3⟩:=h.ex
 obtain ⟨g,rfl,hg1,hg2⟩:=own_at h2 (by omega)
 obtain ⟨C,c,E,d,e1,e2,e3⟩:=h3 i hi (by omega)
 have hzi:i < vs.length:=by omega
 have gt:=fun j (hj:j < 2)=>(h2.cellAt (i*2+j) (by omega)).trans (flatK_get enC 2 (fun _=>rfl) vs i j hzi hj)
 exact ⟨g,C,c,E,d,rfl,hg1,hg2,(gt 0 (by omega)).trans (by rw [e1];rfl),(gt 1 (by omega)).trans (by rw [e1];rfl),h2.frozenAt _,h2.frozenAt _,e2.1,e3.1⟩
theorem EntsIn.put {g:Nat} (h:EntsIn w base z (some ⟨g,0,none⟩) cap xs) {i:Nat} (hi:i < xs.length) {C:Option Addr} {c:Nat} {E:Option Addr} {d:Nat} (hC:Ints w C xs[i].codes) (hap:xs[i].codes≠[]→∀q,blk C=some q→g≠q∧q≠z) (hE:Elts w E xs[i].elems) (hape:xs[i].elems≠[]→∀q,blk E=some q→g≠q∧q≠z) :
  EntsIn ((w.setCell ⟨g,i*2,none⟩ (.slice C xs[i].codes.length c)).setCell ⟨g,i*2+1,none⟩ (.slice E xs[i].elems.length d)) base z (some ⟨g,0,none⟩) cap xs:=by
 obtain ⟨vs,h1,h2,h3⟩:=h.ex
 have hzi:i < vs.length:=by omega
 refine ⟨(vs.set i (.slice C xs[i].codes.length c,vs[i].2)).set i (.slice C xs[i].codes.length c,.slice E xs[i].elems.length d),by simpa using h1,?_,fun j hj hv=>?_⟩
 ·have t1:=(h2.stored (i*2+0) (.slice C xs[i].codes.length c)).1
  rw [flatK_set enC 2 (fun _=>rfl) vs i 0 _ (.slice C xs[i].codes.length c,vs[i].2) hzi (by omega) rfl] at t1
  have t2:=(t1.stored (i*2+1) (.slice E xs[i].elems.length d)).1
  rw [flatK_set enC 2 (fun _=>rfl) (vs.set i (.slice C xs[i].codes.length c,vs[i].2)) i 1 _ (.slice C xs[i].codes.length c,.slice E xs[i].elems.length d) (by simpa using hzi) (by omega) (by rw [List.getElem_set_self];rfl)] at t2
  exact t2
 ·have hIC:IntsAp (some ⟨g,0,none⟩) z w C xs[i].codes:=⟨hC,fun hne q hq=>⟨fun e=>(hap hne q hq).1 (Option.some.inj (show some g=some q from e)),(hap hne q hq).2⟩⟩
  have hIE:EltsAp (some ⟨g,0,none⟩) z w E xs[i].elems:=⟨hE,fun hne q hq=>⟨fun e=>(hape hne q hq).1 (Option.some.inj (show some g=some q from e)),(hape hne q hq).2⟩⟩
  by_cases e:i=j
  ·subst e
   exact ⟨C,c,E,d,by rw [List.getElem_set_self],(hIC.stored ⟨g,i*2,none⟩ (.inl rfl) _).stored ⟨g,i*2+1,none⟩ (.inl rfl) _,(hIE.stored ⟨g,i*2,none⟩ (.inl rfl) _).stored ⟨g,i*2+1,none⟩ (.inl rfl) _⟩
  ·obtain ⟨C',c',E',d',e1,e2,e3⟩:=h3 j hj (by omega)
   exact ⟨C',c',E',d',by rw [List.getElem_set_ne e,List.getElem_set_ne e,e1],(e2.stored ⟨g,i*2,none⟩ (.inl rfl) _).stored ⟨g,i*2+1,none⟩ (.inl rfl) _,(e3.stored ⟨g,i*2,none⟩ (.inl rfl) _).stored ⟨g,i*2+1,none⟩ (.inl rfl) _⟩
theorem EntsIn.off (h:EntsIn w base z B cap xs) (hz:z < base) (p:Addr) (hp:p.block=z) (v:Value):EntsIn (w.setCell p v) base z B cap xs:=by
 obtain ⟨vs,h1,h2,h3⟩:=h.ex
 refine ⟨vs,h1,own_z h2 hz p hp v,fun i hi hv=>?_⟩
 obtain ⟨C,c,E,d,e1,e2,e3⟩:=h3 i hi hv
 exact ⟨C,c,E,d,e1,e2.stored p (.inr hp) v,e3.stored p (.inr hp) v⟩
end
end Go.Proofs.YtijgbonhjcblcaaGreatDoor
namespace Go.Proofs.YtijgbonhjcblcaaGreatDoor
open Go.RowKit Go.Maps Go.WideMaps
def MapC {κ:Type} (P:Program) (k:TypeId) (kl:κ→Lit) (ok:κ→Prop) (w:World) (b n:Nat) (f:κ→Option Value) (sz:Nat):Prop:=
 ∃D:DataW Value,w.ownsMap P k elemV b n D∧(∀x,ok x→Maps.has D (kl x)=(f x).isSome∧∀z,D.atKey (kl x) (.held z)=.held ((f x).getD z))∧Maps.size D=sz
section
variable {κ:Type} {P:Program} {k:TypeId} {kl:κ→Lit} {ok:κ→Prop} {w w':World} {b n sz:Nat} {f:κ→Option Value}
theorem MapC.is (h:MapC P k kl ok w b n f sz):MapIs P k kl ok w b n f:=by obtain ⟨D,h1,h2,_⟩:=h;exact ⟨D,h1,h2⟩
theorem MapC.made (P:Program) (k:TypeId) (kl:κ→Lit) (ok:κ→Prop) (w:World):MapC P k kl ok (w.alloc (.map #[] 0)) w.heap.size 0 (fun _=>none) 0:=
 ⟨.map [],World.ownsMap_made w P k elemV,fun _ _=>⟨rfl,fun _=>rfl⟩,rfl⟩
theorem MapC.lt (h:MapC P k kl ok w b n f sz):b < w.heap.size:=h.is.lt
theorem MapC.kept {row:Option Nat} (h:MapC P k kl ok w b n f sz) (hg:w.grownBy w' row) (hne:some b≠row):MapC P k kl ok w' b n f sz:=by
 obtain ⟨D,h1,h2⟩:=h
 exact ⟨D,h1.kept hg hne,h2⟩
theorem MapC.below (h:MapC P k kl ok w b n f sz) (hb:Below w.heap.size w w'):MapC P k kl ok w' b n f sz:=
 h.kept (row:=none) ⟨hb.os,hb.tape,hb.output,hb.size,fun k hk _=>hb.block k hk⟩ (by simp)
theorem MapC.put [DecidableEq κ] {t e:TypeId} (h:MapC P k kl ok w b n f sz) (K:Keyed P k) (ht:P.underlying t=some (.map k e)) (hn:n < maxLen) {key v:Value} {x:κ} (hx:ok x) (hkey:keyOf P k key=some (kl x))
  (hinj:∀y,ok y→kl y=kl x→y=x) :
  ∃w',(Instr.mapUpdate t (.map (some b)) key v).run P w=.ok () w'∧MapC P k kl ok w' b (n+1) (fun y=>if y=x then some v else f y) (if (f x).isSome=true then sz else sz+1)∧w.grownBy w' (some b):=by
 obtain ⟨D,h1,h2,h3⟩:=h
 obtain ⟨w',hrun,r1,r2⟩:=h1.update K ht hn hkey (val:=v) (d:=.held v) (ps:=[]) rfl
 refine ⟨w',hrun,⟨_,r1,fun y hy=>?_,?_⟩,r2⟩
 ·dsimp only
  by_cases e:y=x
  ·subst e
   rw [if_pos rfl]
   exact ⟨by rw [has_put_same h1.isMap (K.key hkey)];rfl,fun z=>atKey_put_same h1.isMap (K.key hkey) _ _⟩
  ·rw [if_neg e]
   have hne:kl y≠kl x:=fun e'=>e (hinj y hy e')
   rw [has_put_other hne]
   exact ⟨(h2 y hy).1,fun z=>(atKey_put_other hne _ _).trans ((h2 y hy).2 z)⟩
 ·rw [size_put (h1.tidy K),(h2 x hx).1,h3]
theorem MapC.drop [DecidableEq κ] {t e:TypeId} (h:MapC P k kl ok w b n f sz) (K:Keyed P k) (ht:P.underlying t=some (.map k e)) {key:Value} {x:κ} (hx:ok x) (hkey:keyOf P k key=some (kl x)) (hinj:∀y,ok y→kl y=kl x→y=x) (ty:TypeId) :
  ∃w',(Builtin.delete_ #[t,k] ty #[.map (some b),key]).run P w=.ok (.tuple #[]) w'∧MapC P k kl ok w' b n (fun y=>if y=x then none else f y) (sz - if (f x).isSome=true then 1 else 0)∧w.grownBy w' (some b):=by
 obtain ⟨D,h1,h2,h3⟩:=h
 obtain ⟨w',hrun,r1,r2⟩:=h1.drop K ht hkey ty
 refine ⟨w',hrun,⟨_,r1,fun y hy=>?_,?_⟩,r2.grown⟩
 ·dsimp only
  by_cases e:y=x
  ·subst e
   rw [if_pos rfl]
   exact ⟨has_del_same,fun z=>atKey_del_same _⟩
  ·rw [if_neg e]
   have hne:kl y≠kl x:=fun e'=>e (hinj y hy e')
   rw [has_del_other hne]
   exact ⟨(h2 y hy).1,fun z=>(atKey_del_other hne _).trans ((h2 y hy).2 z)⟩
 ·have h4:=size_del (k:=kl x) (h1.tidy K)
  rw [(h2 x hx).1,h3] at h4
  omega
theorem MapC.len {t e:TypeId} (h:MapC P k kl ok w b n f sz) (ht:P.underlying t=some (.map k e)) (ty:TypeId):(Builtin.len_ #[t] ty #[.map (some b)]).run P w=.ok (.int .i64 sz) w:=by
 obtain ⟨D,h1,_,h3⟩:=h
 rw [h1.len ht ty,h3]
end
section
variable {κ:Type} {P:Program} {w:World} {ops:Array Oper} {rest:List Oper} {o:Oper} {a:Act} {Q:Exit→Act→World→Prop} {md:Region.Mode} {S:World→Prop}
variable {k:TypeId} {kl:κ→Lit} {ok:κ→Prop} {b n sz:Nat} {f:κ→Option Value}
theorem wpList_cdel [DecidableEq κ] (hg:o.guard=none) (m x:Operand) (t:TypeId) (hop:o.op=Op.call { callee:=Callee.builtin Builtin.delete,args:=#[m,x],argTypes:=#[t,k] }) {e:TypeId} (h:MapC P k kl ok w b n f sz) (K:Keyed P k) (ht:P.underlying t=some (.map k e))
  (hm:a.eval m=.map (some b)) {key:Value} {y:κ} (hy:a.eval x=key) (hx:ok y) (hkey:keyOf P k key=some (kl y)) (hinj:∀z,ok z→kl z=kl y→z=y)
  (hK:∀w',MapC P k kl ok w' b n (fun z=>if z=y then none else f z) (sz - if (f y).isSome=true then 1 else 0)→w.grownBy w' (some b)→wpList P ops Q rest (a.put o.dst (.tuple #[])) w'):wpList P ops Q (o::rest) a w:=by
 refine wpList_plain hg fun K' hK'=>?_
 obtain ⟨w',hrun,r1,r2⟩:=h.drop K ht hx hkey hinj o.type
 unfold Oper.wp
 simp [execOp,hop,resolve,invoke,builtin,hm,hy,hrun,Result.andThen]
 exact hK' _ _ (hK w' r1 r2)
theorem anyH_cput [DecidableEq κ] {i:Nat} {oi:Oper} {fuel:Nat} {listed:Array Bool} (d:Option Tmp) (hi:ops[i]?=some oi) (hd:oi.dst=d)
  (hr:Region.ready md ops listed=[i]) (hw:Region.wanted oi (yielded ops a.tmps)=true) (m y v:Operand) (t:TypeId) (hop:oi.op=Op.mapUpdate t m y v) {e:TypeId} (h:MapC P k kl ok w b n f sz) (K:Keyed P k) (ht:P.underlying t=some (.map k e)) (hn:n < maxLen)
  (hm:a.eval m=.map (some b)) {key val:Value} {x:κ} (hy:a.eval y=key) (hv:a.eval v=val) (hx:ok x) (hkey:keyOf P k key=some (kl x)) (hinj:∀y,ok y→kl y=kl x→y=x)
  (hS:∀w',w.grownBy w' (some b)→S w')
  (hK:∀w',MapC P k kl ok w' b (n+1) (fun y=>if y=x then some val else f y) (if (f x).isSome=true then sz else sz+1)→w.grownBy w' (some b)→wpAnyH P md ops Q S fuel (listed.setIfInBounds i true) (a.put d undef) w'):wpAnyH P md ops Q S (fuel+1) listed a w:=by
 subst hd
 refine anyH_do hi hr hw (fun K' hK'=>?_)
 obtain ⟨w',hrun,r1,r2⟩:=h.put K ht hn (v:=val) hx hkey hinj
 unfold Oper.wp
 simp [execOp,hop,hm,hy,hv,hrun,Result.andThen]
 exact hK'.out _ _ (hS w' r2) (fun _=>hK w' r1 r2)
end
end Go.Proofs.YtijgbonhjcblcaaGreatDoor
namespace Go.Proofs.YtijgbonhjcblcaaGreatDoor
open Go.RowKit Go.Maps Go.WideMaps Srl
def kyN (x:Nrm) (c:Col) (o:Opt) (t:List Int):List Int:=keyN (optD o) (elsN x c t) (dtx x false t)
structure Chg (S:Nat→Prop) (w w':World):Prop where
 os:w'.os=w.os
 tape:w'.tape=w.tape
 output:w'.output=w.output
 size:w.heap.size≤w'.heap.size
 block:∀k,k < w.heap.size→¬S k→w'.heap[k]?=w.heap[k]?
theorem Chg.refl (S:Nat→Prop) (w:World):Chg S w w:=⟨rfl,rfl,rfl,Nat.le_refl _,fun _ _ _=>rfl⟩
theorem Chg.mono {S S':Nat→Prop} {w w':World} (h:Chg S w w') (hs:∀k,k < w.heap.size→S k→S' k):Chg S' w w':=⟨h.os,h.tape,h.output,h.size,fun k hk hn=>h.block k hk (fun q=>hn (hs k hk q))⟩
theorem Chg.trans {S:Nat→Prop} {a b c:World} (h:Chg S a b) (g:Chg S b c):Chg S a c:=
 ⟨g.os.trans h.os,g.tape.trans h.tape,g.output.trans h.output,Nat.le_trans h.size g.size,fun k hk hn=>(g.block k (Nat.lt_of_lt_of_le hk h.size) hn).trans (h.block k hk hn)⟩
theorem Chg.trans' {S S':Nat→Prop} {a b c:World} (h:Chg S a b) (g:Chg S' b c) (hs:∀k,S' k→S k∨a.heap.size≤k):Chg S a c:=
 ⟨g.os.trans h.os,g.tape.trans h.tape,g.output.trans h.output,Nat.le_trans h.size g.size,fun k hk hn=>(g.block k (Nat.lt_of_lt_of_le hk h.size) (fun q=>by rcases hs k q with e | e;exact hn e;omega)).trans (h.block k hk hn)⟩
theorem Chg.of_below {S:Nat→Prop} {w w':World} (h:Below w.heap.size w w'):Chg S w w':=⟨h.os,h.tape,h.output,h.size,fun k hk _=>h.block k hk⟩
theorem Chg.of_grown {S:Nat→Prop} {w w':World} {r:Option Nat} (h:w.grownBy w' r) (hr:∀q,r=some q→S q):Chg S w w':=⟨h.os,h.tape,h.output,h.size,fun k hk hn=>h.block k hk (fun e=>hn (hr k e.symm))⟩
theorem Chg.below {S:Nat→Prop} {w w':World} {n:Nat} (h:Chg S w w') (hn:n≤w.heap.size) (hs:∀k,S k→n≤k):Below n w w':=⟨h.os,h.tape,h.output,h.size,fun k hk=>h.block k (Nat.lt_of_lt_of_le hk hn) (fun q=>by have:=hs k q;omega)⟩
theorem Chg.sl {S:Nat→Prop} {w w':World} (h:Chg S w w') {A:Option Addr} {cs:List Value} (hA:Sl w A cs) (hn:cs≠[]→∀q,blk A=some q→¬S q):Sl w' A cs:=fun hne=>by
 obtain ⟨b,o,rfl,hc⟩:=hA hne
 have hb:b < w.heap.size:=sl_lt hA hne rfl
 refine ⟨b,o,rfl,fun j u hu=>?_⟩
 rw [World.cell?_of_block (h.block b hb (hn hne b rfl))]
 exact hc j u hu
theorem Chg.box {S:Nat→Prop} {w w':World} (h:Chg S w w') {b:Nat} {t:TypeId} {cs:List Value} (hB:Box w b t cs) (hn:¬S b):Box w' b t cs:=(h.block b hB.lt hn).trans hB
def CK (w w':World):Prop:=∀p v,w.cell? p=some v→w'.cell? p=some v
section
variable {w w':World}
theorem CK.sl (h:CK w w') {A:Option Addr} {cs:List Value} (hA:Sl w A cs):Sl w' A cs:=fun hne=>by
 obtain ⟨b,o,rfl,hc⟩:=hA hne
 exact ⟨b,o,rfl,fun j u hu=>h _ _ (hc j u hu)⟩
theorem CK.mps (h:CK w w') {A:Option Addr} {ms:List Mp} (hA:Mps w A ms):Mps w' A ms:=by
 obtain ⟨vs,h1,h2,h3⟩:=hA
 refine ⟨vs,h1,h.sl h2,fun i hi hv=>?_⟩
 obtain ⟨C,c,e1,e2,e3⟩:=h3 i hi hv
 exact ⟨C,c,e1,e2,h.sl e3⟩
theorem CK.nrm (h:CK w w') {A0:Option Addr} {n0:Nat} {A1:Option Addr} {n1:Nat} {A2:Option Addr} {n2:Nat} {x:Nrm} (hN:NrmAt w A0 n0 A1 n1 A2 n2 x):NrmAt w' A0 n0 A1 n1 A2 n2 x:=
 ⟨h.sl hN.s0,h.mps hN.s1,h.sl hN.s2,hN.l0,hN.l1,hN.l2⟩
theorem CK.ents (h:CK w w') {A:Option Addr} {xs:List Ent} (hA:Ents w A xs):Ents w' A xs:=by
 obtain ⟨vs,h1,h2,h3⟩:=hA
 refine ⟨vs,h1,h.sl h2,fun i hi hv=>?_⟩
 obtain ⟨C,c,E,d,e,e1,e2⟩:=(h3 i hi hv).ex
 exact ⟨C,c,E,d,e,h.sl e1,h.sl e2⟩
theorem CK.col (h:CK w w') {A:Option Addr} {n:Nat} {B:Option Addr} {m:Nat} {c:Col} (hC:ColAt w A n B m c):ColAt w' A n B m c:=
 ⟨h.ents hC.ents,h.sl hC.grps,hC.hn,hC.hm,hC.hs⟩
theorem CK.laid (h:CK w w') (hL:Laid w):Laid w':=by
 obtain ⟨h0,h1,h2,h3,h4,h5,h6,h7⟩:=hL
 exact ⟨h _ _ h0,h _ _ h1,h _ _ h2,h _ _ h3,h _ _ h4,h _ _ h5,h _ _ h6,h _ _ h7⟩
theorem Chg.ck {mb:Nat} (h:Chg (fun q=>q=mb) w w') (hm:∀o,w.cell? ⟨mb,o,none⟩=none):CK w w':=fun p v hp=>by
 have hs:p.spot=none:=World.cell?_spot hp
 have hb:=World.block_lt_of_cell? w _ hp
 obtain ⟨b,o,s⟩:=p
 dsimp only at hs hb
 subst hs
 have hne:¬b=mb:=by
  rintro rfl
  rw [hm o] at hp
  cases hp
 exact (World.cell?_of_block (h.block b hb hne)).trans hp
end
structure LsV where
 A0:Option Addr
 k0:Nat
 A1:Option Addr
 k1:Nat
 A2:Option Addr
 k2:Nat
 C:Option Addr
 a:Nat
 B:Option Addr
 b:Nat
def lsC (V:LsV) (x:Nrm) (c:Col) (o:Opt) (mb:Nat) (O:Option Addr) (n oc:Nat):List Value:=
 [.slice V.A0 x.cls.length V.k0,.slice V.A1 x.dec.length V.k1,.slice V.A2 x.exc.length V.k2,.slice V.C c.ents.length V.a,.slice V.B c.grps.length V.b,.int .i64 c.base,.int .i64 c.second,.int .i64 c.third,.int .i64 o.st,.int .i64 o.va,.bool o.bk,.bool o.idn,.map (some mb),.slice O n oc]
def Lf (l mb:Nat) (O:Option Addr) (k:Nat):Prop:=k=l∨k=mb∨blk O=some k
def ApI (S:Nat→Prop) (w:World) (A:Option Addr) (zs:List Int):Prop:=Ints w A zs∧(zs≠[]→∀q,blk A=some q→¬S q)
theorem ApI.chg {S:Nat→Prop} {w w':World} {A:Option Addr} {zs:List Int} (h:ApI S w A zs) (hc:Chg S w w'):Ints w' A zs:=hc.sl h.1 (fun hne=>h.2 (by rintro rfl;exact hne rfl))
theorem ApI.to {S S':Nat→Prop} {w w':World} {A:Option Addr} {zs:List Int} (h:ApI S w A zs) (hc:Chg S w w') (hs:∀k,S' k→S k∨w.heap.size≤k):ApI S' w' A zs:=
 ⟨h.chg hc,fun hne q hq hS=>by
  rcases hs q hS with g | g
  ·exact h.2 hne q hq g
  ·have:=sl_lt h.1 (ints_ne hne) hq;omega⟩
structure Lst (w:World) (l bs:Nat) (V:LsV) (mb:Nat) (O:Option Addr) (oc cnt:Nat) (x:Nrm) (c:Col) (o:Opt) (f:Int→Option Value) (L:Its):Prop where
 box:Box w l 92 (lsC V x c o mb O L.length oc)
 map:MapC Tryz.prog 3 ikey iok w mb cnt f L.length
 row:w.ownsRow bs 3 1 (.slice O L.length oc) L.length ((idsL L).map (Value.int .i64))
 set:∃w0:World,bs≤w0.heap.size∧w0.heap.size≤l∧(∀o,w0.cell? ⟨mb,o,Option.none⟩=Option.none)∧NrmAt w0 V.A0 x.cls.length V.A1 x.dec.length V.A2 x.exc.length x∧ColAt w0 V.C c.ents.length V.B c.grps.length c∧Laid w0∧Chg (fun q=>q=mb) w0 w∧(∀q,blk O=some q→w0.heap.size≤q)
 lol:bs≤l
 lom:bs≤mb
 nlm:l≠mb
 nlo:¬blk O=some l
 nmo:¬blk O=some mb
 item:∀p ∈ L,∃T tk K kk,f p.1=some (.agg #[.slice T p.2.length tk,.slice K (kyN x c o p.2).length kk])∧ApI (Lf l mb O) w T p.2∧ApI (Lf l mb O) w K (kyN x c o p.2)
 gone:∀id,iok id→id ∉ idsL L→f id=none
 srt:Srt (kyN x c o) L
 ok:∀p ∈ L,iok p.1∧p.2.length≤1000∧∀z ∈ p.2,iok z
 nz:NrmSz x
 cz:ColSz c
 len:L.length≤100
section
variable {w w':World} {l bs:Nat} {V:LsV} {mb:Nat} {O:Option Addr} {oc cnt:Nat} {x:Nrm} {c:Col} {o:Opt} {f:Int→Option Value} {L:Its}
theorem Lst.below (h:Lst w l bs V mb O oc cnt x c o f L) (hb:Below w.heap.size w w'):Lst w' l bs V mb O oc cnt x c o f L:=by
 obtain ⟨w0,e0,e1,e2,s1,s2,s3,s4,s5⟩:=h.set
 refine { h with box:=h.box.below hb h.box.lt,map:=h.map.below hb,row:=own_keep h.row hb,set:=⟨w0,e0,e1,e2,s1,s2,s3,s4.trans (Chg.of_below hb),s5⟩,item:=fun p hp=>?_ }
 obtain ⟨T,tk,K,kk,e,a1,a2⟩:=h.item p hp
 exact ⟨T,tk,K,kk,e,⟨a1.1.below hb,a1.2⟩,⟨a2.1.below hb,a2.2⟩⟩
theorem Lst.bs_le (h:Lst w l bs V mb O oc cnt x c o f L):bs≤w.heap.size:=by have:=h.lol;have:=h.box.lt;omega
theorem Lst.nrm (h:Lst w l bs V mb O oc cnt x c o f L):NrmAt w V.A0 x.cls.length V.A1 x.dec.length V.A2 x.exc.length x:=by obtain ⟨w0,_,_,e2,s1,_,_,s4,_⟩:=h.set;exact (s4.ck e2).nrm s1
theorem Lst.col (h:Lst w l bs V mb O oc cnt x c o f L):ColAt w V.C c.ents.length V.B c.grps.length c:=by obtain ⟨w0,_,_,e2,_,s2,_,s4,_⟩:=h.set;exact (s4.ck e2).col s2
theorem Lst.laid (h:Lst w l bs V mb O oc cnt x c o f L):Laid w:=by obtain ⟨w0,_,_,e2,_,_,s3,s4,_⟩:=h.set;exact (s4.ck e2).laid s3
theorem Lst.lf (h:Lst w l bs V mb O oc cnt x c o f L):∀k,Lf l mb O k→bs≤k:=by
 rintro k (rfl | rfl | e)
 ·exact h.lol
 ·exact h.lom
 ·exact (own_blk h.row e).1
theorem Lst.ids (h:Lst w l bs V mb O oc cnt x c o f L):Ints w O (idsL L):=Sl.of_own h.row
theorem Lst.at (h:Lst w l bs V mb O oc cnt x c o f L) {i:Nat} (hi:i < L.length):∃g,O=some ⟨g,0,none⟩∧bs≤g∧g < w.heap.size∧w.cell? ⟨g,i,none⟩=some (.int .i64 L[i].1):=by
 obtain ⟨g,rfl,h1,h2⟩:=own_at h.row (by omega)
 refine ⟨g,rfl,h1,h2,?_⟩
 have:=h.row.cellAt i (by omega)
 rw [List.getElem?_map] at this
 rw [this]
 unfold idsL
 rw [List.getElem?_map,List.getElem?_eq_getElem hi]
 rfl
theorem Lst.get (h:Lst w l bs V mb O oc cnt x c o f L) {i:Nat} (hi:i < L.length):∃T tk K kk,f L[i].1=some (.agg #[.slice T L[i].2.length tk,.slice K (kyN x c o L[i].2).length kk])∧ApI (Lf l mb O) w T L[i].2∧ApI (Lf l mb O) w K (kyN x c o L[i].2):=h.item _ (List.getElem_mem hi)
theorem lf_new {O':Option Addr} {l mb:Nat} {O:Option Addr} {n:Nat} (hO:blk O'=blk O∨∀q,blk O'=some q→n≤q):∀k,Lf l mb O' k→Lf l mb O k∨n≤k:=by
 rintro k (rfl | rfl | e)
 ·exact .inl (.inl rfl)
 ·exact .inl (.inr (.inl rfl))
 ·rcases hO with g | g
  ·exact .inl (.inr (.inr (by rw [←g];exact e)))
  ·exact .inr (g k e)
theorem Lst.step (h:Lst w l bs V mb O oc cnt x c o f L) {O':Option Addr} {oc' cnt':Nat} {f':Int→Option Value} {L':Its} (hc:Chg (Lf l mb O) w w') (hO:blk O'=blk O∨∀q,blk O'=some q→w.heap.size≤q)
  (hbox:Box w' l 92 (lsC V x c o mb O' L'.length oc')) (hmap:MapC Tryz.prog 3 ikey iok w' mb cnt' f' L'.length) (hrow:w'.ownsRow bs 3 1 (.slice O' L'.length oc') L'.length ((idsL L').map (Value.int .i64)))
  (hitem:∀p ∈ L',(p ∈ L∧f' p.1=f p.1)∨∃T tk K kk,f' p.1=some (.agg #[.slice T p.2.length tk,.slice K (kyN x c o p.2).length kk])∧ApI (Lf l mb O') w' T p.2∧ApI (Lf l mb O') w' K (kyN x c o p.2))
  (hnone:∀id,iok id→id ∉ idsL L'→f' id=none) (hsrt:Srt (kyN x c o) L') (hok:∀p ∈ L',iok p.1∧p.2.length≤1000∧∀z ∈ p.2,iok z) (hlen:L'.length≤100) :
  Lst w' l bs V mb O' oc' cnt' x c o f' L':=by
 obtain ⟨w0,e0,e1,e2,s1,s2,s3,s4,s5⟩:=h.set
 have hl:=h.box.lt
 have hm:=h.map.lt
 have hzw:=s4.size
 refine { box:=hbox,map:=hmap,row:=hrow,set:=⟨w0,e0,e1,e2,s1,s2,s3,s4.trans' hc (fun k hk=>?_),fun q hq=>?_⟩,lol:=h.lol,lom:=h.lom,nlm:=h.nlm,nlo:=?_,nmo:=?_,item:=fun p hp=>?_,gone:=hnone,srt:=hsrt,ok:=hok,nz:=h.nz,cz:=h.cz,len:=hlen }
 ·rcases hk with rfl | rfl | g
  ·exact .inr e1
  ·exact .inl rfl
  ·exact .inr (s5 k g)
 ·rcases hO with g | g
  ·exact s5 q (by rw [←g];exact hq)
  ·have:=g q hq;omega
 ·intro e
  rcases hO with g | g
  ·exact h.nlo (by rw [←g];exact e)
  ·have:=g l e;omega
 ·intro e
  rcases hO with g | g
  ·exact h.nmo (by rw [←g];exact e)
  ·have:=g mb e;omega
 ·rcases hitem p hp with ⟨hp',ef⟩ | g
  ·obtain ⟨T,tk,K,kk,e,a1,a2⟩:=h.item p hp'
   exact ⟨T,tk,K,kk,ef.trans e,a1.to hc (lf_new hO),a2.to hc (lf_new hO)⟩
  ·exact g
end
end Go.Proofs.YtijgbonhjcblcaaGreatDoor
