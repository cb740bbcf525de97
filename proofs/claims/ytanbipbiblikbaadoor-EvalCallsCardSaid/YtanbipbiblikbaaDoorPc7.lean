/- Ej, Ek, El, Em, En, Eo, EI, Gn15, Gn31, Gn21, Gn26, Gn27, Gn32, Gn39, XeLd, Arg, Laid, put together. -/
import Derived.Test.YtanbipbiblikbaaDoorPc6
import Derived.Deep.DeepHandedRow
import Derived.LaidMore
import Derived.Test.YtanbipbiblikbaaDoorCards
import Derived.Test.YtanbipbiblikbaaDoorTie
import Derived.Stop.Joined
namespace Go.Proofs.YtanbipbiblikbaaDoor
open Xe

set_option maxRecDepth 4000 in
set_option maxHeartbeats 1000000 in
theorem D8 {p : ProgT} {F : Int} {br : Nat} {um ud : Value} {g : Nat} (ih : fG Tryd.prog p F br um ud g) (w0 : World) (M : Mem) (Γ : List As) (e : Ex) (use : List Value) (env : Env) (sp : Value) (v : Val) (usv : List Value) (s : Int) (hE : EvHyp M p um ud F s env sp) (he : Kn w0 M (cj br um ud F s::Γ) (RdL M e.enc use)) (hv : Kn w0 M (cj br um ud F s::Γ) (RdL M v.enc usv)) (r : EO) (hr : r = kV (aK p F g) e env v s) (hb : r ≠ .bad) :
   bn Tryd.prog w0 M (cj br um ud F s::Γ) 113 #[cN br,.agg use.toArray,sp,.agg usv.toArray] (mG M Γ br um ud F r) (jw M Γ br um ud F r):=by
 refine bn.kn he fun he=>?_
 refine bn.kn hv fun hv=>?_
 have hs0:=hE.s0
 have hsF:=hE.sF
 have hF1:=hE.F1
 rw [Ex.ay] at he
 rw [Val.ay] at hv
 refine gx (f:=113) Tryd.func113 rfl Tryd.ntmps113 rfl rfl fun w1 hw1=>?_
 refine CW.aZ he ?_
 refine CW.aZ hv ?_
 refine CW.seq fun K1 hK1=>?_
 refine CW.region ?_
 refine RL.box _ rfl rfl rfl fun b5=>?_
 refine RL.box _ rfl rfl rfl fun b7=>?_
 refine RL.alloc _ bk rfl rfl fun b8=>?_
 refine RL.nil ?_
 refine hK1 _ _ _ ?_
 refine CW.kp [0,2,5,7,8] rfl ?_
 refine CW.seq fun K2 hK2=>?_
 refine CW.seq fun K3 hK3=>?_
 refine CW.region ?_
 refine RL.q (Y.field rfl wz) rfl ?_
 refine RL.q (Y.bl rfl MM MM Q3 cJ) rfl ?_
 refine RL.nil ?_
 refine hK3 _ _ _ ?_
 refine CW.kp [0,2,5,7,8,13] rfl ?_
 refine CW.block ?_
 refine CW.seq fun K4 hK4=>?_
 refine CW.region ?_
 refine RL.q (Y.eql rfl rfl) rfl ?_
 refine RL.q (Y.assign rfl) rfl ?_
 refine RL.nil ?_
 refine hK4 _ _ _ ?_
 refine CW.kp [0,2,5,7,8,13,14] rfl ?_
 refine CW.ite rfl (fun h1=>?_) (fun h1=>?_)
 ·rw [kV,if_pos h1] at hr
  refine CW.seq fun K5 hK5=>?_
  refine CW.seq fun K6 hK6=>?_
  refine CW.region ?_
  refine RL.q (Y.field rfl bN) rfl ?_
  refine RL.q (Y.bl rfl MM MM Q3 cJ) rfl ?_
  refine RL.q (Y.neq rfl rfl) rfl ?_
  refine RL.nil ?_
  refine hK6 _ _ _ ?_
  refine CW.kp [0,2,5,8,18] rfl ?_
  refine CW.ite rfl (fun h2=>?_) (fun h2=>?_)
  ·rw [if_pos h2] at hr
   obtain ⟨hkl,hr⟩:=kG (k:=1) rfl hr hb
   refine CW.seq fun K7 hK7=>?_
   refine CW.eT ?_
   refine RX.step ?_
   refine RL.q (Y.move rfl) rfl ?_
   refine RL.nil ?_
   refine RX.step ?_
   refine RL.q (Y.field rfl cO) rfl ?_
   refine RL.nil ?_
   refine RX.step ?_
   refine RL.aP rfl rfl MM MM Q3 gw rfl fun a21 c21 hu21 hc21 hl21=>?_
   refine RL.nil ?_
   refine RX.step ?_
   refine RL.q (Y.index 1 rfl rfl rfl AO jk SM) rfl ?_
   refine RL.nil ?_
   refine RX.step ?_
   refine RL.aO rfl rfl MM (Eq.trans (aV Ex.aq _ _ _ (List.getElem?_eq_getElem AO)) (Ex.ay _)) Q3 jY rfl fun us23 hul23 hur23=>?_
   refine RL.nil ?_
   refine RX.step ?_
   refine RL.q (Y.move rfl) rfl ?_
   refine RL.nil ?_
   refine RX.call rfl func74 rfl rfl (by exact bn.pick (x:=cj br um ud F s) PK (ih _ _ _ e.kids[1] _ env _ s (hE) KK (hr ▸ hb))) ?_ (by rintro ch Mp _ ⟨x,sp2,hpe,rfl,hsp,rfl⟩;exact az.drop ⟨x,sp2,hr.trans hpe,rfl,hsp,rfl⟩ SB)
   rintro v25 M25 _ ⟨x25,s25,he25,h025,h1F25,hs25,⟨us25,rfl,hr25⟩,rfl⟩
   have hul25 : us25.length = 3:=hr25.1.trans (Val.aq _)
   refine RX.of ?_
   refine RL.aZ hr25 ?_
   refine RL.aF 3 rfl rfl RP MM EL Q7 aD ?_
   refine RL.nil ?_
   refine hK7 _ _ _ ?_
   refine CW.kp [8] rfl ?_
   refine CW.ret ?_
   exact aE.mk rfl MM (by first | rfl | exact hul25) aG (az.drop ⟨x25,s25,hr.trans he25,h025,h1F25,hs25,⟨_,rfl,hr25⟩,rfl⟩ SB)
  rw [if_neg h2] at hr
  obtain ⟨hkl,hr⟩:=kG (k:=2) rfl hr hb
  refine CW.skip ?_
  refine hK5 _ _ _ ?_
  refine CW.seq fun K8 hK8=>?_
  refine CW.eT ?_
  refine RX.step ?_
  refine RL.q (Y.move rfl) rfl ?_
  refine RL.nil ?_
  refine RX.step ?_
  refine RL.q (Y.field rfl cO) rfl ?_
  refine RL.nil ?_
  refine RX.step ?_
  refine RL.aP rfl rfl MM MM Q3 gw rfl fun a28 c28 hu28 hc28 hl28=>?_
  refine RL.nil ?_
  refine RX.step ?_
  refine RL.q (Y.index 2 rfl rfl rfl AO jk SM) rfl ?_
  refine RL.nil ?_
  refine RX.step ?_
  refine RL.aO rfl rfl MM (Eq.trans (aV Ex.aq _ _ _ (List.getElem?_eq_getElem AO)) (Ex.ay _)) Q3 jY rfl fun us30 hul30 hur30=>?_
  refine RL.nil ?_
  refine RX.step ?_
  refine RL.q (Y.move rfl) rfl ?_
  refine RL.nil ?_
  refine RX.call rfl func74 rfl rfl (by exact bn.pick (x:=cj br um ud F s) PK (ih _ _ _ e.kids[2] _ env _ s (hE) KK (hr ▸ hb))) ?_ (by rintro ch Mp _ ⟨x,sp2,hpe,rfl,hsp,rfl⟩;exact az.drop ⟨x,sp2,hr.trans hpe,rfl,hsp,rfl⟩ SB)
  rintro v32 M32 _ ⟨x32,s32,he32,h032,h1F32,hs32,⟨us32,rfl,hr32⟩,rfl⟩
  have hul32 : us32.length = 3:=hr32.1.trans (Val.aq _)
  refine RX.of ?_
  refine RL.aZ hr32 ?_
  refine RL.aF 3 rfl rfl RP MM EL Q7 aD ?_
  refine RL.nil ?_
  refine hK8 _ _ _ ?_
  refine CW.kp [8] rfl ?_
  refine CW.ret ?_
  exact aE.mk rfl MM (by first | rfl | exact hul32) aG (az.drop ⟨x32,s32,hr.trans he32,h032,h1F32,hs32,⟨_,rfl,hr32⟩,rfl⟩ SB)
 refine CW.seq fun K9 hK9=>?_
 refine CW.region ?_
 refine RL.q (Y.eql rfl rfl) rfl ?_
 refine RL.q (Y.assign rfl) rfl ?_
 refine RL.nil ?_
 refine hK9 _ _ _ ?_
 refine CW.kp [0,2,5,7,8,13,33] rfl ?_
 refine CW.ite rfl (fun h3=>?_) (fun h3=>?_)
 ·rw [kV,if_neg h1,if_pos h3] at hr
  obtain ⟨hkl,hr⟩:=kG (k:=1) rfl hr hb
  refine CW.seq fun K10 hK10=>?_
  refine CW.gK 11 mix (x:=cj br um ud F s) PK ?_
  refine HQ.take 0 rfl KR KR KR rfl (Y.move rfl) rfl ?_
  refine HQ.take 1 rfl KR KR KR rfl (Y.field rfl cO) rfl ?_
  refine HQ.aP 2 rfl KR KR KR rfl rfl MM MM Q3 gw rfl fun a37 c37 hu37 hc37 hl37=>?_
  refine HQ.take 3 rfl KR KR KR rfl (Y.index 1 rfl rfl rfl AO jk SM) rfl ?_
  refine HQ.aO 4 rfl KR KR KR rfl rfl MM (Eq.trans (aV Ex.aq _ _ _ (List.getElem?_eq_getElem AO)) (Ex.ay _)) Q3 jY rfl fun us39 hul39 hur39=>?_
  refine HQ.take 5 rfl KR KR KR rfl (Y.move rfl) rfl ?_
  refine HQ.take 6 rfl KR KR KR rfl (Y.field rfl mW) rfl ?_
  refine HQ.take 7 rfl KR KR KR rfl (Y.gN [_,_,_] rfl MM MM Q3 ld) rfl ?_
  refine HQ.take 8 rfl KR KR KR rfl (Y.bO rfl MM MM EL aG) rfl ?_
  refine HQ.step 9 rfl KR ?_
  refine RL.call rfl func91 rfl rfl (by exact oJ _ _ _ env _ e.id 0 v usv hE.scope KK) ?_
  rintro v44 M44 _ ⟨hs44,rfl,hsc44⟩
  obtain ⟨p44,rfl,_⟩:=hsc44.ptr
  refine RL.nil ⟨bW (hs44) SB,?_⟩
  refine HQ.call 10 rfl KR rfl func74 rfl rfl (by exact bn.pick (x:=cj br um ud F s) PK (ih _ _ _ e.kids[1] _ ((e.id,0,v)::env) _ s (hE.mono hs44 hs0 hsF hsc44) KK (hr ▸ hb))) ?_ (by rintro ch Mp _ ⟨x,sp2,hpe,rfl,hsp,rfl⟩;exact az.drop ⟨x,sp2,hr.trans hpe,rfl,hs44.trans hsp,rfl⟩ SB)
  rintro v45 M45 _ ⟨x45,s45,he45,h045,h1F45,hs45,⟨us45,rfl,hr45⟩,rfl⟩
  have hul45 : us45.length = 3:=hr45.1.trans (Val.aq _)
  refine ⟨bW (hs44.trans (hs45)) SB,?_⟩
  refine HQ.last 11 rfl ⟨KR,rfl⟩ KR ?_
  refine RL.aZ hr45 ?_
  refine RL.aF 3 rfl rfl RP MM EL Q7 aD ?_
  refine RL.nil ?_
  refine hK10 _ _ _ ?_
  refine CW.kp [8] rfl ?_
  refine CW.ret ?_
  exact aE.mk rfl MM (by first | rfl | exact hul45) aG (az.drop ⟨x45,s45,hr.trans he45,h045,h1F45,hs44.trans hs45,⟨_,rfl,hr45⟩,rfl⟩ SB)
 refine CW.seq fun K11 hK11=>?_
 refine CW.region ?_
 refine RL.q (Y.eql rfl rfl) rfl ?_
 refine RL.q (Y.assign rfl) rfl ?_
 refine RL.nil ?_
 refine hK11 _ _ _ ?_
 refine CW.kp [0,2,5,7,8,13,46] rfl ?_
 refine CW.ite rfl (fun h4=>?_) (fun h4=>?_)
 ·rw [kV,if_neg h1,if_neg h3,if_pos h4] at hr
  have hn0 : 0<=e.n:=Decidable.byContradiction fun h=>hb (by rw [hr,if_neg h])
  rw [if_pos hn0] at hr
  obtain ⟨kk,hkk⟩:=Int.eq_ofNat_of_zero_le hn0
  obtain ⟨x,hx,hr⟩:=y5 hr hb
  rw [hkk,Int.toNat_natCast] at hx
  obtain ⟨hkl,rfl⟩:=List.getElem?_eq_some_iff.1 hx
  refine CW.seq fun K12 hK12=>?_
  refine CW.region ?_
  refine RL.q (Y.field rfl di) rfl ?_
  refine RL.aP rfl rfl MM MM Q3 fB rfl fun a49 c49 hu49 hc49 hl49=>?_
  refine RL.q (Y.field rfl iD) rfl ?_
  refine RL.q (Y.bl rfl MM MM Q3 cJ) rfl ?_
  refine RL.q (Y.index kk rfl rfl hkk hkl eB (fun _ hw=>hw.rd_some MM OM)) rfl ?_
  refine RL.aO rfl rfl MM (Eq.trans (aV Val.aq _ _ _ (List.getElem?_eq_getElem AO)) (Val.ay _)) Q3 aG rfl fun us53 hul53 hur53=>?_
  refine RL.aF 3 rfl rfl RP MM EL Q7 aD ?_
  refine RL.nil ?_
  refine hK12 _ _ _ ?_
  refine CW.kp [8] rfl ?_
  refine CW.ret ?_
  exact aE.mk rfl MM (by first | rfl | exact hul53) aG (az.drop ⟨v.kids[kk],s,hr,hs0,hsF,Sub.refl _,⟨_,rfl,by rw [Val.ay];exact hur53⟩,rfl⟩ SB)
 refine CW.seq fun K13 hK13=>?_
 refine CW.region ?_
 refine RL.q (Y.eql rfl rfl) rfl ?_
 refine RL.q (Y.assign rfl) rfl ?_
 refine RL.nil ?_
 refine hK13 _ _ _ ?_
 refine CW.kp [0,2,5,7,8,54] rfl ?_
 refine CW.ite rfl (fun h5=>?_) (fun h5=>?_)
 ·rw [kV,if_neg h1,if_neg h3,if_neg h4,if_pos h5] at hr
  obtain ⟨hv0,hvl⟩ : ∃ h : 0 < v.kids.length,v.kids[0]? = some v.kids[0]:=by
    rcases Nat.eq_zero_or_pos v.kids.length with h | h
    · rw [List.eq_nil_of_length_eq_zero h] at hr;exact absurd hr hb
    · exact ⟨h,List.getElem?_eq_getElem h⟩
  rw [hvl] at hr
  simp only at hr
  have hvn : -4611686018427387904<=v.n/\v.n<=4611686018427387904:=Decidable.byContradiction fun h=>hb (by rw [hr,if_neg h])
  rw [if_pos hvn] at hr
  obtain ⟨kk,hkk⟩:=F7 hr hb
  obtain ⟨hkl,hr⟩:=kG hkk hr hb
  refine CW.seq fun K14 hK14=>?_
  refine CW.gK 19 mix (x:=cj br um ud F s) PK ?_
  refine HQ.take 0 rfl KR KR KR rfl (Y.move rfl) rfl ?_
  refine HQ.take 1 rfl KR KR KR rfl (Y.field rfl cO) rfl ?_
  refine HQ.aP 2 rfl KR KR KR rfl rfl MM MM Q3 gw rfl fun a58 c58 hu58 hc58 hl58=>?_
  refine HQ.take 3 rfl KR KR KR rfl (Y.field rfl bN) rfl ?_
  refine HQ.take 4 rfl KR KR KR rfl (Y.bl rfl MM MM Q3 cJ) rfl ?_
  refine HQ.take 5 rfl KR KR KR rfl (Y.add rfl rfl OM) rfl ?_
  refine HQ.take 6 rfl KR KR KR rfl (Y.index kk rfl rfl hkk hkl jk (fun _ hw=>hw.rd_some MM OM)) rfl ?_
  refine HQ.aO 7 rfl KR KR KR rfl rfl MM (Eq.trans (aV Ex.aq _ _ _ (List.getElem?_eq_getElem AO)) (Ex.ay _)) Q3 jY rfl fun us63 hul63 hur63=>?_
  refine HQ.take 8 rfl KR KR KR rfl (Y.move rfl) rfl ?_
  refine HQ.take 9 rfl KR KR KR rfl (Y.field rfl mW) rfl ?_
  refine HQ.take 10 rfl KR KR KR rfl (Y.gN [_,_,_] rfl MM MM Q3 ld) rfl ?_
  refine HQ.take 11 rfl KR KR KR rfl (Y.field rfl bN) rfl ?_
  refine HQ.take 12 rfl KR KR KR rfl (Y.bl rfl MM MM Q3 cJ) rfl ?_
  refine HQ.take 13 rfl KR KR KR rfl (Y.field rfl di) rfl ?_
  refine HQ.aP 14 rfl KR KR KR rfl rfl MM MM Q3 fB rfl fun a70 c70 hu70 hc70 hl70=>?_
  refine HQ.take 15 rfl KR KR KR rfl (Y.index 0 rfl rfl rfl AO eB SM) rfl ?_
  refine HQ.aO 16 rfl KR KR KR rfl rfl MM (Eq.trans (aV Val.aq _ _ _ (List.getElem?_eq_getElem AO)) (Val.ay _)) Q3 aG rfl fun us72 hul72 hur72=>?_
  refine HQ.step 17 rfl KR ?_
  refine RL.call rfl func91 rfl rfl (by exact oJ _ _ _ env _ e.id v.n v.kids[0] us72 hE.scope KK) ?_
  rintro v73 M73 _ ⟨hs73,rfl,hsc73⟩
  obtain ⟨p73,rfl,_⟩:=hsc73.ptr
  refine RL.nil ⟨bW (hs73) SB,?_⟩
  refine HQ.call 18 rfl KR rfl func74 rfl rfl (by exact bn.pick (x:=cj br um ud F s) PK (ih _ _ _ e.kids[kk] _ ((e.id,v.n,v.kids[0])::env) _ s (hE.mono hs73 hs0 hsF hsc73) KK (hr ▸ hb))) ?_ (by rintro ch Mp _ ⟨x,sp2,hpe,rfl,hsp,rfl⟩;exact az.drop ⟨x,sp2,hr.trans hpe,rfl,hs73.trans hsp,rfl⟩ SB)
  rintro v74 M74 _ ⟨x74,s74,he74,h074,h1F74,hs74,⟨us74,rfl,hr74⟩,rfl⟩
  have hul74 : us74.length = 3:=hr74.1.trans (Val.aq _)
  refine ⟨bW (hs73.trans (hs74)) SB,?_⟩
  refine HQ.last 19 rfl ⟨KR,rfl⟩ KR ?_
  refine RL.aZ hr74 ?_
  refine RL.aF 3 rfl rfl RP MM EL Q7 aD ?_
  refine RL.nil ?_
  refine hK14 _ _ _ ?_
  refine CW.kp [8] rfl ?_
  refine CW.ret ?_
  exact aE.mk rfl MM (by first | rfl | exact hul74) aG (az.drop ⟨x74,s74,hr.trans he74,h074,h1F74,hs73.trans hs74,⟨_,rfl,hr74⟩,rfl⟩ SB)
 rw [kV,if_neg h1,if_neg h3,if_neg h4,if_neg h5] at hr
 have hab:=pU hr hb
 obtain ⟨ra,hra0⟩ : ∃ ra,ra = lu (aK p F g) e.kids 1 env s:=⟨_,rfl⟩
 rw [<-hra0] at hr hab
 obtain ⟨hk1,hk1e⟩:=kG (k:=1) rfl hra0 hab
 rw [hk1e] at hr hab
 refine CW.skip ?_
 refine hK2 _ _ _ ?_
 refine CW.seq fun K15 hK15=>?_
 refine CW.eT ?_
 refine RX.step ?_
 refine RL.q (Y.move rfl) rfl ?_
 refine RL.nil ?_
 refine RX.step ?_
 refine RL.q (Y.field rfl cO) rfl ?_
 refine RL.nil ?_
 refine RX.step ?_
 refine RL.aP rfl rfl MM MM Q3 gw rfl fun a77 c77 hu77 hc77 hl77=>?_
 refine RL.nil ?_
 refine RX.step ?_
 refine RL.q (Y.index 1 rfl rfl rfl AO jk SM) rfl ?_
 refine RL.nil ?_
 refine RX.step ?_
 refine RL.aO rfl rfl MM (Eq.trans (aV Ex.aq _ _ _ (List.getElem?_eq_getElem AO)) (Ex.ay _)) Q3 jY rfl fun us79 hul79 hur79=>?_
 refine RL.nil ?_
 refine RX.step ?_
 refine RL.q (Y.move rfl) rfl ?_
 refine RL.nil ?_
 refine RX.call rfl func74 rfl rfl (by exact bn.pick (x:=cj br um ud F s) PK (ih _ _ _ e.kids[1] _ env _ s (hE) KK (hab))) ?_ (by rintro ch Mp _ ⟨x,sp2,hpe,rfl,hsp,rfl⟩;exact az.drop ⟨x,sp2,yj hr hpe,rfl,hsp,rfl⟩ SB)
 rintro v81 M81 _ ⟨x81,s81,he81,h081,h1F81,hs81,⟨us81,rfl,hr81⟩,rfl⟩
 have hul81 : us81.length = 3:=hr81.1.trans (Val.aq _)
 refine RX.of ?_
 refine RL.aZ hr81 ?_
 refine RL.alloc _ bk rfl rfl fun b9=>?_
 refine RL.aF 3 rfl rfl RP MM EL Q7 aD ?_
 refine RL.nil ?_
 refine hK15 _ _ _ ?_
 refine CW.kp [0,2,5,7,8,9] rfl ?_
 refine CW.seq fun K16 hK16=>?_
 refine CW.seq fun K17 hK17=>?_
 refine CW.front (x:=cj br um ud F s81) PK ?_
 refine CW.front (x:=.own b9 26 us81) PK ?_
 refine CW.aZ hr81 ?_
 refine CW.region ?_
 refine RL.q (Y.field rfl di) rfl ?_
 refine RL.aP rfl rfl MM MM Q3 fB rfl fun a83 c83 hu83 hc83 hl83=>?_
 refine RL.q (Y.len rfl Tryd.underlying24) rfl ?_
 refine RL.q (Y.move rfl) rfl ?_
 refine RL.nil ?_
 refine hK17 _ _ _ ?_
 refine CW.kp [0,2,5,8,9,83,84,85] rfl ?_
 refine CW.block ?_
 -- LOOP 1: live [0,2,5,8,9,83,84,85] changed [85]
 refine CW.kp [85,0,2,5,8,9,83,84] rfl ?_
 refine CW.front (x:=cj br um ud F s81) PK ?_
 refine CW.front (x:=.own b9 26 us81) PK ?_
 refine CW.front (x:=.rds x81.enc us81) PK ?_
 refine CW.o5 (fun m Lc M1 Γc=>∃ (k : Nat) (acc : Val) (sk : Int) (usa : List Value),m = v.kids.length - k/\k<=v.kids.length/\Lc = [(85,av k)]/\Γc = [.rds acc.enc usa,.own b9 26 usa,cj br um ud F sk]/\0<=sk/\sk<=F/\RdL M1 acc.enc usa/\Sub M M1/\r = gh (fun x a s2=>lu (aK p F g) e.kids 2 ((e.id,1,a)::(e.id,0,x)::env) s2) (v.kids.drop k) acc sk) v.kids.length [(85,_)] [_,_,_] rfl rfl ⟨0,x81,s81,us81,rfl,Nat.zero_le _,rfl,rfl,h081,h1F81,hr81,hs81,yh hr he81⟩ ?_
 rintro m Lc M1 Γc hs0x ⟨k,acc,sk,usa,rfl,hk,rfl,rfl,hk0,hkF,hra,hs,hrk⟩
 have hula : usa.length = 3:=hra.1.trans (Val.aq _)
 refine CW.seq fun K18 hK18=>?_
 refine CW.region ?_
 refine RL.q (Y.lss rfl rfl) rfl ?_
 refine RL.nil ?_
 refine hK18 _ _ _ ?_
 refine CW.kp [0,2,5,8,9,83,84,85,86] rfl ?_
 refine CW.seq fun K19 hK19=>?_
 refine CW.ite rfl (fun h6=>?_) (fun h6=>?_)
 ·have hka : k < v.kids.length:=Q0
  rw [tQ hka] at hrk
  have hfb:=pU hrk hb
  obtain ⟨hk2,hkr⟩:=kG (k:=2) rfl rfl hfb
  refine CW.skip ?_
  refine hK19 _ _ _ ?_
  refine CW.seq fun K20 hK20=>?_
  refine CW.block ?_
  refine CW.seq fun K21 hK21=>?_
  refine CW.region ?_
  refine RL.q (Y.index _ rfl rfl rfl AO eB SM) rfl ?_
  refine RL.aO rfl rfl MM (Eq.trans (aV Val.aq _ _ _ (List.getElem?_eq_getElem AO)) (Val.ay _)) Q3 aG rfl fun us88 hul88 hur88=>?_
  refine RL.alloc _ bk rfl rfl fun b11=>?_
  refine RL.aF 3 rfl rfl RP MM EL Q7 aD ?_
  refine RL.nil ?_
  refine hK21 _ _ _ ?_
  refine CW.kp [0,2,5,8,9,11,83,84,85] rfl ?_
  refine CW.gK 15 mix (x:=cj br um ud F sk) PK ?_
  refine HQ.take 0 rfl KR KR KR rfl (Y.move rfl) rfl ?_
  refine HQ.take 1 rfl KR KR KR rfl (Y.field rfl cO) rfl ?_
  refine HQ.aP 2 rfl KR KR KR rfl rfl MM MM Q3 gw rfl fun a91 c91 hu91 hc91 hl91=>?_
  refine HQ.take 3 rfl KR KR KR rfl (Y.index 2 rfl rfl rfl AO jk SM) rfl ?_
  refine HQ.aO 4 rfl KR KR KR rfl rfl MM (Eq.trans (aV Ex.aq _ _ _ (List.getElem?_eq_getElem AO)) (Ex.ay _)) Q3 jY rfl fun us93 hul93 hur93=>?_
  refine HQ.take 5 rfl KR KR KR rfl (Y.move rfl) rfl ?_
  refine HQ.take 6 rfl KR KR KR rfl (Y.field rfl mW) rfl ?_
  refine HQ.take 7 rfl KR KR KR rfl (Y.gN [_,_,_] rfl MM MM Q3 ld) rfl ?_
  refine HQ.take 8 rfl KR KR KR rfl (Y.bO rfl MM MM EL aG) rfl ?_
  refine HQ.take 10 rfl KR KR KR rfl (Y.field rfl mW) rfl ?_
  refine HQ.take 11 rfl KR KR KR rfl (Y.gN [_,_,_] rfl MM MM Q3 ld) rfl ?_
  refine HQ.take 12 rfl KR KR KR rfl (Y.bO rfl MM MM EL aG) rfl ?_
  refine HQ.step 9 rfl KR ?_
  refine RL.call rfl func91 rfl rfl (by exact oJ _ _ _ env _ e.id 0 v.kids[k] us88 (hE.scope.mono hs) KK) ?_
  rintro v98 M98 _ ⟨hs98,rfl,hsc98⟩
  obtain ⟨p98,rfl,_⟩:=hsc98.ptr
  refine RL.nil ⟨bW (hs98) SB,?_⟩
  refine HQ.step 13 rfl KR ?_
  refine RL.call rfl func91 rfl rfl (by exact oJ _ _ _ ((e.id,0,v.kids[k])::env) _ e.id 1 acc usa hsc98 KK) ?_
  rintro v102 M102 _ ⟨hs102,rfl,hsc102⟩
  obtain ⟨p102,rfl,_⟩:=hsc102.ptr
  refine RL.nil ⟨bW (hs98.trans (hs102)) SB,?_⟩
  refine HQ.call 14 rfl KR rfl func74 rfl rfl (by exact bn.pick (x:=cj br um ud F sk) PK (ih _ _ _ e.kids[2] _ ((e.id,1,acc)::(e.id,0,v.kids[k])::env) _ sk (hE.mono (hs.trans (hs98.trans hs102)) hk0 hkF hsc102) KK (hkr ▸ hfb))) ?_ (by rintro ch Mp _ ⟨x,sp2,hpe,rfl,hsp,rfl⟩;exact az.drop ⟨x,sp2,yj hrk (hkr.trans hpe),rfl,(hs.trans (hs98.trans hs102)).trans hsp,rfl⟩ SB)
  rintro v103 M103 _ ⟨x103,xj,he103,h0103,h1F103,hs103,⟨us103,rfl,hr103⟩,rfl⟩
  have hul103 : us103.length = 3:=hr103.1.trans (Val.aq _)
  refine ⟨bW (hs98.trans (hs102.trans (hs103))) SB,?_⟩
  refine HQ.last 15 rfl ⟨KR,rfl⟩ KR ?_
  refine RL.aZ hr103 ?_
  refine RL.aF 3 rfl rfl RP MM EL Q7 aD ?_
  refine RL.nil ?_
  refine hK20 _ _ _ ?_
  refine CW.kp [0,2,5,8,9,83,84,85] rfl ?_
  refine CW.region ?_
  refine RL.q (Y.add rfl rfl OM) rfl ?_
  refine RL.q (Y.move rfl) rfl ?_
  refine RL.nil ?_
  refine ⟨v.kids.length - (k+1),[(85,_)],?_,(KP [85,0,2,5,8,9,83,84]),?_⟩
  · omega
  · refine az.front (x:=cj br um ud F xj) PK ?_
    refine az.front (x:=.own b9 26 us103) PK ?_
    refine az.aZ hr103 ?_
    exact az.drop ⟨[_,_,_],rfl,hs0x.trans (hs98.trans (hs102.trans hs103)),k+1,x103,xj,us103,rfl,Q0,rfl,rfl,h0103,h1F103,hr103,hs.trans (hs98.trans (hs102.trans hs103)),yh hrk (hkr.trans he103)⟩ SB
 refine CW.exit ?_
 refine hK16 _ _ _ ?_
 refine CW.seq fun K22 hK22=>?_
 refine CW.region ?_
 refine RL.q (Y.bO rfl MM MM EL aG) rfl ?_
 refine RL.aF 3 rfl rfl RP MM EL Q7 aD ?_
 refine RL.nil ?_
 refine hK22 _ _ _ ?_
 refine CW.kp [8] rfl ?_
 refine CW.ret ?_
 obtain rfl : k = v.kids.length:=Q0
 rw [wg rfl] at hrk
 exact aE.mk rfl MM (by first | rfl | exact hula) aG (az.drop ⟨acc,sk,hrk,hk0,hkF,hs,⟨_,rfl,hra⟩,rfl⟩ SB)
set_option maxRecDepth 4000 in
set_option maxHeartbeats 2000000 in
theorem EA {p : ProgT} {F : Int} {br : Nat} {um ud : Value} {g : Nat} (ih : fG Tryd.prog p F br um ud g) (w0 : World) (M : Mem) (Γ : List As) (e : Ex) (use : List Value) (env : Env) (sp : Value) (s : Int) (hE : EvHyp M p um ud F s env sp) (he : Kn w0 M (cj br um ud F s::Γ) (RdL M e.enc use)) (r : EO) (hr : r = bT p (aK p F g) e env s) (hb : r ≠ .bad) :
   bn Tryd.prog w0 M (cj br um ud F s::Γ) 102 #[cN br,.agg use.toArray,sp] (mG M Γ br um ud F r) (jw M Γ br um ud F r):=by
 refine bn.kn he fun he=>?_
 have hs0:=hE.s0
 have hsF:=hE.sF
 have hF1:=hE.F1
 rw [Ex.ay] at he
 refine gx (f:=102) Tryd.func102 rfl Tryd.ntmps102 rfl rfl fun w1 hw1=>?_
 refine CW.aZ he ?_
 refine CW.seq fun K1 hK1=>?_
 refine CW.region ?_
 refine RL.box _ rfl rfl rfl fun b4=>?_
 refine RL.alloc _ bk rfl rfl fun b6=>?_
 refine RL.nil ?_
 refine hK1 _ _ _ ?_
 refine CW.kp [0,2,4,6] rfl ?_
 refine CW.seq fun K2 hK2=>?_
 refine CW.seq fun K3 hK3=>?_
 refine CW.region ?_
 refine RL.q (Y.field rfl wz) rfl ?_
 refine RL.q (Y.bl rfl MM MM Q3 cJ) rfl ?_
 refine RL.nil ?_
 refine hK3 _ _ _ ?_
 refine CW.kp [0,2,4,6,10] rfl ?_
 refine CW.block ?_
 refine CW.seq fun K4 hK4=>?_
 refine CW.region ?_
 refine RL.q (Y.eql rfl rfl) rfl ?_
 refine RL.q (Y.assign rfl) rfl ?_
 refine RL.nil ?_
 refine hK4 _ _ _ ?_
 refine CW.kp [0,2,4,6,10,11] rfl ?_
 refine CW.ite rfl (fun h1=>?_) (fun h1=>?_)
 ·rw [bT,if_pos h1] at hr
  refine CW.seq fun K5 hK5=>?_
  refine CW.region ?_
  refine RL.q (Y.field rfl iD) rfl ?_
  refine RL.q (Y.bl rfl MM MM Q3 cJ) rfl ?_
  refine RL.q (Y.build [_,_,_] rfl bk cy Q3) rfl ?_
  refine RL.aI _ rfl rfl RP Q3 Q5 Q6 aD ?_
  refine RL.nil ?_
  refine hK5 _ _ _ ?_
  refine CW.kp [6] rfl ?_
  refine CW.ret ?_
  exact aE.mk rfl MM (by first | rfl | exact rfl) aG (az.drop ⟨.mk 0 e.n [],s,hr,hs0,hsF,Sub.refl _,⟨_,rfl,fm 0 e.n⟩,rfl⟩ SB)
 refine CW.seq fun K6 hK6=>?_
 refine CW.region ?_
 refine RL.q (Y.eql rfl rfl) rfl ?_
 refine RL.q (Y.assign rfl) rfl ?_
 refine RL.nil ?_
 refine hK6 _ _ _ ?_
 refine CW.kp [0,2,4,6,10,16] rfl ?_
 refine CW.ite rfl (fun h2=>?_) (fun h2=>?_)
 ·rw [bT,if_neg h1,if_pos h2] at hr
  refine CW.seq fun K7 hK7=>?_
  refine CW.region ?_
  refine RL.q (Y.field rfl iD) rfl ?_
  refine RL.q (Y.bl rfl MM MM Q3 cJ) rfl ?_
  refine RL.q (Y.neq rfl rfl) rfl ?_
  refine RL.eD rfl func31 rfl rfl (by exact cD _ _ _ _) ?_
  refine RL.aI _ rfl rfl RP Q3 Q5 Q6 aD ?_
  refine RL.nil ?_
  refine hK7 _ _ _ ?_
  refine CW.kp [6] rfl ?_
  refine CW.ret ?_
  exact aE.mk rfl MM (by first | rfl | exact rfl) aG (az.drop ⟨cQ (e.n ≠ 0),s,hr,hs0,hsF,Sub.refl _,⟨_,rfl,cB _ decide_eq_true_iff⟩,rfl⟩ SB)
 refine CW.seq fun K8 hK8=>?_
 refine CW.region ?_
 refine RL.q (Y.eql rfl rfl) rfl ?_
 refine RL.q (Y.assign rfl) rfl ?_
 refine RL.nil ?_
 refine hK8 _ _ _ ?_
 refine CW.kp [0,2,4,6,10,22] rfl ?_
 refine CW.ite rfl (fun h3=>?_) (fun h3=>?_)
 ·rw [bT,if_neg h1,if_neg h2,if_pos h3] at hr
  refine CW.seq fun K9 hK9=>?_
  refine CW.region ?_
  refine RL.q (Y.move rfl) rfl ?_
  refine RL.q (Y.field rfl wv) rfl ?_
  refine RL.q (Y.gN [_,_,_] rfl MM MM Q3 ld) rfl ?_
  refine RL.q (Y.field rfl iD) rfl ?_
  refine RL.q (Y.bl rfl MM MM Q3 cJ) rfl ?_
  refine RL.q (Y.build (e.ref.vals++[av e.n]) rfl Bw vL Q3) rfl ?_
  refine RL.call rfl func111 rfl rfl (by exact find_ok _ _ _ env _ e.ref e.n hE.scope) ?_
  rintro v30 M _ ⟨rfl,rfl,us30,rfl,hr30⟩
  refine RL.aZ hr30 ?_
  have hul30 : us30.length = 3:=hr30.1.trans (Val.aq _)
  refine RL.aF 3 rfl rfl RP MM EL Q7 aD ?_
  refine RL.nil ?_
  refine hK9 _ _ _ ?_
  refine CW.kp [6] rfl ?_
  refine CW.ret ?_
  exact aE.mk rfl MM (by first | rfl | exact hul30) aG (az.drop ⟨cE env e.ref e.n,s,hr,hs0,hsF,Sub.refl _,⟨_,rfl,hr30⟩,rfl⟩ SB)
 refine CW.seq fun K10 hK10=>?_
 refine CW.region ?_
 refine RL.q (Y.eql rfl rfl) rfl ?_
 refine RL.q (Y.assign rfl) rfl ?_
 refine RL.nil ?_
 refine hK10 _ _ _ ?_
 refine CW.kp [0,2,4,6,10,31] rfl ?_
 refine CW.ite rfl (fun h4=>?_) (fun h4=>?_)
 ·rw [bT,if_neg h1,if_neg h2,if_neg h3,if_pos h4] at hr
  have hab:=mD hr hb
  obtain ⟨ra,hra0⟩ : ∃ ra,ra = jD (fun x s=>aK p F g x env s) e.kids s:=⟨_,rfl⟩
  rw [<-hra0] at hr hab
  obtain ⟨hkl,hra⟩:=pW hra0 hab
  refine CW.seq fun K11 hK11=>?_
  refine CW.ki mix _ _ (fun _ hw=>hw) ?_
  refine HL.take 0 rfl KR KR KR rfl (Y.move rfl) rfl ?_
  refine HL.take 1 rfl KR KR KR rfl (Y.nilCheck rfl) rfl ?_
  refine HL.take 2 rfl KR KR KR rfl (Y.field rfl Be) rfl ?_
  refine HL.take 3 rfl KR KR KR rfl (Y.kF [um,ud] rfl MM (fun j v hj=>by rcases j with _ | _ | j;exact hj;exact hj;simp at hj) uP) rfl ?_
  refine HL.take 4 rfl KR KR KR rfl (Y.field rfl wv) rfl ?_
  refine HL.take 5 rfl KR KR KR rfl (Y.gN [_,_,_] rfl MM MM Q3 ld) rfl ?_
  refine HL.step2 6 10 rfl rfl KR ?_ ?_
  ·refine RL.call rfl func57 rfl rfl (by exact Bj _ _ _ p _ e.ref (Kn.of hE.prog)) ?_
   rintro v40 M _ ⟨rfl,rfl,us40,rfl,hr40⟩
   refine RL.aZ hr40 ?_
   have hul40 : us40.length = 31:=hr40.1.trans (DefT.aq _)
   refine RL.nil ⟨aT SB,?_⟩
   refine HL.take 7 rfl KR KR KR rfl (Y.move rfl) rfl ?_
   refine HL.take 8 rfl KR KR KR rfl (Y.extract rfl rfl) rfl ?_
   refine HL.take 9 rfl KR KR KR rfl (Y.extract rfl rfl) rfl ?_
   refine HL.step 10 rfl KR ?_
   refine RL.alloc _ nG rfl rfl fun b7=>?_
   refine RL.nil ⟨aT SB,?_⟩
   refine HL.step 11 rfl KR ?_
   refine RL.aF 31 rfl rfl RP MM EL Q7 kf ?_
   refine RL.nil ⟨aT SB,?_⟩
   refine HL.take 12 rfl KR KR KR rfl (Y.assign rfl) rfl ?_
   refine HL.done KR ?_
   refine hK11 _ _ _ ?_
   refine CW.kp [0,2,4,6,7] rfl ?_
   refine CW.seq fun K12 hK12=>?_
   refine CW.gK 8 mix (x:=cj br um ud F s) PK ?_
   refine HQ.take 0 rfl KR KR KR rfl (Y.move rfl) rfl ?_
   refine HQ.take 1 rfl KR KR KR rfl (Y.bO rfl MM MM EL mB) rfl ?_
   refine HQ.take 2 rfl KR KR KR rfl (Y.move rfl) rfl ?_
   refine HQ.take 3 rfl KR KR KR rfl (Y.field rfl cO) rfl ?_
   refine HQ.aP 4 rfl KR KR KR rfl rfl MM MM Q3 gw rfl fun a47 c47 hu47 hc47 hl47=>?_
   refine HQ.take 5 rfl KR KR KR rfl (Y.move rfl) rfl ?_
   refine HQ.call 6 rfl KR rfl func112 rfl rfl (by exact bn.pick (x:=cj br um ud F s) PK (qJ ih _ _ _ e.kids _ env sp s hE KK hkl ra hra hab)) ?_ (by rintro ch Mp _ ⟨x,sp2,hpe,rfl,hsp,rfl⟩;exact az.drop ⟨x,sp2,j0 hr hpe,rfl,hsp,rfl⟩ SB)
   rintro v49 M49 _ ⟨l49,s49,he49,h049,h1F49,hs49,hr49,rfl⟩
   obtain ⟨a49,c49,rfl,hc49,hlm49,hln49⟩:=hr49.slice
   have hr:=jZ hr he49
   have hsm49:=fF (hra.symm.trans he49)
   obtain ⟨env2,hae⟩ : ∃ env2,cH (aj p e.ref).slots l49 [] = some env2:=by
     cases h : cH (aj p e.ref).slots l49 [] with
     | none=>rw [h] at hr;exact absurd hr hb
     | some env2=>exact ⟨env2,rfl⟩
   rw [hae] at hr
   simp only at hr
   refine ⟨bW (hs49) SB,?_⟩
   refine HQ.call 7 rfl KR rfl func63 rfl rfl (by exact bn.pick (x:=cj br um ud F s49) PK (pO ih _ _ _ (aj p e.ref) us40 l49 _ env2 s49 (hE.mono hs49 h049 h1F49 rfl) KK (Kn.of hr49) hae (hr ▸ hb))) ?_ (by rintro ch Mp _ ⟨x,sp2,hpe,rfl,hsp,rfl⟩;exact az.drop ⟨x,sp2,hr.trans hpe,rfl,hs49.trans hsp,rfl⟩ SB)
   rintro v50 M50 _ ⟨x50,s50,he50,h050,h1F50,hs50,⟨us50,rfl,hr50⟩,rfl⟩
   have hul50 : us50.length = 3:=hr50.1.trans (Val.aq _)
   refine ⟨bW (hs49.trans (hs50)) SB,?_⟩
   refine HQ.last 8 rfl ⟨KR,rfl⟩ KR ?_
   refine RL.aZ hr50 ?_
   refine RL.aF 3 rfl rfl RP MM EL Q7 aD ?_
   refine RL.nil ?_
   refine hK12 _ _ _ ?_
   refine CW.kp [6] rfl ?_
   refine CW.ret ?_
   exact aE.mk rfl MM (by first | rfl | exact hul50) aG (az.drop ⟨x50,s50,hr.trans he50,h050,h1F50,hs49.trans hs50,⟨_,rfl,hr50⟩,rfl⟩ SB)
  refine RL.alloc _ nG rfl rfl fun b7=>?_
  refine RL.nil ⟨aT SB,?_⟩
  refine HL.step 6 rfl KR ?_
  refine RL.call rfl func57 rfl rfl (by exact Bj _ _ _ p _ e.ref (Kn.of hE.prog)) ?_
  rintro v40 M _ ⟨rfl,rfl,us40,rfl,hr40⟩
  refine RL.aZ hr40 ?_
  have hul40 : us40.length = 31:=hr40.1.trans (DefT.aq _)
  refine RL.nil ⟨aT SB,?_⟩
  refine HL.take 7 rfl KR KR KR rfl (Y.move rfl) rfl ?_
  refine HL.take 8 rfl KR KR KR rfl (Y.extract rfl rfl) rfl ?_
  refine HL.take 9 rfl KR KR KR rfl (Y.extract rfl rfl) rfl ?_
  refine HL.step 11 rfl KR ?_
  refine RL.aF 31 rfl rfl RP MM EL Q7 kf ?_
  refine RL.nil ⟨aT SB,?_⟩
  refine HL.take 12 rfl KR KR KR rfl (Y.assign rfl) rfl ?_
  refine HL.done KR ?_
  refine hK11 _ _ _ ?_
  refine CW.kp [0,2,4,6,7] rfl ?_
  refine CW.seq fun K13 hK13=>?_
  refine CW.gK 8 mix (x:=cj br um ud F s) PK ?_
  refine HQ.take 0 rfl KR KR KR rfl (Y.move rfl) rfl ?_
  refine HQ.take 1 rfl KR KR KR rfl (Y.bO rfl MM MM EL mB) rfl ?_
  refine HQ.take 2 rfl KR KR KR rfl (Y.move rfl) rfl ?_
  refine HQ.take 3 rfl KR KR KR rfl (Y.field rfl cO) rfl ?_
  refine HQ.aP 4 rfl KR KR KR rfl rfl MM MM Q3 gw rfl fun a47 c47 hu47 hc47 hl47=>?_
  refine HQ.take 5 rfl KR KR KR rfl (Y.move rfl) rfl ?_
  refine HQ.call 6 rfl KR rfl func112 rfl rfl (by exact bn.pick (x:=cj br um ud F s) PK (qJ ih _ _ _ e.kids _ env sp s hE KK hkl ra hra hab)) ?_ (by rintro ch Mp _ ⟨x,sp2,hpe,rfl,hsp,rfl⟩;exact az.drop ⟨x,sp2,j0 hr hpe,rfl,hsp,rfl⟩ SB)
  rintro v49 M49 _ ⟨l49,s49,he49,h049,h1F49,hs49,hr49,rfl⟩
  obtain ⟨a49,c49,rfl,hc49,hlm49,hln49⟩:=hr49.slice
  have hr:=jZ hr he49
  have hsm49:=fF (hra.symm.trans he49)
  obtain ⟨env2,hae⟩ : ∃ env2,cH (aj p e.ref).slots l49 [] = some env2:=by
    cases h : cH (aj p e.ref).slots l49 [] with
    | none=>rw [h] at hr;exact absurd hr hb
    | some env2=>exact ⟨env2,rfl⟩
  rw [hae] at hr
  simp only at hr
  refine ⟨bW (hs49) SB,?_⟩
  refine HQ.call 7 rfl KR rfl func63 rfl rfl (by exact bn.pick (x:=cj br um ud F s49) PK (pO ih _ _ _ (aj p e.ref) us40 l49 _ env2 s49 (hE.mono hs49 h049 h1F49 rfl) KK (Kn.of hr49) hae (hr ▸ hb))) ?_ (by rintro ch Mp _ ⟨x,sp2,hpe,rfl,hsp,rfl⟩;exact az.drop ⟨x,sp2,hr.trans hpe,rfl,hs49.trans hsp,rfl⟩ SB)
  rintro v50 M50 _ ⟨x50,s50,he50,h050,h1F50,hs50,⟨us50,rfl,hr50⟩,rfl⟩
  have hul50 : us50.length = 3:=hr50.1.trans (Val.aq _)
  refine ⟨bW (hs49.trans (hs50)) SB,?_⟩
  refine HQ.last 8 rfl ⟨KR,rfl⟩ KR ?_
  refine RL.aZ hr50 ?_
  refine RL.aF 3 rfl rfl RP MM EL Q7 aD ?_
  refine RL.nil ?_
  refine hK13 _ _ _ ?_
  refine CW.kp [6] rfl ?_
  refine CW.ret ?_
  exact aE.mk rfl MM (by first | rfl | exact hul50) aG (az.drop ⟨x50,s50,hr.trans he50,h050,h1F50,hs49.trans hs50,⟨_,rfl,hr50⟩,rfl⟩ SB)
 refine CW.seq fun K14 hK14=>?_
 refine CW.region ?_
 refine RL.q (Y.eql rfl rfl) rfl ?_
 refine RL.q (Y.assign rfl) rfl ?_
 refine RL.nil ?_
 refine hK14 _ _ _ ?_
 refine CW.kp [0,2,4,6,10,51] rfl ?_
 refine CW.ite rfl (fun h5=>?_) (fun h5=>?_)
 ·rw [bT,if_neg h1,if_neg h2,if_neg h3,if_neg h4,if_pos h5] at hr
  have hab:=mD hr hb
  obtain ⟨ra,hra0⟩ : ∃ ra,ra = jD (fun x s=>aK p F g x env s) e.kids s:=⟨_,rfl⟩
  rw [<-hra0] at hr hab
  obtain ⟨hkl,hra⟩:=pW hra0 hab
  refine CW.seq fun K15 hK15=>?_
  refine CW.gK 8 mix (x:=cj br um ud F s) PK ?_
  refine HQ.take 0 rfl KR KR KR rfl (Y.field rfl iD) rfl ?_
  refine HQ.take 1 rfl KR KR KR rfl (Y.bl rfl MM MM Q3 cJ) rfl ?_
  refine HQ.take 2 rfl KR KR KR rfl (Y.move rfl) rfl ?_
  refine HQ.take 3 rfl KR KR KR rfl (Y.field rfl cO) rfl ?_
  refine HQ.aP 4 rfl KR KR KR rfl rfl MM MM Q3 gw rfl fun a57 c57 hu57 hc57 hl57=>?_
  refine HQ.take 5 rfl KR KR KR rfl (Y.move rfl) rfl ?_
  refine HQ.call 6 rfl KR rfl func112 rfl rfl (by exact bn.pick (x:=cj br um ud F s) PK (qJ ih _ _ _ e.kids _ env sp s hE KK hkl ra hra hab)) ?_ (by rintro ch Mp _ ⟨x,sp2,hpe,rfl,hsp,rfl⟩;exact az.drop ⟨x,sp2,j0 hr hpe,rfl,hsp,rfl⟩ SB)
  rintro v59 M59 _ ⟨l59,s59,he59,h059,h1F59,hs59,hr59,rfl⟩
  obtain ⟨a59,c59,rfl,hc59,hlm59,hln59⟩:=hr59.slice
  have hr:=jZ hr he59
  have hsm59:=fF (hra.symm.trans he59)
  obtain ⟨x60,hx60,hr⟩:=y5 hr hb
  refine ⟨bW (hs59) SB,?_⟩
  refine HQ.step 7 rfl KR ?_
  refine RL.ga hr59 ?_
  refine RL.call rfl func12 rfl rfl (by exact B5 _ _ _ e.n l59 _ x60 (Kn.of hr59) (hE.Dx.mono hs59) (fun v hv=>Nat.le_trans (hsm59 v hv) OM) hx60) ?_
  rintro v60 M60 _ ⟨hs60,rfl,us60,rfl,hr60⟩
  refine RL.aZ hr60 ?_
  have hul60 : us60.length = 3:=hr60.1.trans (Val.aq _)
  refine RL.nil ⟨bW (hs59.trans (hs60)) SB,?_⟩
  refine HQ.last 8 rfl ⟨KR,rfl⟩ KR ?_
  refine RL.aF 3 rfl rfl RP MM EL Q7 aD ?_
  refine RL.nil ?_
  refine hK15 _ _ _ ?_
  refine CW.kp [6] rfl ?_
  refine CW.ret ?_
  exact aE.mk rfl MM (by first | rfl | exact hul60) aG (az.drop ⟨x60,s59,hr,h059,h1F59,hs59.trans hs60,⟨_,rfl,hr60⟩,rfl⟩ SB)
 refine CW.seq fun K16 hK16=>?_
 refine CW.region ?_
 refine RL.q (Y.eql rfl rfl) rfl ?_
 refine RL.q (Y.assign rfl) rfl ?_
 refine RL.nil ?_
 refine hK16 _ _ _ ?_
 refine CW.kp [0,2,4,6,10,61] rfl ?_
 refine CW.ite rfl (fun h6=>?_) (fun h6=>?_)
 ·rw [bT,if_neg h1,if_neg h2,if_neg h3,if_neg h4,if_neg h5,if_pos h6] at hr
  have hab:=mD hr hb
  obtain ⟨ra,hra0⟩ : ∃ ra,ra = jD (fun x s=>aK p F g x env s) e.kids s:=⟨_,rfl⟩
  rw [<-hra0] at hr hab
  obtain ⟨hkl,hra⟩:=pW hra0 hab
  refine CW.seq fun K17 hK17=>?_
  refine CW.eT ?_
  refine RX.step ?_
  refine RL.q (Y.move rfl) rfl ?_
  refine RL.nil ?_
  refine RX.step ?_
  refine RL.q (Y.field rfl cO) rfl ?_
  refine RL.nil ?_
  refine RX.step ?_
  refine RL.aP rfl rfl MM MM Q3 gw rfl fun a65 c65 hu65 hc65 hl65=>?_
  refine RL.nil ?_
  refine RX.step ?_
  refine RL.q (Y.move rfl) rfl ?_
  refine RL.nil ?_
  refine RX.call rfl func112 rfl rfl (by exact bn.pick (x:=cj br um ud F s) PK (qJ ih _ _ _ e.kids _ env sp s hE KK hkl ra hra hab)) ?_ (by rintro ch Mp _ ⟨x,sp2,hpe,rfl,hsp,rfl⟩;exact az.drop ⟨x,sp2,j0 hr hpe,rfl,hsp,rfl⟩ SB)
  rintro v67 M67 _ ⟨l67,s67,he67,h067,h1F67,hs67,hr67,rfl⟩
  obtain ⟨a67,c67,rfl,hc67,hlm67,hln67⟩:=hr67.slice
  have hr:=jZ hr he67
  have hsm67:=fF (hra.symm.trans he67)
  refine RX.of ?_
  refine RL.ga hr67 ?_
  refine RL.q (Y.build [_,_,_] rfl bk cy Q3) rfl ?_
  refine RL.aI _ rfl rfl RP Q3 Q5 Q6 aD ?_
  refine RL.nil ?_
  refine hK17 _ _ _ ?_
  refine CW.kp [6] rfl ?_
  refine CW.ret ?_
  exact aE.mk rfl MM Q3 aG (az.drop ⟨.mk 2 0 l67,s67,hr,h067,h1F67,hs67,⟨_,rfl,kA 2 0 l67 hr67⟩,rfl⟩ SB)
 refine CW.seq fun K18 hK18=>?_
 refine CW.region ?_
 refine RL.q (Y.eql rfl rfl) rfl ?_
 refine RL.q (Y.assign rfl) rfl ?_
 refine RL.nil ?_
 refine hK18 _ _ _ ?_
 refine CW.kp [0,2,4,6,10,69] rfl ?_
 refine CW.ite rfl (fun h7=>?_) (fun h7=>?_)
 ·rw [bT,if_neg h1,if_neg h2,if_neg h3,if_neg h4,if_neg h5,if_neg h6,if_pos h7] at hr
  have hab:=mD hr hb
  obtain ⟨ra,hra0⟩ : ∃ ra,ra = jD (fun x s=>aK p F g x env s) e.kids s:=⟨_,rfl⟩
  rw [<-hra0] at hr hab
  obtain ⟨hkl,hra⟩:=pW hra0 hab
  refine CW.seq fun K19 hK19=>?_
  refine CW.gK 8 mix (x:=cj br um ud F s) PK ?_
  refine HQ.take 0 rfl KR KR KR rfl (Y.field rfl iD) rfl ?_
  refine HQ.take 1 rfl KR KR KR rfl (Y.bl rfl MM MM Q3 cJ) rfl ?_
  refine HQ.take 2 rfl KR KR KR rfl (Y.move rfl) rfl ?_
  refine HQ.take 3 rfl KR KR KR rfl (Y.field rfl cO) rfl ?_
  refine HQ.aP 4 rfl KR KR KR rfl rfl MM MM Q3 gw rfl fun a75 c75 hu75 hc75 hl75=>?_
  refine HQ.take 5 rfl KR KR KR rfl (Y.move rfl) rfl ?_
  refine HQ.call 6 rfl KR rfl func112 rfl rfl (by exact bn.pick (x:=cj br um ud F s) PK (qJ ih _ _ _ e.kids _ env sp s hE KK hkl ra hra hab)) ?_ (by rintro ch Mp _ ⟨x,sp2,hpe,rfl,hsp,rfl⟩;exact az.drop ⟨x,sp2,j0 hr hpe,rfl,hsp,rfl⟩ SB)
  rintro v77 M77 _ ⟨l77,s77,he77,h077,h1F77,hs77,hr77,rfl⟩
  obtain ⟨a77,c77,rfl,hc77,hlm77,hln77⟩:=hr77.slice
  have hr:=jZ hr he77
  have hsm77:=fF (hra.symm.trans he77)
  refine ⟨bW (hs77) SB,?_⟩
  refine HQ.take 7 rfl KR KR KR rfl (Y.build [_,_,_] rfl bk cy Q3) rfl ?_
  refine HQ.last 8 rfl ⟨KR,rfl⟩ KR ?_
  refine RL.ga hr77 ?_
  refine RL.aI _ rfl rfl RP Q3 Q5 Q6 aD ?_
  refine RL.nil ?_
  refine hK19 _ _ _ ?_
  refine CW.kp [6] rfl ?_
  refine CW.ret ?_
  exact aE.mk rfl MM Q3 aG (az.drop ⟨.mk 3 e.n l77,s77,hr,h077,h1F77,hs77,⟨_,rfl,kA 3 e.n l77 hr77⟩,rfl⟩ SB)
 refine CW.seq fun K20 hK20=>?_
 refine CW.region ?_
 refine RL.q (Y.eql rfl rfl) rfl ?_
 refine RL.q (Y.assign rfl) rfl ?_
 refine RL.nil ?_
 refine hK20 _ _ _ ?_
 refine CW.kp [0,2,4,6,79] rfl ?_
 refine CW.ite rfl (fun h8=>?_) (fun h8=>?_)
 ·rw [bT,if_neg h1,if_neg h2,if_neg h3,if_neg h4,if_neg h5,if_neg h6,if_neg h7,if_pos h8] at hr
  have hab:=mD hr hb
  obtain ⟨ra,hra0⟩ : ∃ ra,ra = jD (fun x s=>aK p F g x env s) e.kids s:=⟨_,rfl⟩
  rw [<-hra0] at hr hab
  obtain ⟨hkl,hra⟩:=pW hra0 hab
  refine CW.seq fun K21 hK21=>?_
  refine CW.eT ?_
  refine RX.step ?_
  refine RL.q (Y.move rfl) rfl ?_
  refine RL.nil ?_
  refine RX.step ?_
  refine RL.q (Y.field rfl cO) rfl ?_
  refine RL.nil ?_
  refine RX.step ?_
  refine RL.aP rfl rfl MM MM Q3 gw rfl fun a83 c83 hu83 hc83 hl83=>?_
  refine RL.nil ?_
  refine RX.step ?_
  refine RL.q (Y.move rfl) rfl ?_
  refine RL.nil ?_
  refine RX.call rfl func112 rfl rfl (by exact bn.pick (x:=cj br um ud F s) PK (qJ ih _ _ _ e.kids _ env sp s hE KK hkl ra hra hab)) ?_ (by rintro ch Mp _ ⟨x,sp2,hpe,rfl,hsp,rfl⟩;exact az.drop ⟨x,sp2,j0 hr hpe,rfl,hsp,rfl⟩ SB)
  rintro v85 M85 _ ⟨l85,s85,he85,h085,h1F85,hs85,hr85,rfl⟩
  obtain ⟨a85,c85,rfl,hc85,hlm85,hln85⟩:=hr85.slice
  have hr:=jZ hr he85
  have hsm85:=fF (hra.symm.trans he85)
  refine RX.of ?_
  refine RL.ga hr85 ?_
  refine RL.q (Y.build [_,_,_] rfl bk cy Q3) rfl ?_
  refine RL.aI _ rfl rfl RP Q3 Q5 Q6 aD ?_
  refine RL.nil ?_
  refine hK21 _ _ _ ?_
  refine CW.kp [6] rfl ?_
  refine CW.ret ?_
  exact aE.mk rfl MM Q3 aG (az.drop ⟨.mk 4 0 l85,s85,hr,h085,h1F85,hs85,⟨_,rfl,kA 4 0 l85 hr85⟩,rfl⟩ SB)
 rw [bT,if_neg h1,if_neg h2,if_neg h3,if_neg h4,if_neg h5,if_neg h6,if_neg h7,if_neg h8] at hr
 have hab:=pU hr hb
 obtain ⟨ra,hra0⟩ : ∃ ra,ra = lu (aK p F g) e.kids 0 env s:=⟨_,rfl⟩
 rw [<-hra0] at hr hab
 obtain ⟨hk1,hk1e⟩:=kG (k:=0) rfl hra0 hab
 rw [hk1e] at hr hab
 refine CW.skip ?_
 refine hK2 _ _ _ ?_
 refine CW.seq fun K22 hK22=>?_
 refine CW.gK 11 mix (x:=cj br um ud F s) PK ?_
 refine HQ.take 0 rfl KR KR KR rfl (Y.move rfl) rfl ?_
 refine HQ.take 1 rfl KR KR KR rfl (Y.bO rfl MM MM EL jY) rfl ?_
 refine HQ.take 2 rfl KR KR KR rfl (Y.move rfl) rfl ?_
 refine HQ.take 3 rfl KR KR KR rfl (Y.move rfl) rfl ?_
 refine HQ.take 4 rfl KR KR KR rfl (Y.field rfl cO) rfl ?_
 refine HQ.aP 5 rfl KR KR KR rfl rfl MM MM Q3 gw rfl fun a92 c92 hu92 hc92 hl92=>?_
 refine HQ.take 6 rfl KR KR KR rfl (Y.index 0 rfl rfl rfl AO jk SM) rfl ?_
 refine HQ.aO 7 rfl KR KR KR rfl rfl MM (Eq.trans (aV Ex.aq _ _ _ (List.getElem?_eq_getElem AO)) (Ex.ay _)) Q3 jY rfl fun us94 hul94 hur94=>?_
 refine HQ.take 8 rfl KR KR KR rfl (Y.move rfl) rfl ?_
 refine HQ.call 9 rfl KR rfl func74 rfl rfl (by exact bn.pick (x:=cj br um ud F s) PK (ih _ _ _ e.kids[0] _ env sp s hE KK hab)) ?_ (by rintro ch Mp _ ⟨x,sp2,hpe,rfl,hsp,rfl⟩;exact az.drop ⟨x,sp2,yj hr hpe,rfl,hsp,rfl⟩ SB)
 rintro v96 M96 _ ⟨x96,s96,he96,h096,h1F96,hs96,⟨us96,rfl,hr96⟩,rfl⟩
 have hul96 : us96.length = 3:=hr96.1.trans (Val.aq _)
 have hr:=yh hr he96
 refine ⟨bW (hs96) SB,?_⟩
 refine HQ.call 10 rfl KR rfl func113 rfl rfl (by exact bn.pick (x:=cj br um ud F s96) PK (D8 ih _ _ _ e _ env sp x96 us96 s96 (hE.next hs96 h096 h1F96) KK (Kn.of hr96) r hr hb)) ?_ (by rintro ch Mp _ ⟨x,sp2,hpe,rfl,hsp,rfl⟩;exact az.drop ⟨x,sp2,hpe,rfl,hs96.trans hsp,rfl⟩ SB)
 rintro v97 M97 _ ⟨x97,s97,he97,h097,h1F97,hs97,⟨us97,rfl,hr97⟩,rfl⟩
 have hul97 : us97.length = 3:=hr97.1.trans (Val.aq _)
 refine ⟨bW (hs96.trans (hs97)) SB,?_⟩
 refine HQ.last 11 rfl ⟨KR,rfl⟩ KR ?_
 refine RL.aZ hr97 ?_
 refine RL.aF 3 rfl rfl RP MM EL Q7 aD ?_
 refine RL.nil ?_
 refine hK22 _ _ _ ?_
 refine CW.kp [6] rfl ?_
 refine CW.ret ?_
 exact aE.mk rfl MM (by first | rfl | exact hul97) aG (az.drop ⟨x97,s97,he97,h097,h1F97,hs96.trans hs97,⟨_,rfl,hr97⟩,rfl⟩ SB)
theorem uo {p : ProgT} {F : Int} {br : Nat} {um ud : Value} : ∀ g,fG Tryd.prog p F br um ud g
 | 0=>wB 0 (fun g' h=>absurd h OM)
 | g+1=>wB (g+1) (fun g' h=>by
  have : g' = g:=Q0
  subst this
  exact fun w0 M Γ e use env sp s hE he hb=>EA (uo g') w0 M Γ e use env sp s hE he _ rfl hb)
theorem yS (p6 p7 p8 : Addr) (w : World) :
  CallsD Tryd.prog 90 #[.pointer (some p6),.pointer (some p7),.pointer (some p8)] .returning w fun e u' w'=>e = .returned (.tuple #[])/\u' = .returning/\w' = w:=by
 refine callsD_of_wpS Tryd.func90 rfl fun c₀ cs hu=>?_
 apply wpS_seq
 apply wpS_region
 simp [wpOpsS,go_sem,recoverD,hu,Tryd.ntmps90,Exit.thenS]
 apply wpS_seq
 apply wpS_region
 simp [wpOpsS,go_sem,Tryd.ntmps90,Exit.thenS]
 refine wpS_cond (t:=false) (by simp [Act.eval,Array.replicate]) ?_
 simp only [Bool.false_eq_true,if_false]
 refine wpS_of_wp (wp_skip ?_)
 cases c₀
 simp_all [bodyPostS,results,Tryd.results90]

theorem asrt60 (W : World) (v : Value) : (Instr.typeAssert (.iface 60 v) 20 60 true).run Tryd.prog W = .ok (.tuple #[v,.bool true]) W:=by kernel_rfl
theorem Y.G7 {w0 : World} {L : Lm} {M : Mem} {Γ : List As} {d : Option Nat} {ty : TypeId} {pos : String} {af : Array Edge} {g : Option (Nat×Bool)} {x : Operand} {v : Value} (hx : evL L x = some (.iface 60 v)) :
  Yq Tryd.prog w0 L M Γ ⟨d,.typeAssert x 20 60 true,ty,pos,af,g⟩ (.tuple #[v,.bool true]):=fun n a w ha _=>by
 simp [execOp,ha.ev hx]
 rw [asrt60]
 rfl
theorem Y.CZ {w0 : World} {L : Lm} {M : Mem} {Γ : List As} {d : Option Nat} {ty : TypeId} {pos : String} {af : Array Edge} {g : Option (Nat×Bool)} {x : Operand} {v : Value} (hx : evL L x = some (.iface 60 v)) :
  Yq Tryd.prog w0 L M Γ ⟨d,.binOp .neq 20 x (.const .nilIface) 20,ty,pos,af,g⟩ (.bool true):=fun n a w ha _=>by
 simp only [execOp,ha.ev hx]
 simp [go_sem,Act.eval]
theorem yR (w0 : World) (M : Mem) (Γ : List As) (x : Int) (b6 b7 b8 : Nat) (us : List Value) (y z : Value) (hus : us.length = 3) (w : World) (hw : St w0 M (.own b8 60 [y]::.own b7 3 [z]::.own b6 26 us::Γ) w) :
  CallsD Tryd.prog 90 #[cN b6,cN b7,cN b8] (.panicking (GB x)) w fun e u' w'=>e = .returned (.tuple #[])/\u' = .panicking [{ v:=.iface 60 (av x),recovered:=true }]/\St w0 M (.own b8 60 [av x]::.own b7 3 [av 0]::.own b6 26 [av 0,av 0,.slice none 0 0]::Γ) w':=by
 refine callsD_of_wpS Tryd.func90 rfl fun c₀ cs hu=>?_
 apply wpS_seq
 apply wpS_region
 simp [wpOpsS,go_sem,recoverD,hu,Tryd.ntmps90,Exit.thenS,GB]
 refine wpS_of_wp (wp_mono (P:=Tryd.prog) (Q:=Real 19 w0 (fun e L M' Γ'=>e = .normal/\M' = M/\∀ w,St w0 M Γ' w->St w0 M (.own b8 60 [av x]::.own b7 3 [av 0]::.own b6 26 [av 0,av 0,.slice none 0 0]::Γ) w)) ?_ ?_)
 ·have hsat : Sat 19 [(3,.iface 60 (av x)),(0,cN b6),(1,cN b7),(2,cN b8)] ({ tmps:=#[cN b6,cN b7,cN b8]++((Array.replicate 16 undef).setIfInBounds 3 (Value.iface 60 (av x))).setIfInBounds 0 (Value.iface 60 (av x)),defers:=[] } : Act):=by
   refine ⟨Q2,rfl,fun t v h=>?_⟩
   rcases t with _ | _ | _ | _ | t
   ·simp [cY] at h ⊢;simp_all
   ·simp [cY] at h ⊢;simp_all
   ·simp [cY] at h ⊢;simp_all
   ·simp [cY] at h ⊢;simp_all
   ·exfalso;simp [cY,Nat.beq] at h
  refine (?_ : CW Tryd.prog 19 w0 _ _ [(3,.iface 60 (av x)),(0,cN b6),(1,cN b7),(2,cN b8)] M _) _ w hsat hw
  refine CW.seq fun K1 hK1=>?_
  refine CW.region ?_
  refine RL.q (Y.move rfl) rfl ?_
  refine RL.q (Y.CZ rfl) rfl ?_
  refine RL.nil ?_
  refine hK1 _ _ _ ?_
  refine CW.yes rfl ?_
  refine CW.seq fun K2 hK2=>?_
  refine CW.region ?_
  refine RL.q (Y.move rfl) rfl ?_
  refine RL.q (Y.G7 rfl) rfl ?_
  refine RL.q (Y.move rfl) rfl ?_
  refine RL.q (Y.extract rfl rfl) rfl ?_
  refine RL.q (Y.extract rfl rfl) rfl ?_
  refine RL.q (Y.assign rfl) rfl ?_
  refine RL.q (Y.assign rfl) rfl ?_
  refine RL.nil ?_
  refine hK2 _ _ _ ?_
  refine CW.seq fun K3 hK3=>?_
  refine CW.seq fun K4 hK4=>?_
  refine CW.region ?_
  refine RL.q (Y.move rfl) rfl ?_
  refine RL.q (Y.not rfl) rfl ?_
  refine RL.nil ?_
  refine hK4 _ _ _ ?_
  refine CW.no rfl ?_
  refine CW.skip ?_
  refine hK3 _ _ _ ?_
  refine CW.region ?_
  refine RL.q (Y.build [_,_,_] rfl bk cy Q3) rfl ?_
  refine RL.q (Y.move rfl) rfl ?_
  refine RL.aI [av 0,av 0,.slice none 0 0] rfl rfl RP (by rw [List.drop_eq_nil_of_le (by simp [hus])];rfl) (by simp [hus]) Q6 aD ?_
  refine RL.store _ rfl rfl RP Q3 Q2 Q3 qT ?_
  refine RL.store _ rfl rfl RP Q3 Q2 Q3 EX ?_
  refine RL.nil ?_
  refine ⟨rfl,rfl,fun w hw=>?_⟩
  exact hw
 ·rintro e a w' ⟨L,M',Γ',⟨rfl,rfl,hG⟩,hs,hw'⟩
  cases c₀
  simp_all [bodyPostS,results,Tryd.results90]
  exact hs.defers
def dDef (b6 b7 b8 : Nat) : Deferred:={ target:=.fn (.func 90) #[cN b6,cN b7,cN b8],args:=#[] }
def doR : EO->Val×Int×Int
 | .ok x s=>(x,s,0)
 | .err k=>(v0,0,k)
 | .bad=>(v0,0,0)
def doX (w0 : World) (M : Mem) (Γ : List As) (r : EO) : DPst:=fun D e L M' Γ'=>match e with
 | .ret=>∃ b6 b7 b8 x s us,D = [dDef b6 b7 b8]/\cY L 6 = some (cN b6)/\cY L 7 = some (cN b7)/\cY L 8 = some (cN b8)/\r = .ok x s/\Sub M M'/\us.length = 3/\RdL M' x.enc us/\∀ w,St w0 M' Γ' w->St w0 M' (.own b8 60 [av 0]::.own b7 3 [av s]::.own b6 26 us::Γ) w
 | .panic ch=>∃ b6 b7 b8 k us y z,D = [dDef b6 b7 b8]/\cY L 6 = some (cN b6)/\cY L 7 = some (cN b7)/\cY L 8 = some (cN b8)/\r = .err k/\ch = GB k/\Sub M M'/\us.length = 3/\∀ w,St w0 M' Γ' w->St w0 M' (.own b8 60 [y]::.own b7 3 [z]::.own b6 26 us::Γ) w
 | _=>False
theorem sS {w0 w : World} {M : Mem} {Γ : List As} {b6 b7 b8 : Nat} {us : List Value} {s e : Int} {tmps : Array Value} (hw : St w0 M (.own b8 60 [av e]::.own b7 3 [av s]::.own b6 26 us::Γ) w) (hl : us.length = 3)
  (t6 : tmps[6]? = some (cN b6)) (t7 : tmps[7]? = some (cN b7)) (t8 : tmps[8]? = some (cN b8)) :
  (results Tryd.f61 tmps).run Tryd.prog w = .ok (.tuple #[.agg us.toArray,av s,av e]) w:=by
 have l6:=gI (P:=Tryd.prog) (t:=26) hw (b:=b6) (e:=26) (cs:=us) MM (by rw [hl];exact aG)
 have c7 : w.cell? (adr (some ⟨b7,0,none⟩) 0) = some (av s):=hw.ct (b:=b7) (e:=3) (cs:=[av s]) MM rfl
 have c8 : w.cell? (adr (some ⟨b8,0,none⟩) 0) = some (av e):=hw.ct (b:=b8) (e:=60) (cs:=[av e]) MM rfl
 have l7 : (loadVar 3 (adr (some ⟨b7,0,none⟩) 0)).run Tryd.prog w = .ok (av s) w:=by simp [loadVar,sQ cJ,c7]
 have l8 : (loadVar 60 (adr (some ⟨b8,0,none⟩) 0)).run Tryd.prog w = .ok (av e) w:=by simp [loadVar,sQ flat60,c8]
 simp [results,Tryd.results61,t6,t7,t8,asAddr,l6,l7,l8]

set_option maxRecDepth 4000 in
set_option maxHeartbeats 1000000 in
theorem do_ok (w0 : World) (M : Mem) (Γ : List As) (um ud : Value) (fuel : Int) (ff : FuncId) (cap : Array Value) (hff : bF Tryd.prog ff = true) (r : EO)
  (hc : ∀ br Γ',(∀ w,St w0 M Γ' w->St w0 M Γ w)->bn Tryd.prog w0 M (cj br um ud (max fuel 0) 0::Γ') ff (#[]++#[cN br]++cap) (mG M Γ' br um ud (max fuel 0) r) (jw M Γ' br um ud (max fuel 0) r))
  (hsz : ∀ x s,r = .ok x s->x.size<=100000) :
  aC Tryd.prog w0 M Γ 61 #[.agg #[um,ud],av fuel,.func (.func ff) #[] cap] (pZ M Γ fun M' v=>∃ us,v = .tuple #[.agg us.toArray,av (doR r).2.1,av (doR r).2.2]/\RdL M' (doR r).1.enc us):=by
 refine enterD (f:=61) (args:=[.agg #[um,ud],av fuel,.func (.func ff) #[] cap]) (X:=doX w0 M Γ r) Tryd.func61 rfl Tryd.ntmps61 rfl ?_ ?_ ?_ ?_
 rotate_left
 ·rintro D L M1 Γ1 tmps w hget hw (h | h)
  ·exact h.elim
  ·obtain ⟨b6,b7,b8,x,s,us,rfl,g6,g7,g8,rfl,hsub,hl,hr,hG⟩:=h
   refine leaves_cons (f:=90) (args:=#[cN b6,cN b7,cN b8]) Q2 (by simp [invoke]) ((yS _ _ _ w).mono ?_)
   rintro e u1 w1 ⟨rfl,rfl,rfl⟩
   exact ⟨_,sS (hG _ hw) hl (hget _ _ g6) (hget _ _ g7) (hget _ _ g8),_,_,_,rfl,⟨hsub,rfl,us,rfl,hr⟩,(hG _ hw).sub SB⟩
 ·rintro D L M1 Γ1 tmps w ch hget hw h
  obtain ⟨b6,b7,b8,k,us,y,z,rfl,g6,g7,g8,rfl,rfl,hsub,hl,hG⟩:=h
  refine leaves_cons (f:=90) (args:=#[cN b6,cN b7,cN b8]) Q2 (by simp [invoke]) ((yR w0 M1 Γ k b6 b7 b8 us y z hl w (hG _ hw)).mono ?_)
  rintro e u1 w1 ⟨rfl,rfl,hw1⟩
  exact ⟨_,sS hw1 rfl (hget _ _ g6) (hget _ _ g7) (hget _ _ g8),_,_,_,rfl,⟨hsub,rfl,_,rfl,fm 0 0⟩,hw1.sub SB⟩
 ·intro D e L M1 Γ1 h
  cases e <;> first | exact h.elim | exact .inl rfl | exact .inr (.inl rfl) | exact .inr (.inr ⟨_,rfl⟩)
 refine CWD.seq fun K1 hK1=>?_
 refine CWD.region (RD.of (RX.of ?_))
 refine RL.box [um,ud] rfl rfl rfl fun b3=>?_
 refine RL.alloc _ bk rfl rfl fun b6=>?_
 refine RL.alloc _ zero3 rfl rfl fun b7=>?_
 refine RL.alloc _ zero60 rfl rfl fun b8=>?_
 refine RL.nil ?_
 refine hK1 _ _ _ _ ?_
 refine CWD.kp [1,2,3,6,7,8] rfl ?_
 refine CWD.seq fun K2 hK2=>?_
 refine CWD.region (RD.of (RX.of ?_))
 refine RL.q (Y.gA rfl MM Q3 uP) rfl ?_
 refine RL.q (Y.move rfl) rfl ?_
 refine RL.q (Y.max2 rfl rfl) rfl ?_
 refine RL.q (Y.build [um,ud,av (max fuel 0),av 0] rfl zero131 Dk Q3) rfl ?_
 refine RL.box [um,ud,av (max fuel 0),av 0] rfl rfl rfl fun b14=>?_
 refine RL.q (Y.assign rfl) rfl ?_
 refine RL.nil ?_
 refine hK2 _ _ _ _ ?_
 refine CWD.kp [2,6,7,8,9] rfl ?_
 refine CWD.seq fun K3 hK3=>?_
 refine CWD.region ?_
 refine RD.step ?_
 refine RL.q (Y.makeFunc rfl rfl) rfl ?_
 refine RL.nil ?_
 refine RD.defer0 (d:=dDef b6 b7 b8) rfl rfl (fun n a w ha hw=>?_) ?_
 ·simp [execOp,ha.ev (x:=.tmp 15) (v:=.func (.func 90) #[] #[cN b6,cN b7,cN b8]) rfl,dDef,resolve,Deferred.ofValue]
 refine RD.done ?_
 refine hK3 _ _ _ _ ?_
 refine CWD.kp [2,6,7,8,9] rfl ?_
 refine CWD.seq fun K4 hK4=>?_
 refine CWD.region (RD.of ?_)
 refine RX.step ?_
 refine RL.q (Y.move rfl) rfl ?_
 refine RL.nil ?_
 refine RX.step ?_
 refine RL.q (Y.move rfl) rfl ?_
 refine RL.nil ?_
 refine RX.callf rfl hff rfl rfl rfl (by exact hc _ _ fun _ hw=>hw.sub SB) ?_ (by rintro ch Mp _ ⟨k,sp2,rfl,rfl,hsp,rfl⟩;exact ⟨b6,b7,b8,k,_,_,_,rfl,rfl,rfl,rfl,rfl,rfl,hsp,rfl,fun _ hw=>hw.sub SB⟩)
 rintro v18 M18 _ ⟨x18,s18,rfl,h018,h1F18,hs18,⟨us18,rfl,hr18⟩,rfl⟩
 have hz18:=hsz _ _ rfl
 have hkz:=iu x18
 obtain ⟨uk,rfl,hkids⟩:=Val.open hr18
 obtain ⟨ak,ck,rfl,hck,hlk,_⟩:=hkids.slice
 refine RX.of ?_
 refine RL.ga hkids ?_
 refine RL.aI [av x18.kind,av x18.n,.slice ak x18.kids.length ck] rfl rfl RP Q3 Q2 (fun _ _=>hr18.one) aD ?_
 refine RL.nil ?_
 refine hK4 _ _ _ _ ?_
 refine CWD.kp [6,7,8,9] rfl ?_
 refine CWD.seq fun K5 hK5=>?_
 refine CWD.region (RD.of (RX.of ?_))
 refine RL.q (Y.field rfl di) rfl ?_
 refine RL.q (Y.jo rfl MM Q3 fB) rfl ?_
 refine RL.call rfl func33 rfl rfl (by exact qC x18.size _ _ _ x18.kids _ (fun v hv=>Val.dF hv) OM OM (Kn.rd MM)) ?_
 rintro v21 M21 _ ⟨hs21,rfl,hr21⟩
 obtain ⟨a21,c21,rfl,hc21,hl21,hln21⟩:=hr21.slice
 refine RL.ga hr21 ?_
 refine RL.q (Y.field rfl di) rfl ?_
 refine RL.store _ rfl rfl RP Q3 Q2 Q3 EY ?_
 refine RL.nil ?_
 refine hK5 _ _ _ _ ?_
 refine CWD.kp [6,7,8,9] rfl ?_
 refine CWD.seq fun K6 hK6=>?_
 have hnd:=kA x18.kind x18.n x18.kids hr21
 rw [v_eta] at hnd
 refine CWD.ki mix _ (cj b14 um ud (max fuel 0) s18::Γ) (fun _ hw=>hw.sub SB) ?_
 refine HL.take 1 rfl KR KR KR rfl (Y.move rfl) rfl ?_
 refine HL.take 2 rfl KR KR KR rfl (Y.nilCheck rfl) rfl ?_
 refine HL.take 3 rfl KR KR KR rfl (Y.field rfl kP) rfl ?_
 refine HL.take 4 rfl KR KR KR rfl (Y.jo rfl MM Q3 cJ) rfl ?_
 refine HL.step 0 rfl KR ?_
 refine RL.q (Y.gA rfl MM Q3 aG) rfl ?_
 refine RL.nil ⟨aT SB,?_⟩
 refine HL.step 5 rfl KR ?_
 refine RL.aI [av x18.kind,av x18.n,.slice a21 x18.kids.length c21] rfl rfl RP Q3 Q5 Q6 aD ?_
 refine RL.nil ⟨aT SB,?_⟩
 refine HL.step 6 rfl KR ?_
 refine RL.store _ rfl rfl RP Q3 Q2 Q3 qT ?_
 refine RL.nil ⟨aT SB,?_⟩
 refine HL.step 7 rfl KR ?_
 refine RL.store _ rfl rfl RP Q3 Q2 Q3 EX ?_
 refine RL.nil ⟨aT SB,?_⟩
 refine HL.done KR ?_
 refine hK6 _ _ _ _ ?_
 refine CWD.kp [6,7,8] rfl ?_
 refine CWD.ret ?_
 exact ⟨b6,b7,b8,x18,s18,_,rfl,rfl,rfl,rfl,rfl,hs18.trans hs21,rfl,hnd,fun _ hw=>hw.sub SB⟩
theorem Gz {p : ProgT} {F : Int} {be : Nat} {um ud : Value} (g : Nat) (w0 : World) (M : Mem) (Γ Γ1 : List As) (br : Nat) (e : Ex) (use : List Value) (hG : ∀ w,St w0 M Γ1 w->St w0 M (.own be 50 use::Γ) w) (hul : use.length = 15) (hE : EvHyp M p um ud F 0 [] (.pointer none)) (he : RdL M e.enc use) (hb : aK p F g e [] 0 ≠ .bad) :
   bn Tryd.prog w0 M (cj br um ud F 0::Γ1) 73 #[cN br,cN be] (mG M Γ1 br um ud F (aK p F g e [] 0)) (jw M Γ1 br um ud F (aK p F g e [] 0)):=by
 refine gx (f:=73) Tryd.func73 rfl Tryd.ntmps73 rfl rfl fun w1 hw1=>?_
 refine CW.seq fun K1 hK1=>?_
 refine CW.region ?_
 refine RL.alloc _ bk rfl rfl fun b3=>?_
 refine RL.nil ?_
 refine hK1 _ _ _ ?_
 refine CW.kp [0,1,3] rfl ?_
 refine CW.seq fun K2 hK2=>?_
 refine CW.eT ?_
 refine RX.step ?_
 refine RL.q (Y.move rfl) rfl ?_
 refine RL.nil ?_
 refine RX.step ?_
 refine RL.q (Y.aO (vs:=use) rfl (by rw [hul];exact jY) (fun w hw j v hj=>by rw [cr];simpa using (hG w (hw.sub SB)).ct MM hj)) rfl ?_
 refine RL.nil ?_
 refine RX.call rfl func74 rfl rfl (by exact bn.pick (x:=cj br um ud F 0) PK (uo g _ _ _ e _ [] _ 0 hE (Kn.of he) hb)) ?_ (by rintro ch Mp _ ⟨x,sp2,hpe,rfl,hsp,rfl⟩;exact az.drop ⟨x,sp2,hpe,rfl,hsp,rfl⟩ SB)
 rintro v6 M6 _ ⟨x6,s6,he6,h06,h1F6,hs6,⟨us6,rfl,hr6⟩,rfl⟩
 have hul6 : us6.length = 3:=hr6.1.trans (Val.aq _)
 refine RX.of ?_
 refine RL.aZ hr6 ?_
 refine RL.aF 3 rfl rfl RP MM EL Q7 aD ?_
 refine RL.nil ?_
 refine hK2 _ _ _ ?_
 refine CW.kp [3] rfl ?_
 refine CW.ret ?_
 exact aE.mk rfl MM (by first | rfl | exact hul6) aG (az.drop ⟨x6,s6,he6,h06,h1F6,hs6,⟨_,rfl,hr6⟩,rfl⟩ SB)

theorem expr_ok (w0 : World) (M : Mem) (Γ : List As) (p : ProgT) (um ud : Value) (e : Ex) (use : List Value) (fuel : Int) (g : Nat) (hN : hO M) (hF : max fuel 0<=1099511627776) (hp : Kn w0 M Γ (RdL M p.enc [um,ud])) (he : Kn w0 M Γ (RdL M e.enc use)) (hb : aK p (max fuel 0) g e [] 0 ≠ .bad) :
   aC Tryd.prog w0 M Γ 47 #[.agg #[um,ud],.agg use.toArray,av fuel] (pZ M Γ fun M' v=>∃ us,v = .tuple #[.agg us.toArray,av (doR (aK p (max fuel 0) g e [] 0)).2.1,av (doR (aK p (max fuel 0) g e [] 0)).2.2]/\RdL M' (doR (aK p (max fuel 0) g e [] 0)).1.enc us):=by
 refine aC.kn hp fun hp=>?_
 refine aC.kn he fun he=>?_
 have hul : use.length = 15:=he.1.trans (Ex.aq _)
 refine uq (f:=47) Tryd.func47 rfl Tryd.ntmps47 rfl rfl fun w1 hw1=>?_
 refine CW.seq fun K1 hK1=>?_
 refine CW.region ?_
 refine RL.box [um,ud] rfl rfl rfl fun b3=>?_
 refine RL.box use rfl rfl rfl fun b4=>?_
 refine RL.alloc _ bk rfl rfl fun b6=>?_
 refine RL.q (Y.assign rfl) rfl ?_
 refine RL.q (Y.assign rfl) rfl ?_
 refine RL.nil ?_
 refine hK1 _ _ _ ?_
 refine CW.kp [2,3,4,6] rfl ?_
 refine CW.seq fun K2 hK2=>?_
 refine CW.region ?_
 refine RL.q (Y.gA rfl MM Q3 uP) rfl ?_
 refine RL.q (Y.move rfl) rfl ?_
 refine RL.q (Y.makeFunc rfl rfl) rfl ?_
 refine RL.call rfl func61 rfl rfl (by exact do_ok _ _ _ um ud fuel 73 #[cN b4] func73 (aK p (max fuel 0) g e [] 0) (fun br Γ1 hG=>Gz g _ _ _ Γ1 br e use (fun w hw=>(hG w hw).sub SB) hul ⟨hN,hp,Q0,Q0,hF,rfl⟩ he hb) (fun x s h=>Nat.le_trans (jr h).1 OM)) ?_
 rintro v12 M12 _ ⟨hs12,rfl,us12,rfl,hr12⟩
 refine RL.aZ hr12 ?_
 have hul12 : us12.length = 3:=hr12.1.trans (Val.aq _)
 refine RL.q (Y.extract rfl rfl) rfl ?_
 refine RL.q (Y.extract rfl rfl) rfl ?_
 refine RL.q (Y.extract rfl rfl) rfl ?_
 refine RL.aF 3 rfl rfl RP MM EL Q7 aD ?_
 refine RL.q (Y.assign rfl) rfl ?_
 refine RL.q (Y.assign rfl) rfl ?_
 refine RL.nil ?_
 refine hK2 _ _ _ ?_
 refine CW.kp [6,7,8] rfl ?_
 refine CW.ret ?_
 exact ⟨_,_,rfl,rfl,aE.mk rfl MM (by first | rfl | exact hul12) aG (az.drop ⟨hs12,rfl,_,rfl,hr12⟩ SB)⟩

def ry (p : ProgT) (id : IdT) : Prop:=dc p id/\(aj p id).kind ≠ 0/\(aj p id).kind ≠ 1
instance (p : ProgT) (id : IdT) : Decidable (ry p id):=by unfold ry;exact inferInstance

theorem body_ok (w0 : World) (M : Mem) (Γ : List As) (p : ProgT) (usp : List Value) (id : IdT)  (hp : Kn w0 M Γ (RdL M p.enc usp))  :
   aC Tryd.prog w0 M Γ 53 #[.agg usp.toArray,.agg id.vals.toArray] (Has M Γ fun v=>∃ us,v = .tuple #[.agg us.toArray,.bool (decide (ry p id))]/\RdL M (aj p id).enc us):=by
 refine aC.kn hp fun hp=>?_
 rw [ProgT.ay] at hp
 refine ur (f:=53) Tryd.func53 rfl Tryd.ntmps53 rfl rfl fun w1 hw1=>?_
 refine CW.aZ hp ?_
 refine CW.seq fun K1 hK1=>?_
 refine CW.region ?_
 refine RL.box _ rfl rfl rfl fun b2=>?_
 refine RL.box _ rfl rfl rfl fun b3=>?_
 refine RL.alloc _ nG rfl rfl fun b4=>?_
 refine RL.q (Y.assign rfl) rfl ?_
 refine RL.nil ?_
 refine hK1 _ _ _ ?_
 refine CW.kp [2,3,4] rfl ?_
 refine CW.seq fun K2 hK2=>?_
 refine CW.region ?_
 refine RL.q (Y.bO rfl MM MM EL uP) rfl ?_
 refine RL.q (Y.gA rfl MM Q3 ld) rfl ?_
 refine RL.call rfl func57 rfl rfl (by exact Bj _ _ _ _ _ _ KK) ?_
 rintro v11 M _ ⟨rfl,rfl,us11,rfl,hr11⟩
 refine RL.aZ hr11 ?_
 refine RL.q (Y.move rfl) rfl ?_
 refine RL.q (Y.extract rfl rfl) rfl ?_
 refine RL.q (Y.extract rfl rfl) rfl ?_
 refine RL.alloc _ nG rfl rfl fun b6=>?_
 refine RL.aF 31 rfl rfl RP MM EL Q7 kf ?_
 refine RL.q (Y.assign rfl) rfl ?_
 refine RL.nil ?_
 refine hK2 _ _ _ ?_
 refine CW.kp [4,6,7] rfl ?_
 refine CW.seq fun K3 hK3=>?_
 refine CW.yT mix (x:=.own b4 _ _) PK ?_
 refine HL.take 0 rfl KR KR KR rfl (Y.bO rfl MM MM EL mB) rfl ?_
 refine HL.takeS 1 rfl KR KR KR rfl (Y.move rfl) rfl (fun g15=>?_) (fun g15=>?_)
 ·refine HL.take 2 rfl KR KR KR rfl (Y.move rfl) rfl ?_
  refine HL.take 3 rfl KR KR KR WG (Y.field rfl wu) rfl ?_
  refine HL.take 4 rfl KR KR KR WG (Y.bl rfl MM MM Q3 cJ) rfl ?_
  refine HL.takeS 5 rfl KR KR KR WG (Y.neq rfl rfl) rfl (fun g19=>?_) (fun g19=>?_)
  ·refine HL.take 6 rfl KR KR KR rfl (Y.fK rfl rfl) rfl ?_
   refine HL.take 7 rfl KR KR KR rfl (Y.move rfl) rfl ?_
   refine HL.take 8 rfl KR KR KR WG (Y.field rfl wu) rfl ?_
   refine HL.take 9 rfl KR KR KR WG (Y.bl rfl MM MM Q3 cJ) rfl ?_
   refine HL.take 10 rfl KR KR KR WG (Y.neq rfl rfl) rfl ?_
   refine HL.take 11 rfl KR KR KR rfl (Y.fK rfl rfl) rfl ?_
   refine HL.step 12 rfl KR ?_
   refine RL.aF 31 rfl rfl RP MM EL Q7 kf ?_
   refine RL.nil ⟨aT SB,?_⟩
   refine HL.take 13 rfl KR KR KR rfl (Y.assign rfl) rfl ?_
   refine HL.done KR ?_
   refine hK3 _ _ _ ?_
   refine CW.kp [4,5] rfl ?_
   refine CW.ret ?_
   refine ⟨_,rfl,?_⟩
   exact aE.mk rfl MM (by first | rfl | exact hr11.1.trans (DefT.aq _)) mB (az.drop ⟨rfl,rfl,_,by simp [ry, *],hr11⟩ SB)
  refine HL.take 6 rfl KR KR KR rfl (Y.fK rfl rfl) rfl ?_
  refine HL.take 7 rfl KR KR KR rfl (Y.move rfl) rfl ?_
  refine HL.j7 8 rfl KR KR KR WG rfl ?_
  refine HL.j7 9 rfl KR KR KR WG rfl ?_
  refine HL.j7 10 rfl KR KR KR WG rfl ?_
  refine HL.take 11 rfl KR KR KR rfl (Y.fL rfl rfl) rfl ?_
  refine HL.step 12 rfl KR ?_
  refine RL.aF 31 rfl rfl RP MM EL Q7 kf ?_
  refine RL.nil ⟨aT SB,?_⟩
  refine HL.take 13 rfl KR KR KR rfl (Y.assign rfl) rfl ?_
  refine HL.done KR ?_
  refine hK3 _ _ _ ?_
  refine CW.kp [4,5] rfl ?_
  refine CW.ret ?_
  refine ⟨_,rfl,?_⟩
  exact aE.mk rfl MM (by first | rfl | exact hr11.1.trans (DefT.aq _)) mB (az.drop ⟨rfl,rfl,_,by simp [ry, *],hr11⟩ SB)
 refine HL.take 2 rfl KR KR KR rfl (Y.move rfl) rfl ?_
 refine HL.j7 3 rfl KR KR KR WG rfl ?_
 refine HL.j7 4 rfl KR KR KR WG rfl ?_
 refine HL.j7 5 rfl KR KR KR WG rfl ?_
 refine HL.take 6 rfl KR KR KR rfl (Y.fL rfl rfl) rfl ?_
 refine HL.take 7 rfl KR KR KR rfl (Y.move rfl) rfl ?_
 refine HL.j7 8 rfl KR KR KR WG rfl ?_
 refine HL.j7 9 rfl KR KR KR WG rfl ?_
 refine HL.j7 10 rfl KR KR KR WG rfl ?_
 refine HL.take 11 rfl KR KR KR rfl (Y.fL rfl rfl) rfl ?_
 refine HL.step 12 rfl KR ?_
 refine RL.aF 31 rfl rfl RP MM EL Q7 kf ?_
 refine RL.nil ⟨aT SB,?_⟩
 refine HL.take 13 rfl KR KR KR rfl (Y.assign rfl) rfl ?_
 refine HL.done KR ?_
 refine hK3 _ _ _ ?_
 refine CW.kp [4,5] rfl ?_
 refine CW.ret ?_
 refine ⟨_,rfl,?_⟩
 exact aE.mk rfl MM (by first | rfl | exact hr11.1.trans (DefT.aq _)) mB (az.drop ⟨rfl,rfl,_,by simp [ry, *],hr11⟩ SB)

theorem GV {p : ProgT} {F : Int} {bd ba : Nat} {um ud : Value} (g : Nat) (w0 : World) (M : Mem) (Γ Γ1 : List As) (br : Nat) (d : DefT) (usd : List Value) (args : List Val) (ua : Value) (env2 : Env) (hG : ∀ w,St w0 M Γ1 w->St w0 M (.own bd 52 usd::.own ba 24 [ua]::Γ) w) (hul : usd.length = 31) (hE : EvHyp M p um ud F 0 [] (.pointer none)) (hd : RdL M d.enc usd) (ha : Rd M (.sl args.length 3 (args.flatMap Val.enc)) ua) (he : cH d.slots args [] = some env2) (hb : aK p F g d.body env2 0 ≠ .bad) :
   bn Tryd.prog w0 M (cj br um ud F 0::Γ1) 62 #[cN br,cN bd,cN ba] (mG M Γ1 br um ud F (aK p F g d.body env2 0)) (jw M Γ1 br um ud F (aK p F g d.body env2 0)):=by
 refine gx (f:=62) Tryd.func62 rfl Tryd.ntmps62 rfl rfl fun w1 hw1=>?_
 refine CW.seq fun K1 hK1=>?_
 refine CW.region ?_
 refine RL.alloc _ bk rfl rfl fun b4=>?_
 refine RL.nil ?_
 refine hK1 _ _ _ ?_
 refine CW.kp [0,1,2,4] rfl ?_
 refine CW.seq fun K2 hK2=>?_
 refine CW.eT ?_
 refine RX.step ?_
 refine RL.q (Y.move rfl) rfl ?_
 refine RL.nil ?_
 refine RX.step ?_
 refine RL.q (Y.aO (vs:=usd) rfl (by rw [hul];exact mB) (fun w hw j v hj=>by rw [cr];simpa using (hG w (hw.sub SB)).ct MM hj)) rfl ?_
 refine RL.nil ?_
 refine RX.step ?_
 refine RL.q (Y.load (p:=adr (some ⟨ba,0,none⟩) 0) rfl fB (fun w hw=>(hG w (hw.sub SB)).ct (b:=ba) (e:=24) (cs:=[ua]) MM rfl)) rfl ?_
 refine RL.nil ?_
 refine RX.call rfl func63 rfl rfl (by exact bn.pick (x:=cj br um ud F 0) PK (pO (uo g) _ _ _ d usd args ua env2 0 hE (Kn.of hd) (Kn.of ha) he hb)) ?_ (by rintro ch Mp _ ⟨x,sp2,hpe,rfl,hsp,rfl⟩;exact az.drop ⟨x,sp2,hpe,rfl,hsp,rfl⟩ SB)
 rintro v8 M8 _ ⟨x8,s8,he8,h08,h1F8,hs8,⟨us8,rfl,hr8⟩,rfl⟩
 have hul8 : us8.length = 3:=hr8.1.trans (Val.aq _)
 refine RX.of ?_
 refine RL.aZ hr8 ?_
 refine RL.aF 3 rfl rfl RP MM EL Q7 aD ?_
 refine RL.nil ?_
 refine hK2 _ _ _ ?_
 refine CW.kp [4] rfl ?_
 refine CW.ret ?_
 exact aE.mk rfl MM (by first | rfl | exact hul8) aG (az.drop ⟨x8,s8,he8,h08,h1F8,hs8,⟨_,rfl,hr8⟩,rfl⟩ SB)

theorem doR_eq : ∀ r : EO,doR r = iT r
 | .ok _ _=>rfl
 | .err _=>rfl
 | .bad=>rfl
theorem qG (p : ProgT) (id : IdT) : ry p id↔pS p id:=by unfold ry pS bare;constructor <;> (rintro ⟨h1,h2⟩;exact ⟨h1,Q0⟩)

theorem GG (w0 : World) (M : Mem) (Γ : List As) (p : ProgT) (um ud : Value) (id : IdT) (args : List Val) (ua : Value) (fuel : Int) (g : Nat) (hN : hO M) (hF : max fuel 0<=1099511627776) (hp : Kn w0 M Γ (RdL M p.enc [um,ud])) (ha : Kn w0 M Γ (Rd M (.sl args.length 3 (args.flatMap Val.enc)) ua)) (hz : ∀ v∈args,v.size<=1000000000000000) (hb : bX p g id args fuel ≠ .bad) :
   aC Tryd.prog w0 M Γ 26 #[.agg #[um,ud],.agg id.vals.toArray,ua,av fuel] (pZ M Γ fun M' v=>∃ us,v = .tuple #[.agg us.toArray,av (iT (bX p g id args fuel)).2.1,av (iT (bX p g id args fuel)).2.2]/\RdL M' (iT (bX p g id args fuel)).1.enc us):=by
 refine aC.kn hp fun hp=>?_
 refine aC.kn ha fun ha=>?_
 obtain ⟨a1,c1,rfl,hc1,hlim1,hlen1⟩:=ha.slice
 refine uq (f:=26) Tryd.func26 rfl Tryd.ntmps26 rfl rfl fun w1 hw1=>?_
 refine CW.aZ hp ?_
 refine CW.ga ha ?_
 refine CW.seq fun K1 hK1=>?_
 refine CW.region ?_
 refine RL.box [um,ud] rfl rfl rfl fun b4=>?_
 refine RL.box id.vals rfl rfl rfl fun b5=>?_
 refine RL.box [.slice a1 args.length c1] rfl rfl rfl fun b6=>?_
 refine RL.alloc _ bk rfl rfl fun b8=>?_
 refine RL.q (Y.assign rfl) rfl ?_
 refine RL.q (Y.assign rfl) rfl ?_
 refine RL.nil ?_
 refine hK1 _ _ _ ?_
 refine CW.kp [3,4,5,6,8] rfl ?_
 refine CW.seq fun K2 hK2=>?_
 refine CW.region ?_
 refine RL.q (Y.bO rfl MM MM EL uP) rfl ?_
 refine RL.q (Y.gA rfl MM Q3 ld) rfl ?_
 refine RL.call rfl func53 rfl rfl (by exact body_ok _ _ _ _ _ _ KK) ?_
 rintro v18 M _ ⟨rfl,rfl,us18,rfl,hr18⟩
 refine RL.aZ hr18 ?_
 refine RL.q (Y.move rfl) rfl ?_
 refine RL.q (Y.extract rfl rfl) rfl ?_
 refine RL.q (Y.extract rfl rfl) rfl ?_
 refine RL.alloc _ nG rfl rfl fun b11=>?_
 refine RL.aF 31 rfl rfl RP MM EL Q7 kf ?_
 refine RL.q (Y.assign rfl) rfl ?_
 refine RL.nil ?_
 refine hK2 _ _ _ ?_
 refine CW.kp [3,4,6,8,11,12] rfl ?_
 refine CW.seq fun K3 hK3=>?_
 refine CW.seq fun K4 hK4=>?_
 refine CW.region ?_
 refine RL.q (Y.move rfl) rfl ?_
 refine RL.q (Y.notD rfl) rfl ?_
 refine RL.nil ?_
 refine hK4 _ _ _ ?_
 refine CW.kp [3,4,6,8,11,22] rfl ?_
 refine CW.ite rfl (fun h1=>?_) (fun h1=>?_)
 ·refine CW.seq fun K5 hK5=>?_
  refine CW.region ?_
  refine RL.q (Y.build [av 0,av 0,.slice none 0 0] rfl bk cy Q3) rfl ?_
  refine RL.aI _ rfl rfl RP Q3 Q5 Q6 aD ?_
  refine RL.q (Y.assign rfl) rfl ?_
  refine RL.q (Y.assign rfl) rfl ?_
  refine RL.nil ?_
  refine hK5 _ _ _ ?_
  refine CW.kp [8,9,10] rfl ?_
  refine CW.ret ?_
  refine ⟨_,_,rfl,rfl,aE.mk rfl MM Q3 aG (az.drop ⟨Sub.refl _,rfl,[av 0,av 0,.slice none 0 0],?_,?_⟩ SB)⟩
  · unfold bX;rw [if_neg (fun c=>h1 ((qG p id).2 c))];rfl
  · unfold bX;rw [if_neg (fun c=>h1 ((qG p id).2 c))];exact fm 0 0
 have hbd : pS p id:=(qG p id).1 (Decidable.not_not.1 h1)
 refine CW.skip ?_
 refine hK3 _ _ _ ?_
 refine CW.seq fun K6 hK6=>?_
 refine CW.seq fun K7 hK7=>?_
 refine CW.region ?_
 refine RL.q (Y.jo rfl MM Q3 fB) rfl ?_
 refine RL.q (Y.len rfl Tryd.underlying24) rfl ?_
 refine RL.q (Y.field rfl qz) rfl ?_
 refine RL.aP rfl rfl MM MM Q3 A4 rfl fun a27 c27 hu27 hc27 hl27=>?_
 refine RL.q (Y.len rfl Tryd.underlying46) rfl ?_
 refine RL.q (Y.neq rfl rfl) rfl ?_
 refine RL.nil ?_
 refine hK7 _ _ _ ?_
 refine CW.kp [3,4,6,8,11,29] rfl ?_
 refine CW.ite rfl (fun h2=>?_) (fun h2=>?_)
 ·refine CW.seq fun K8 hK8=>?_
  refine CW.region ?_
  refine RL.q (Y.build [av 0,av 0,.slice none 0 0] rfl bk cy Q3) rfl ?_
  refine RL.aI _ rfl rfl RP Q3 Q5 Q6 aD ?_
  refine RL.q (Y.assign rfl) rfl ?_
  refine RL.q (Y.assign rfl) rfl ?_
  refine RL.nil ?_
  refine hK8 _ _ _ ?_
  refine CW.kp [8,9,10] rfl ?_
  refine CW.ret ?_
  refine ⟨_,_,rfl,rfl,aE.mk rfl MM Q3 aG (az.drop ⟨Sub.refl _,rfl,[av 0,av 0,.slice none 0 0],?_,?_⟩ SB)⟩
  · unfold bX;rw [if_pos hbd,if_neg (fun c=>h2 (by have:=c.1;omega))];rfl
  · unfold bX;rw [if_pos hbd,if_neg (fun c=>h2 (by have:=c.1;omega))];exact fm 0 0
 have hlen : args.length = (aj p id).slots.length:=Q0
 refine CW.skip ?_
 refine hK6 _ _ _ ?_
 refine CW.seq fun K9 hK9=>?_
 refine CW.seq fun K10 hK10=>?_
 refine CW.region ?_
 refine RL.q (Y.field rfl qz) rfl ?_
 refine RL.aP rfl rfl MM MM Q3 A4 rfl fun a32 c32 hu32 hc32 hl32=>?_
 refine RL.q (Y.len rfl Tryd.underlying46) rfl ?_
 refine RL.q (Y.move rfl) rfl ?_
 refine RL.nil ?_
 refine hK10 _ _ _ ?_
 refine CW.kp [3,4,6,8,11,32,33,34] rfl ?_
 refine CW.block ?_
 -- LOOP 1: live [3,4,6,8,11,32,33,34] changed [34]
 refine CW.kp [34,3,4,6,8,11,32,33] rfl ?_
 refine CW.o5 (fun m Lc M1 Γc=>∃ k : Nat,m = (aj p id).slots.length - k/\k<=(aj p id).slots.length/\Lc = [(34,av k)]/\Γc = []/\M1 = M/\∀ j (hj : j < args.length) (hj2 : j < (aj p id).slots.length),j < k->gk p ((aj p id).slots[j]).ty args[j]) ((aj p id).slots.length) [(34,_)] _ rfl rfl ⟨0,rfl,Nat.zero_le _,rfl,rfl,rfl,fun _ _ _ h=>absurd h (Nat.not_lt_zero _)⟩ ?_
 rintro m Lc M Γc hs ⟨k,rfl,hk,rfl,rfl,rfl,hF0⟩
 refine CW.seq fun K11 hK11=>?_
 refine CW.region ?_
 refine RL.q (Y.lss rfl rfl) rfl ?_
 refine RL.nil ?_
 refine hK11 _ _ _ ?_
 refine CW.kp [3,4,6,8,11,32,33,34,35] rfl ?_
 refine CW.seq fun K12 hK12=>?_
 refine CW.ite rfl (fun h3=>?_) (fun h3=>?_)
 ·have hka : k < (aj p id).slots.length:=Q0
  have hkb : k < args.length:=Q0
  refine CW.skip ?_
  refine hK12 _ _ _ ?_
  refine CW.seq fun K13 hK13=>?_
  refine CW.block ?_
  refine CW.seq fun K14 hK14=>?_
  refine CW.region ?_
  refine RL.q (Y.move rfl) rfl ?_
  refine RL.q (Y.index _ rfl rfl rfl AO BN SM) rfl ?_
  refine RL.aO rfl rfl MM (Eq.trans (aV SlotT.aq _ _ _ (List.getElem?_eq_getElem AO)) (SlotT.ay _)) Q3 agg68 rfl fun us38 hul38 hur38=>?_
  refine RL.alloc _ Ev rfl rfl fun b14=>?_
  refine RL.q (Y.assign rfl) rfl ?_
  refine RL.aF 11 rfl rfl RP MM EL Q7 EW ?_
  refine RL.nil ?_
  refine hK14 _ _ _ ?_
  refine CW.kp [3,4,6,8,11,13,14,32,33,34] rfl ?_
  refine CW.seq fun K15 hK15=>?_
  refine CW.BY mix KR ?_
  refine QL.q (Y.bO rfl MM MM EL uP) rfl ?_
  refine QL.q (Y.field rfl DU) rfl ?_
  refine QL.tI rfl rfl MM MM Q3 Q3 agg38 rfl fun us41 hul41 hur41=>?_
  refine QL.q (Y.jo rfl MM Q3 fB) rfl ?_
  refine QL.q (Y.move rfl) rfl ?_
  refine QL.q (Y.index _ rfl rfl rfl AO eB SM) rfl ?_
  refine QL.aO rfl rfl MM (Eq.trans (aV Val.aq _ _ _ (List.getElem?_eq_getElem AO)) (Val.ay _)) Q3 aG rfl fun us45 hul45 hur45=>?_
  refine QL.eD rfl func28 rfl rfl (by exact fun _ hC=>D7 hN p _ ((aj p id).slots[k]).ty _ args[k] _ (hz _ (List.getElem_mem hkb)) (Kn.via hC KK) (Kn.via hC KK) (Kn.via hC KK)) ?_
  refine QL.q (Y.notD rfl) rfl ?_
  refine QL.nil ?_
  refine hK15 _ _ _ ?_
  refine CW.kp [3,4,6,8,11,32,33,34,47] rfl ?_
  refine CW.ite rfl (fun h4=>?_) (fun h4=>?_)
  ·refine CW.seq fun K16 hK16=>?_
   refine CW.region ?_
   refine RL.q (Y.build [av 0,av 0,.slice none 0 0] rfl bk cy Q3) rfl ?_
   refine RL.aI _ rfl rfl RP Q3 Q5 Q6 aD ?_
   refine RL.q (Y.assign rfl) rfl ?_
   refine RL.q (Y.assign rfl) rfl ?_
   refine RL.nil ?_
   refine hK16 _ _ _ ?_
   refine CW.kp [8,9,10] rfl ?_
   refine CW.ret ?_
   refine ⟨_,_,rfl,rfl,aE.mk rfl MM Q3 aG (az.drop ⟨Sub.refl _,rfl,[av 0,av 0,.slice none 0 0],?_,?_⟩ SB)⟩
   · unfold bX;rw [if_pos hbd,if_neg (fun c=>h4 (kW c k hkb))];rfl
   · unfold bX;rw [if_pos hbd,if_neg (fun c=>h4 (kW c k hkb))];exact fm 0 0
  refine CW.skip ?_
  refine hK13 _ _ _ ?_
  refine CW.region ?_
  refine RL.q (Y.add rfl rfl OM) rfl ?_
  refine RL.q (Y.move rfl) rfl ?_
  refine RL.nil ?_
  refine ⟨(aj p id).slots.length - (k+1),[(34,_)],?_,(KP [34,3,4,6,8,11,32,33]),?_⟩
  · omega
  · exact az.drop ⟨[],rfl,hs,k+1,rfl,Q0,rfl,rfl,rfl,fun j hj hj2 hlt=>by by_cases e : j = k;subst e;exact Decidable.not_not.1 h4;exact hF0 j hj hj2 OM⟩ SB
 refine CW.exit ?_
 refine hK9 _ _ _ ?_
 refine CW.seq fun K17 hK17=>?_
 have hfit : gE p (aj p id) args:=oF hlen fun j hj=>hF0 j hj OM OM
 obtain ⟨env2,henv,_⟩:=uH hfit
 have hce : bX p g id args fuel = aK p (max fuel 0) g (aj p id).body env2 0:=by unfold bX;rw [if_pos hbd,if_pos hfit];unfold zN;rw [henv]
 rw [hce] at hb
 replace hce : iT (bX p g id args fuel) = doR (aK p (max fuel 0) g (aj p id).body env2 0):=by rw [hce,doR_eq]
 refine CW.region ?_
 refine RL.q (Y.bO rfl MM MM EL uP) rfl ?_
 refine RL.q (Y.move rfl) rfl ?_
 refine RL.q (Y.makeFunc rfl rfl) rfl ?_
 refine RL.call rfl func61 rfl rfl (by exact do_ok _ _ _ um ud fuel 62 #[cN b11,cN b6] func62 (aK p (max fuel 0) g (aj p id).body env2 0) (fun br Γ1 hG=>GV g _ _ _ Γ1 br (aj p id) us18 args _ env2 (fun w hw=>(hG w hw).sub SB) (hr18.1.trans (DefT.aq _)) ⟨hN,hp,Q0,Q0,hF,rfl⟩ hr18 ha henv hb) (fun x s h=>Nat.le_trans (jr h).1 OM)) ?_
 rintro v53 M53 _ ⟨hs53,rfl,us53,rfl,hr53⟩
 refine RL.aZ hr53 ?_
 have hul53 : us53.length = 3:=hr53.1.trans (Val.aq _)
 refine RL.q (Y.extract rfl rfl) rfl ?_
 refine RL.q (Y.extract rfl rfl) rfl ?_
 refine RL.q (Y.extract rfl rfl) rfl ?_
 refine RL.aF 3 rfl rfl RP MM EL Q7 aD ?_
 refine RL.q (Y.assign rfl) rfl ?_
 refine RL.q (Y.assign rfl) rfl ?_
 refine RL.nil ?_
 refine hK17 _ _ _ ?_
 refine CW.kp [8,9,10] rfl ?_
 refine CW.ret ?_
 exact ⟨_,_,rfl,rfl,aE.mk rfl MM (by first | rfl | exact hul53) aG (az.drop ⟨hs53,rfl,_,by rw [hce],by rw [hce];exact hr53⟩ SB)⟩
open Xe Pm
theorem of_all {p : ProgT} (hp : CallsP p) : ∀ (j : Nat) (hj : j < p.defs.length),¬ bare p.defs[j]->OfIs p p.defs[j]:=by
 intro j
 induction j using Nat.strongRecOn with
 | _ j ih =>
  intro hj hb
  obtain ⟨h1,h2⟩:=hp.calls j hj hb
  have hl:=hp.len
  refine of_isE (DA hp hj hb) (zQ Q0 (fun r hr=>?_) _ h1 h2)
  obtain ⟨k,hk,hlt,rfl,hkk⟩:=hr
  have hm:=List.getElem_mem hk
  rw [hp.nm.the hm]
  exact ⟨ih k Q0 hk (fun h=>by unfold bare at h;omega),rfl⟩
theorem FQ {p : ProgT} (hp : CallsP p) (i : IdT) : IS s20 [pgL p,i.enc] [[vI (ee p i)]]:=by
 refine w20.is ?_
 unfold g20
 have hl:=hp.len
 refine ai (body_is p i Q0) ?_
 simp only [pmr,pms]
 refine ⟨fun hb=>?_,fun hb=>by rw [tF hb]⟩
 obtain ⟨d,hd,hid⟩:=hb.1
 subst hid
 have hb2:=hb.2
 rw [hp.nm.the hd] at hb2 ⊢
 obtain ⟨j,hj,rfl⟩:=List.mem_iff_getElem.1 hd
 obtain ⟨kn',_,hcall⟩:=of_all hp j hj hb2 [] (fun x hx=>by cases hx)
 refine ai hcall ?_
 simp only [pmr,knD]
theorem Ay {M : Mem} (z : Int) : Rd M (vI z) (av z):=by unfold Rd;exact ⟨rfl,rfl⟩
theorem un_i {M : Mem} {z : Int} {d : Value} (h : Rd M (vI z) d) : d = av z:=by unfold Rd at h;exact h.1
theorem xW {p : ProgT} {g : Nat} {e : Ex} {fuel : Int} {r : EO} (hF : max fuel 0<=1099511627776) (he : aK p (max fuel 0) g e [] 0 = r) (hb : r ≠ .bad) : IS s47 [p.enc,e.enc,[vI fuel]] [(doR r).1.enc,[vI (doR r).2.1],[vI (doR r).2.2]]:=by
 subst he
 refine qn rfl ?_
 show Old _ _ _ _
 intro w0 M Γ vs hlen hpl hN
 obtain ⟨a,b,d,rfl⟩ : ∃ a b d,vs = [a,b,d]:=by
  match vs,hlen with
  | [a,b,d],_=>exact ⟨a,b,d,rfl⟩
 obtain h0 | ⟨_,h0,h1⟩:=hpl 0
 ·cases h0
 cases h0
 obtain ⟨_,us,rfl,hp⟩ : p.enc.length = 2/\∃ us : List Value,a = .agg us.toArray/\RdL M p.enc us:=h1
 obtain h0 | ⟨_,h0,h1⟩:=hpl 1
 ·cases h0
 cases h0
 obtain ⟨_,ue,rfl,hr⟩ : e.enc.length = 15/\∃ us : List Value,b = .agg us.toArray/\RdL M e.enc us:=h1
 obtain h0 | ⟨_,h0,h2⟩:=hpl 2
 ·cases h0
 cases h0
 obtain rfl:=un_i (show Rd M (vI fuel) d from h2)
 obtain ⟨um,ud,rfl⟩ : ∃ um ud,us = [um,ud]:=by
  have:=hp.1.trans (ProgT.aq _)
  match us,this with
  | [a,b],_=>exact ⟨a,b,rfl⟩
 intro w hw
 refine (expr_ok w0 M Γ p um ud e ue fuel g hN hF (Kn.of hp) (Kn.of hr) hb w hw).mono ?_
 rintro x w' ⟨v,M',Γ',rfl,⟨h3,rfl,us,rfl,hr⟩,hst⟩
 refine ⟨_,_,_,rfl,⟨h3,rfl,[.agg us.toArray,av (doR (aK p (max fuel 0) g e [] 0)).2.1,av (doR (aK p (max fuel 0) g e [] 0)).2.2],_,⟨rfl,rfl⟩,rfl,fun _=>rfl,fun t=>?_⟩,hst⟩
 match t with
 | 0=>exact .inr ⟨_,rfl,Val.aq _,us,rfl,hr⟩
 | 1=>exact .inr ⟨_,rfl,show Rd M' (vI _) _ from Ay _⟩
 | 2=>exact .inr ⟨_,rfl,show Rd M' (vI _) _ from Ay _⟩
 | t+3=>exact .inl rfl
theorem Bh {n : Int} {l : List Val} {r : Val} (hz : ∀ v∈l,v.size<=100000) (hr : opV n l = some r) : IS s12 [[vI n],[.sl l.length 3 (l.flatMap Val.enc)]] [r.enc]:=by
 refine qn rfl ?_
 show Old _ _ _ _
 intro w0 M Γ vs hlen hpl hN
 obtain ⟨a,b,rfl⟩ : ∃ a b,vs = [a,b]:=by
  match vs,hlen with
  | [a,b],_=>exact ⟨a,b,rfl⟩
 obtain h0 | ⟨_,h0,h1⟩:=hpl 0
 ·cases h0
 cases h0
 obtain rfl:=un_i (show Rd M (vI n) a from h1)
 obtain h0 | ⟨_,h0,h1⟩:=hpl 1
 ·cases h0
 cases h0
 replace h1 : Rd M (.sl l.length 3 (l.flatMap Val.enc)) b:=h1
 intro w hw
 refine (B5 w0 M Γ n l b r (Kn.of h1) hN hz hr w hw).mono ?_
 rintro x w' ⟨v,M',Γ',rfl,⟨h3,rfl,us,rfl,hr⟩,hst⟩
 refine ⟨_,_,_,rfl,⟨h3,rfl,[.agg us.toArray],_,rfl,rfl,fun _=>rfl,fun t=>?_⟩,hst⟩
 match t with
 | 0=>exact .inr ⟨_,rfl,Val.aq _,us,rfl,hr⟩
 | t+1=>exact .inl rfl
theorem calls0 : CallsP vH:=⟨⟨fun i j hi=>absurd hi (Nat.not_lt_zero _),fun d hd=>(by cases hd),fun d hd=>(by cases hd),fun d hd=>(by cases hd)⟩,Nat.zero_le _,fun k hk=>absurd hk (Nat.not_lt_zero _)⟩
theorem F0 : IS s18 [] [[vB true]]:=by
 have sv : ∀ v : Val,v.size<=1000000000000000->IS s11 [v.enc,v.enc] [[vB true]]:=fun v hv=>by
  have:=BQ v v hv
  rwa [decide_eq_true (qE v)] at this
 have sm : ∀ {x y : Int},∀ v∈[lg x,lg y],v.size<=100000:=fun v hv=>by
  simp only [List.mem_cons,List.not_mem_nil,or_false] at hv
  rcases hv with rfl | rfl <;> exact Nat.le_of_ble_eq_true rfl
 refine w18.is ?_
 unfold g18
 refine ai (xW Q1 lv1 (fun h=>by cases h)) ?_
 simp only [pmr,doR]
 refine ai (xW Q1 lv2 (fun h=>by cases h)) ?_
 simp only [pmr,doR]
 refine ai (xW Q1 lv3 (fun h=>by cases h)) ?_
 simp only [pmr,doR]
 refine ai (Bh sm lv4) ?_
 refine ai (Bh sm lv5) ?_
 refine ai (Bh sm lv6) ?_
 simp only [pmr]
 have tk : ∀ {P Q : Prop},P->(True->P)/\(¬ True->Q):=fun p=>⟨fun _=>p,fun c=>absurd trivial c⟩
 have n4 : ∀ z : Int,cell (lg z).enc 1 = vI z:=fun _=>rfl
 refine ai (sv (lg 5) (Nat.le_of_ble_eq_true rfl)) ?_
 simp only [pmr]
 refine tk (tk (tk (ai (sv (lg 13) (Nat.le_of_ble_eq_true rfl)) ?_)))
 simp only [pmr,n4]
 refine tk (tk (tk (tk (tk (ai (FQ calls0 id5) ?_)))))
 rw [tF (fun h=>lv7 _ h.1)]
 simp only [pmr]
 rfl
theorem GH {p : ProgT} {g : Nat} {id : IdT} {args : List Val} {fuel : Int} (hF : max fuel 0<=1099511627776) (hz : ∀ v∈args,v.size<=1000000000000000) (hb : bX p g id args fuel ≠ .bad) :
  IS s26 [p.enc,id.enc,[.sl args.length 3 (args.flatMap Val.enc)],[vI fuel]] [(iT (bX p g id args fuel)).1.enc,[vI (iT (bX p g id args fuel)).2.1],[vI (iT (bX p g id args fuel)).2.2]]:=by
 refine qn rfl ?_
 show Old _ _ _ _
 intro w0 M Γ vs hlen hpl hN
 obtain ⟨a,b,c,d,rfl⟩ : ∃ a b c d,vs = [a,b,c,d]:=by
  match vs,hlen with
  | [a,b,c,d],_=>exact ⟨a,b,c,d,rfl⟩
 obtain h0 | ⟨_,h0,h1⟩:=hpl 0
 ·cases h0
 cases h0
 obtain ⟨_,us,rfl,hp⟩ : p.enc.length = 2/\∃ us : List Value,a = .agg us.toArray/\RdL M p.enc us:=h1
 obtain h0 | ⟨_,h0,h1⟩:=hpl 1
 ·cases h0
 cases h0
 obtain ⟨_,ui,rfl,hi⟩ : id.enc.length = 3/\∃ us : List Value,b = .agg us.toArray/\RdL M id.enc us:=h1
 obtain h0 | ⟨_,h0,h1⟩:=hpl 2
 ·cases h0
 cases h0
 replace h1 : Rd M (.sl args.length 3 (args.flatMap Val.enc)) c:=h1
 obtain h0 | ⟨_,h0,h2⟩:=hpl 3
 ·cases h0
 cases h0
 replace h2 : Rd M (vI fuel) d:=h2
 obtain ⟨um,ud,rfl⟩ : ∃ um ud,us = [um,ud]:=by
  have:=hp.1.trans (ProgT.aq _)
  match us,this with
  | [a,b],_=>exact ⟨a,b,rfl⟩
 have ei : ui = id.vals:=by
  obtain ⟨u1,r1,rfl,k1,hi⟩:=hi.lE
  obtain ⟨u2,r2,rfl,k2,hi⟩:=hi.lE
  obtain ⟨u3,r3,rfl,k3,hi⟩:=hi.lE
  obtain rfl:=hi.unnil
  unfold Rd at k1 k2 k3
  rw [k1.1,k2.1,k3.1]
  rfl
 have ed : d = av fuel:=by unfold Rd at h2;exact h2.1
 subst ei ed
 intro w hw
 refine (GG w0 M Γ p um ud id args c fuel g hN hF (Kn.of hp) (Kn.of h1) hz hb w hw).mono ?_
 rintro e w' ⟨v,M',Γ',rfl,⟨h3,rfl,us,rfl,hr⟩,hst⟩
 refine ⟨_,_,_,rfl,⟨h3,rfl,[.agg us.toArray,av (iT (bX p g id args fuel)).2.1,av (iT (bX p g id args fuel)).2.2],_,⟨rfl,rfl⟩,rfl,fun _=>rfl,fun t=>?_⟩,hst⟩
 match t with
 | 0=>exact .inr ⟨_,rfl,Val.aq _,us,rfl,hr⟩
 | 1=>exact .inr ⟨_,rfl,show Rd M' (vI _) _ by unfold Rd;exact ⟨rfl,rfl⟩⟩
 | 2=>exact .inr ⟨_,rfl,show Rd M' (vI _) _ by unfold Rd;exact ⟨rfl,rfl⟩⟩
 | t+3=>exact .inl rfl
theorem Ff {l : List Int} (hl : ∀ x∈l,InI x) : IS s19 [[aL l]] [pgL (aJ l)]:=by
 have:=prog_is hl
 rwa [ProgT.ay] at this
theorem GR {l : List Int} {i : IdT} {al : List Val} {fuel : Int} (hz : ∀ v∈al,v.size<=1000000000000000) (hf : fuel<=1000000) : IS s26 [pgL (aJ l),i.enc,[vlD al],[vI fuel]] [(iT (bX (aJ l) 1000000 i al fuel)).1.enc,[vI (iT (bX (aJ l) 1000000 i al fuel)).2.1],[vI (iT (bX (aJ l) 1000000 i al fuel)).2.2]]:=by
 have:=GH (p:=aJ l) (g:=1000000) (id:=i) (args:=al) (fuel:=fuel) Q0 hz (GU (nW l) Q0)
 rwa [ProgT.ay] at this
theorem F9 {M : Mem} {m : List Int} {u : Value} (h : Rd M (aL m) u) : m.length<=1000000000000000:=by
 obtain ⟨a,c,_,_,h1,_⟩:=h.slice
 omega
def qq (n : Int) : List Int:=[65536,around n 60,0,-5]
theorem Gk {n : Int} (hn : InI n) : IS s25 [[vI n]] [[aL (qq n)]]:=by
 refine w25.is ?_
 unfold g25
 simp only [pmr]
 refine ai (fP Q0 hn) ?_
 simp only [pmr]
 rfl
theorem Gj (n : Int) {j : Nat} (h : j < 4) : ∃ f,el ((qq n).map an) 1 j = [vI f]/\f<=65536:=by
 have h1:=fO n 60 Q0
 match j,h with
 | 0,_=>exact ⟨65536,rfl,Q0⟩
 | 1,_=>exact ⟨around n 60,rfl,Q0⟩
 | 2,_=>exact ⟨0,rfl,Q0⟩
 | 3,_=>exact ⟨-5,rfl,Q0⟩
theorem zO (p : ProgT) (g : Nat) (i : IdT) (al : List Val) (f : Int) : (iT (bX p g i al f)).1.size<=256:=by
 have v0s : v0.size<=256:=Nat.le_of_ble_eq_true rfl
 cases h : bX p g i al f with
 | err k=>exact v0s
 | bad=>exact v0s
 | ok v n =>
  unfold bX at h
  split at h
  ·split at h
   ·unfold zN at h
    split at h
    ·exact (jr h).1
    ·cases h
   ·cases h
  ·cases h
theorem al_sm {l : List Int} {d : DefT} (hd : d∈(aJ l).defs) (m : List Int) : ∀ v∈mA (aJ l) d m,v.Sm/\v.size<=256:=fun v hv=>by
 obtain ⟨j,hj,rfl⟩:=List.mem_iff_getElem.1 hv
 have hj' : j < d.slots.length:=by rw [m8] at hj;exact hj
 have h:=s9 l d hd _ (List.getElem_mem hj')
 rw [qI _ _ _ hj' hj]
 exact ⟨(FU 4 _ 0 1 h.1).2,(mK h.1 _ 1).1⟩
def oO (R : List (List Val)) : D:=.sl R.length 1 (R.map vlD)
theorem D5 {l m : List Int} {which at' how wth fuel : Int} (hl : ∀ x∈l,InI x) (hw : InI which) (hm : ∀ x∈m,InI x) (hml : m.length<=1000000000000000) (ha : InI at') (hh : InI how) (hwt : InI wth) (hf : InI fuel) :
  IS s6 [[aL l],[vI which],[aL m],[vI at'],[vI how],[vI wth],[vI fuel]] [[vB true]]:=by
 have hpt:=nW l
 have hpc:=nX l
 have hpl:=hpc.len
 obtain ⟨hd,hb⟩:=some_ok (l:=l) which
 generalize hdd : sK (aJ l) which = d at hd hb
 have hfit:=G8 hd m
 have hargs:=args_is hd hm hml
 have hsm:=al_sm hd m
 have hfew:=hpt.few d hd
 generalize haa : mA (aJ l) d m = al at hfit hargs hsm
 have hal : al.length = d.slots.length:=hfit.1
 refine w6.is ?_
 unfold g6
 simp only [pmr]
 refine ai (Ff hl) ?_
 simp only [pmr]
 refine ai (some_is hw Q0 hpc.nm.kd (uM l)) ?_
 rw [hdd]
 simp only [pmr]
 refine ai hargs ?_
 unfold vlD
 simp only [pmr,Nat.zero_add,Int.zero_add]
 refine ⟨Qa,Qa,?_⟩
 have v0s : v0.size<=1000000:=Nat.le_of_ble_eq_true rfl
 have hR3 : ∀ a∈[al,al++[v0],[]],a.length<=1000000/\∀ v∈a,v.size<=1000000:=fun a h=>by
  simp only [List.mem_cons,List.not_mem_nil,or_false] at h
  rcases h with rfl | rfl | rfl
  ·exact ⟨Q0,fun v hv=>by have:=(hsm v hv).2;omega⟩
  ·refine ⟨Qc,fun v hv=>?_⟩
   rcases List.mem_append.1 hv with hv | hv
   ·have:=(hsm v hv).2;omega
   ·rw [List.mem_singleton.1 hv];exact v0s
  ·exact ⟨Nat.zero_le _,fun v hv=>by cases hv⟩
 obtain ⟨R,hR,hRl,hX⟩ : ∃ R : List (List Val),(∀ a∈R,a.length<=1000000/\∀ v∈a,v.size<=1000000)/\R.length<=4/\((((0 : Int) < (al.length : Int))->room al.length 41/\caK IS s16 [[vI at'],[vI (al.length : Int)]] fun r13=>aa (cell (ent r13 0) 0) fun z14=>(0<=z14/\z14 < (al.length : Int))/\caK IS s24 [el (al.flatMap Val.enc) 3 z14.toNat,[vI at'],[vI how],[vI wth]] fun r15=>(0<=z14/\z14 < (al.length : Int))/\room (3+1) 25/\([[vI which],[vI fuel],pgL (aJ l),d.enc,[.sl (3+1) 1 [.sl al.length 3 (al.flatMap Val.enc),.sl (al.length+1) 3 (al.flatMap Val.enc++[vI 0,vI 0,.sl 0 3 []]),.sl 0 3 [],.sl al.length 3 (upd (al.flatMap Val.enc) (z14.toNat * 3+0) (ent r15 0))]]] : St') = [[vI which],[vI fuel],pgL (aJ l),d.enc,[oO R]])/\(¬ ((0 : Int) < (al.length : Int))->([[vI which],[vI fuel],pgL (aJ l),d.enc,[.sl 3 1 [.sl al.length 3 (al.flatMap Val.enc),.sl (al.length+1) 3 (al.flatMap Val.enc++[vI 0,vI 0,.sl 0 3 []]),.sl 0 3 []]]] : St') = [[vI which],[vI fuel],pgL (aJ l),d.enc,[oO R]])):=by
  have h1 : D.sl (al.length+1) 3 (al.flatMap Val.enc++[vI 0,vI 0,.sl 0 3 []]) = vlD (al++[v0]):=by unfold vlD;simp;rfl
  by_cases h0 : 0 < al.length
  ·have hz:=fO at' al.length Q0
   have hk : (around at' al.length).toNat < al.length:=Q0
   have hvs:=hsm _ (List.getElem_mem hk)
   obtain ⟨r,⟨w,rfl,hws⟩,hr⟩:=CY al[(around at' al.length).toNat] at' how wth hvs.1 Q0 ha hh hwt
   refine ⟨[al,al++[v0],[],al.set (around at' al.length).toNat w],fun a h=>?_,Q2,fun _=>⟨Qa,ai (fP Q0 ha) ?_⟩,fun c=>absurd Q0 c⟩
   ·simp only [List.mem_cons,List.not_mem_nil,or_false] at h
    rcases h with h | h | h | h
    ·exact hR3 a (by simp [h])
    ·exact hR3 a (by simp [h])
    ·exact hR3 a (by simp [h])
    ·rw [h]
     refine ⟨Qc,fun v hv=>?_⟩
     rcases List.mem_or_eq_of_mem_set hv with hv | rfl
     ·have:=(hsm v hv).2;omega
     ·omega
   ·simp only [pmr]
    rw [ek _ hk]
    refine ⟨hz,ai hr ?_⟩
    simp only [pmr]
    refine ⟨hz,Qa,?_⟩
    rw [h1,By _ hk]
    unfold oO vlD
    simp
  ·refine ⟨[al,al++[v0],[]],hR3,Q2,fun c=>absurd c Q0,fun _=>?_⟩
   rw [h1]
   rfl
 refine cu [[vI which],[vI fuel],pgL (aJ l),d.enc,[oO R]] hX ?_
 unfold oO
 simp only [pmr,pms]
 have hdp : 0 < (aJ l).defs.length:=List.length_pos_of_mem hd
 have hz:=fO which (aJ l).defs.length Q0
 have hk : (around which (aJ l).defs.length).toNat < (aJ l).defs.length:=Q0
 refine ai (fP Q0 hw) ?_
 simp only [pmr]
 rw [gZ _ hk]
 simp only [pms]
 refine ⟨hz,ai (Gk hf) ?_⟩
 unfold aL
 simp only [pmr]
 generalize hids : [d.id,(aJ l).defs[(around which (aJ l).defs.length).toNat].id,(⟨3,1,0⟩ : IdT)] = ids
 have hid3 : ids.length = 3:=by rw [<-hids];rfl
 have e3 : D.sl 3 3 (d.id.enc++((aJ l).defs[(around which (aJ l).defs.length).toNat].id.enc++[vI 3,vI 1,vI 0])) = .sl 3 3 (ids.flatMap IdT.enc):=by rw [<-hids];rfl
 rw [e3]
 have hfl4 : (qq fuel).length = 4:=rfl
 refine cg R.length (fun i=>[[vI (i : Int)],pgL (aJ l),[oO R],[.sl 3 3 (ids.flatMap IdT.enc)],[aL (qq fuel)]]) (fun _=>True) trivial rfl fun i next hi _ hn=>?_
 unfold oO aL at hn ⊢
 simp only [pmr]
 refine ⟨fun h=>?_,fun h=>ai F0 ?_⟩
 ·have hi' : i < R.length:=Q0
  refine cg 3 (fun k=>[[vI (i : Int)],[vI (k : Int)],pgL (aJ l),[oO R],[.sl 3 3 (ids.flatMap IdT.enc)],[aL (qq fuel)]]) (fun _=>True) trivial rfl fun k vU hk2 _ hn2=>?_
  unfold oO aL at hn2 ⊢
  simp only [pmr]
  refine ⟨fun hk3=>?_,fun hk3=>⟨Q4,hn hi' trivial⟩⟩
  have hk' : k < ids.length:=Q0
  obtain ⟨hz1,hz2⟩:=hR _ (List.getElem_mem hi')
  have hm : ((i : Int)+(k : Int)).tmod 4 = ((i : Int)+(k : Int)) % 4:=bU Q0
  generalize hq : ((i : Int)+(k : Int)).tmod 4 = q at hm ⊢
  have hq4 : q.toNat < 4:=Q0
  obtain ⟨f,hfe,hfl⟩:=Gj fuel hq4
  rw [el_Id _ hk',ov _ hi',hfe]
  simp only [pmr]
  have hall : (0<=(k : Int)/\(k : Int) < ((3 : Nat) : Int))/\(0<=(i : Int)/\(i : Int) < (R.length : Int))/\okI ((i : Int)+k)/\(4 : Int) ≠ 0/\(0<=q/\q < ((qq fuel).length : Int)):=⟨Q0,Q0,Q4,Q1,Q0⟩
  refine ⟨hall.1,hall.2.1,hall.2.2.1,hall.2.2.2.1,hall.2.2.2.2,ai (GR (l:=l) (i:=ids[k]) (al:=R[i]) (fun v hv=>by have:=hz2 v hv;omega) Q0) ?_⟩
  simp only [pmr]
  obtain ⟨r,⟨w,rfl,hw1⟩,hr⟩:=Fc (g:=1000000) hpt hpc (i:=ids[k]) (al:=R[i]) (f:=f) Q0 Q0 (fun v hv=>by have:=hz2 v hv;omega) Q0
  refine ⟨hall.1,hall.2.1,hall.2.2.1,hall.2.2.2.1,hall.2.2.2.2,ai hr ?_⟩
  rw [hw1]
  simp only [pmr,pms]
  have hcs:=zO (aJ l) 1000000 ids[k] R[i] f
  refine ⟨fun _=>⟨fun _=>ai (BQ _ _ Q0) ?_,fun c=>absurd trivial c⟩,fun c=>absurd trivial c⟩
  rw [decide_eq_true (qE _)]
  simp only [pmr,Bool.not_true]
  exact ⟨Q4,hn2 Q0 trivial⟩
 ·simp only [pmr]
theorem p4 (w0 : World) (M : Mem) (l : List Int) (ul : Value) (which : Int) (m : List Int) (um : Value) (at' how wth fuel : Int) (hl : Rd M (aL l) ul) (hm : Rd M (aL m) um) (hN : hO M) (hli : ∀ x∈l,InI x) (hwi : InI which) (hmi : ∀ x∈m,InI x) (hai : InI at') (hhi : InI how) (hbi : InI wth) (hfi : InI fuel) :
  aC Tryd.prog w0 M [] 6 [ul,av which,um,av at',av how,av wth,av fuel].toArray (fun u M' Γ'=>u = .bool true/\M' = M/\Γ' = []):=by
 have h : mH Tryd.prog s6 _ _:=D5 hli hwi hmi (F9 hm) hai hhi hbi hfi
 refine yZ hN h rfl (fun t=>?_) (fun _=>rfl) rfl rfl
 match t with
 | 0=>exact .inr ⟨_,rfl,hl⟩
 | 1=>exact .inr ⟨_,rfl,show Rd M (vI which) _ from Ay _⟩
 | 2=>exact .inr ⟨_,rfl,hm⟩
 | 3=>exact .inr ⟨_,rfl,show Rd M (vI at') _ from Ay _⟩
 | 4=>exact .inr ⟨_,rfl,show Rd M (vI how) _ from Ay _⟩
 | 5=>exact .inr ⟨_,rfl,show Rd M (vI wth) _ from Ay _⟩
 | 6=>exact .inr ⟨_,rfl,show Rd M (vI fuel) _ from Ay _⟩
 | t+7=>exact .inl rfl
end Go.Proofs.YtanbipbiblikbaaDoor

namespace Xe
open Go Go.ChangeShapes Go.WideShapes Go.RowKit
theorem zg {H : Type} {enc : TypeId×Value->H} {C : Checked} {os : Os} {f : FuncId} {fn : Func} {s : ChangeSpec} {tb : TypeId} {fresh handsOn again : Bool} {laid : List (String×DataW Unit)} {F : Stop.Interp} (ts0 : List TypeId) (own : ownKnob C.prog.godebug = none) (started : os.Started) (noInit : C.prog.inits.idxOf? f = none) (hfn : C.prog.funcs[f]? = some fn)
  (hcl : rZ C.prog ts0 = true) (hl : laidOutB C.prog = true) (htb : C.prog.underlying tb = some .bool)
  (hts : (fn.params.toList.all fun t=>ts0.contains t && C.prog.readableRec t && Nat.blt t C.prog.types.size) = true) (hres : fn.resultTypes = #[tb]) (hvars : s.vars = []) (hspec : ∀ ds : List (DataW H),ds.length = fn.params.toList.length->s.fn H ds = { results:=[.lit (.bool true)],args:=ds,vars:=[] })
  (witness : ∃ (w : World) (tape : Tape) (i : Input),w.os = os/\(w.forCall tape i).Shaped C.prog/\i.vars = []/\Input.okWide C.prog (w.forCall tape i) .any w.heap.size f i /\
   (OpenSpec.ofChange s).preRow enc C.prog fn [] false laid (w.forCall tape i).memory i.args/\Assume.holds {} C.prog (lone (Frame.enter C.prog f i.args .normal) [] (w.forCall tape i)))
  (contract : ∀ (W : World) (vs : List Value),laidMetH C.prog laid W->ArgsW C.prog (ef W) fn.params.toList vs->aC C.prog W (ef W) [] f vs.toArray (Is (ef W) [] (.bool true))) :
  ReturnsInHanded {} C os f .any ((OpenSpec.ofChange s).preRow enc C.prog fn [] false laid) (((OpenSpec.ofChange s).at F).post enc C.prog fn false fresh handsOn again):=by
 refine returnsInHanded_of_row (C:=C) (s:=OpenSpec.ofChange s) own started noInit hfn witness ?_
 intro W base args ds gs before hval hW _ _ hsz hL _ _
 exact F5 zP (ds.map SizeOf.sizeOf).sum ts0 hcl hl htb hts hres hvars hspec hval hW hsz (fun d hd=>F4 SizeOf.sizeOf hd) fun vs h=>contract W vs hL h.toW
end Xe

namespace Go.Proofs.YtanbipbiblikbaaDoor
open Xe
set_option maxRecDepth 20000
theorem wty3 : Y.intB Tryd.prog 3 .i64 = true:=by kernel_rfl
theorem wty22 : slcB Tryd.prog 22 3 1 = true:=by kernel_rfl
section
variable {n : Nat} {ds : List D}
theorem ints_of (h : WT Tryd.prog n 22 ds) : ∃ l : List Int,ds = [aL l]/\∀ x∈l,InI x:=by
 obtain ⟨m,rfl,els,rfl,_,he⟩:=h.elems wty22
 obtain ⟨l,e1,e2,e3⟩:=zH (enc:=fun z=>[an z]) (Q:=InI) fun x hx=>(he x hx).int wty3
 exact ⟨l,by rw [e1,e2,aL,List.map_eq_flatMap],e3⟩
end
section
variable {M : Mem} {ts : List TypeId} {vs : List Value}
theorem zX (h : ArgsW Tryd.prog M (22::ts) vs) : ∃ (l : List Int) (v : Value) (vs' : List Value),vs = v::vs'/\Rd M (aL l) v/\(∀ x∈l,InI x)/\ArgsW Tryd.prog M ts vs':=by
 obtain ⟨n,ds,us,v,vs',rfl,h1,h2,h3,h4⟩:=h.inv
 obtain ⟨l,rfl,hl⟩:=ints_of h2
 simp only [qM,Tryd.underlying22] at h3
 subst h3
 exact ⟨l,v,vs',rfl,h1.2 0 _ _ rfl rfl,hl,h4⟩
theorem pV (h : ArgsW Tryd.prog M (3::ts) vs) : ∃ (z : Int) (vs' : List Value),vs = av z::vs'/\InI z/\ArgsW Tryd.prog M ts vs':=by
 obtain ⟨n,ds,us,v,vs',rfl,h1,h2,h3,h4⟩:=h.inv
 obtain ⟨z,rfl,hz⟩:=h2.int wty3
 simp only [qM,Tryd.underlying3] at h3
 subst h3
 have h5:=h1.2 0 _ _ rfl rfl
 obtain rfl:=Rd.int_eq h5
 exact ⟨z,vs',rfl,hz,h4⟩
end
open Xe Go.ChangeShapes Go.WideShapes Go.ChangeAt Go.RowKit
set_option maxRecDepth 100000
abbrev Cg : List (String × DataW Unit) := [( "splicery/eval.numbers", Rows.laid_splicery_eval_numbers)]
theorem ownKn : ownKnob Tryd.prog.godebug = none:=by kernel_rfl
theorem gNums : Tryd.prog.globalNamed "splicery/eval.numbers" = some 0 := by kernel_rfl
theorem tNums : (Tryd.prog.globals[0]?).map (·.type) = some 70:=by kernel_rfl
theorem u70 : Tryd.prog.underlying 70 = some (.array 5 40):=by kernel_rfl
theorem u40 : Tryd.prog.underlying 40 = some (.func #[3,3] #[3] false):=by kernel_rfl
theorem c40 : Tryd.prog.cellsOf 40 = 1:=by kernel_rfl
theorem nums_of {W : World} (h : laidMetH Tryd.prog Cg W) : hO (ef W):=by
 obtain ⟨g,t,cs,fuel,p,hg,ht,hv,hd⟩:=h.funcs (List.mem_singleton.2 rfl)
 obtain rfl:=Option.some.inj (gNums.symm.trans hg)
 obtain rfl:=Option.some.inj (tNums.symm.trans ht)
 have hd1 : DataW.trod (funcToken Tryd.prog) Tryd.prog W 0 (fun _=>true) true fuel 70 cs.toList = some (.agg [.held [115,112,108,105,99,101,114,121,47,101,118,97,108,46,110,117,109,98,101,114,115,36,49],.held [115,112,108,105,99,101,114,121,47,101,118,97,108,46,110,117,109,98,101,114,115,36,50],.held [115,112,108,105,99,101,114,121,47,101,118,97,108,46,116,105,109,101,115],.held [115,112,108,105,99,101,114,121,47,101,118,97,108,46,100,105,118,105,100,101],.held [115,112,108,105,99,101,114,121,47,101,118,97,108,46,114,101,115,116]],p):=hd
 obtain ⟨xs,m,rfl,hx,hl,hxl,hf⟩:=DataW.trod_array u70 hd1
 simp only [Prod.mk.injEq,DataW.agg.injEq] at hx
 have key : ∀ (k : Nat) (b : UInt8) (r : List UInt8) (f0 : FuncId),k < 5->((List.range Tryd.prog.funcs.size).filter fun f=>(Tryd.prog.funcs[f]?).any (·.name.toUTF8.data.toList == b::r)) = [f0]->(xs.map (·.1))[k]? = some (.held (b::r))->dJ (ef W) (adr (some ⟨0,0,none⟩) k) = some (.func (.func f0) #[] #[]):=by
  intro k b r f0 hk hone hxk
  have h1:=hf k hk
  rw [c40,Nat.mul_one] at h1
  rw [List.getElem?_map] at hxk
  cases hy : xs[k]? with
  | none=>rw [hy] at hxk;cases hxk
  | some y =>
   rw [hy] at hxk h1
   have e1 : y.1 = .held (b::r):=Option.some.inj hxk
   have hlc : cs.toList.length = 5:=by rw [hl];kernel_rfl
   have hkl : k < cs.toList.length:=Q0
   have e2 : (cs.toList.drop k).take 1 = [cs.toList[k]]:=by rw [List.drop_eq_getElem_cons hkl];simp
   rw [e2] at h1
   have h2:=func_of_trod (q:=y.2) u40 hone (by rw [h1,<-e1])
   rw [rj,cK,Nat.zero_add,World.var?_cell hg hv k,<-h2]
   simp
 intro k hk
 have hx1:=hx.1.symm
 rcases k with _ | _ | _ | _ | _ | k
 ·exact key 0 _ _ 132 Q0 (by kernel_rfl) (by rw [hx1];rfl)
 ·exact key 1 _ _ 133 Q0 (by kernel_rfl) (by rw [hx1];rfl)
 ·exact key 2 _ _ 134 Q0 (by kernel_rfl) (by rw [hx1];rfl)
 ·exact key 3 _ _ 135 Q0 (by kernel_rfl) (by rw [hx1];rfl)
 ·exact key 4 _ _ 136 Q0 (by kernel_rfl) (by rw [hx1];rfl)
 ·omega
theorem GK (os : Os) (args : Array Value) : laidMetH Tryd.prog Cg ((World.doorLaid Tryd.prog 600 os).forCall (fun _ _=>0) ⟨#[],args,[]⟩).memory :=
 laidMetH_of_parts3 (fuel:=8) (laidMet_of_run' 8 (by kernel_rfl) (by kernel_rfl)) (by kernel_rfl) (by kernel_rfl)
end Go.Proofs.YtanbipbiblikbaaDoor
