/- Gn9, Ev18, Ev19, Ev20, Ev21, Ev22, Ev23, Ev24, Gn10, Gn11, Gn12, Ev25, Ev26, Ev27, Ev28, Ev29, Ev30, Ev31, Ev32, Ev33, Gn17, Gn18, Gn19, Gn13, Gn22, Ev34, Ev36, Gn24, Ev37, Gn25, Tab, put together. -/
import Derived.Test.YtanbipbiblikbaaDoorPs4
import Derived.Test.YtanbipbiblikbaaDoorProg
import Derived.KernelRfl
namespace Go.Proofs.YtanbipbiblikbaaDoor
open Xe Pm
theorem upd5 (t u : Ty) : upd t.enc 0 u.enc = u.enc:=by
 unfold upd
 rw [List.take_zero,List.nil_append,Ty.aq,List.drop_eq_nil_of_le (by rw [Ty.aq];decide),List.append_nil]
theorem jw {z : Int} (h : 0<=z/\z<=1000000000000) : InI z:=by unfold InI;omega
theorem PlanT.fO (k : Int) (nm : ByteArray) (ts : List Ty) (ns : List ByteArray) (bs : List Int) (r : Ty) (m : Int) : (PlanT.mk k nm ts ns bs r m).enc = [an k,eP nm,.sl ts.length 5 (ts.flatMap Ty.enc),BG ns,aK bs,an r.kind,an r.df.shop,an r.df.seq,an r.df.index,.sl r.kids.length 5 (r.kids.flatMap Ty.enc),an m]:=by
 rw [PlanT.enc,Ty.ay]
 rfl
section
variable {l : List Int} (hl : ∀ x∈l,InI x)
theorem atS (hl : ∀ x∈l,InI x) {i n : Int} (hn : 1<=n) : IS s40 [[aK l],[vI i],[vI n]] [[vI (atL l i n)]]:=BY hn hl
theorem vR (hl : ∀ x∈l,InI x) {i n : Int} (a b : Ty) (hn : 1<=n) (h6 : n<=1000) : IS s75 [[vI (atL l i n)],a.enc,b.enc] [(bQ (atL l i n) a b).enc]:=by
 have:=cC l i n hn
 exact Cb (jw (by omega)) a b
theorem CO (hl : ∀ x∈l,InI x) {i : Int} (hi : 0<=i/\i<=1000) (T : Ty) : IS s76 [[aK l],[vI i],T.enc] [[.sl (wI l i T).length 5 ((wI l i T).flatMap Ty.enc)],[aK (CP l i)]]:=by
 refine w76.is ?_
 unfold g76
 simp only [pmr]
 have r5:=cC l i 5 (by omega)
 have r3:=cC l (i+1) 3 (by omega)
 have r2:=cC l (i+1) 2 (by omega)
 have r23:=cC l (i+2) 3 (by omega)
 refine ai (atS hl (by decide)) ?_
 simp only [pmr]
 refine ⟨by unfold okI;omega,ai (atS hl (by decide)) ?_⟩
 simp only [pmr]
 have hz:=inZ_rng l i (atL l i 5)
 refine ⟨by unfold okI;omega,di [[aK l],[vI i],[vI (atL l i 5)],T.enc,[.sl 1 5 (inT1 (atL l i 5)).enc],[.sl 1 1 [vI (inZ1 l i (atL l i 5))]]] ?_ ?_⟩
 ·unfold inT1 inZ1
  refine ⟨fun h=>⟨by decide,by decide,?_⟩,fun h=>?_⟩
  ·rw [if_pos h,if_pos h,qJ];rfl
  ·rw [if_neg h,if_neg h,fK]
 simp only [pmr]
 have e0:=ov
 refine di [[aK l],[vI i],[vI (atL l i 5)],T.enc,[.sl 1 5 (inT2 (atL l i 5)).enc],[.sl 1 1 [vI (inZ2 l i (atL l i 5))]]] ?_ ?_
 ·unfold inT2 inZ2
  refine ⟨fun h=>ai e0 ?_,fun h=>?_⟩
  ·simp only [pmr]
   refine ⟨by decide,by unfold okI;omega,ai (atS hl (by decide)) ?_⟩
   simp only [pmr]
   refine ⟨by unfold okI;omega,by decide,?_⟩
   rw [if_pos h,if_pos h,<-qT,upd5]
   rfl
  ·rw [if_neg h,if_neg h]
 simp only [pmr]
 refine di [[aK l],[vI i],[.sl 1 5 (inT (atL l i 5) T).enc],[.sl 1 1 [vI (inZ l i (atL l i 5))]]] ?_ ?_
 ·unfold inT inZ
  refine ⟨fun h=>⟨by decide,by decide,?_⟩,fun h=>?_⟩
  ·rw [if_pos h,if_pos h,upd5];rfl
  ·rw [if_neg h,if_neg h]
 simp only [pmr]
 refine ⟨by unfold okI;omega,ai (atS hl (by decide)) ?_⟩
 simp only [pmr]
 unfold wI CP
 generalize inT (atL l i 5) T = t0
 generalize inZ l i (atL l i 5) = z0
 generalize atL l (i+2) 3 = cc
 refine di [[vI cc],[.sl (t0::in1 cc).length 5 ((t0::in1 cc).flatMap Ty.enc)],[aK (z0::yo cc)]] ?_ ?_
 ·unfold in1 yo
  refine ⟨fun h=>⟨by unfold room;decide,by unfold room;decide,?_⟩,fun h=>?_⟩
  ·rw [if_pos h,if_pos h]
   simp [fK,aK]
  ·rw [if_neg h,if_neg h]
   simp [aK]
 simp only [pmr,aK]
 have hl1 : (t0::in1 cc).length<=2/\(z0::yo cc).length<=2:=by unfold in1 yo;split <;> simp
 refine di [[.sl (t0::in2 cc).length 5 ((t0::in2 cc).flatMap Ty.enc)],[aK (z0::E6 cc)]] ?_ ?_
 ·unfold in2 E6
  refine ⟨fun h=>⟨by unfold room;omega,by unfold room;omega,?_⟩,fun h=>?_⟩
  ·have e1 : in1 cc = []:=by unfold in1;rw [if_neg (by omega)]
   have e2 : yo cc = []:=by unfold yo;rw [if_neg (by omega)]
   rw [if_pos h,if_pos h,e1,e2]
   simp [qJ,tyL,aK]
  ·rw [if_neg h,if_neg h]
   rfl
 simp only [pmr,aK]
theorem xR (hl : ∀ x∈l,InI x) {n : Int} (hn : 1<=n/\n<=1000) : IS s48 [[aK l],[vI n]] [[.sl (bp l n).length 11 ((bp l n).flatMap PlanT.enc)]]:=by
 refine w48.is ?_
 unfold g48
 simp only [pmr]
 have a2:=cC l 2 3 (by omega)
 have a6:=cC l 6 2 (by omega)
 have a9:=cC l 9 3 (by omega)
 have e0:=ov
 refine ai (atS hl (by decide)) ?_
 simp only [pmr]
 refine ai (jf (by omega) (jw (by omega))) ?_
 simp only [pmr]
 refine ai (vD _) ?_
 simp only [pmr]
 refine ⟨by unfold okI;omega,ai (jf (by omega) (jw (by omega))) ?_⟩
 simp only [pmr]
 refine ai (vD _) ?_
 simp only [pmr]
 refine di [[aK l],[vI n],[vB (ek l)],(tyD n).enc,(tyD (n+1)).enc,[.sl (1+(atL l 2 3).toNat) 5 ((fY l 3 3 (tyD n) (1+(atL l 2 3).toNat)).flatMap Ty.enc)]] ?_ ?_
 ·refine cz (1+(atL l 2 3).toNat) (fun i=>[[aK l],[vI n],[vB (ek l)],[vI (i : Int)],(tyD n).enc,(tyD (n+1)).enc,[.sl i 5 ((fY l 3 3 (tyD n) i).flatMap Ty.enc)]]) (fun _=>True) trivial rfl fun i next hi _ hgo=>?_
  simp only [pmr]
  refine ai (atS hl (by decide)) ?_
  simp only [pmr]
  refine ⟨by unfold okI;omega,fun h=>⟨by unfold okI;omega,ai (atS hl (by decide)) ?_⟩,fun h=>?_⟩
  ·simp only [pmr]
   refine ai (vR hl (tyD n) (tyD n) (by decide) (by decide)) ?_
   simp only [pmr,List.append_nil]
   have:=hgo (by omega) trivial
   rw [ni,List.flatMap_append,List.flatMap_cons,List.flatMap_nil,List.append_nil] at this
   exact ⟨by unfold room;omega,by unfold okI;omega,this⟩
  ·obtain rfl : i = 1+(atL l 2 3).toNat:=by omega
   rfl
 simp only [pmr]
 refine cz (1+(atL l 6 2).toNat) (fun i=>[[aK l],[vI n],[vB (ek l)],[vI (i : Int)],(tyD n).enc,(tyD (n+1)).enc,[.sl (1+i) 5 ((ty0::fY l 7 4 (tyD n) i).flatMap Ty.enc)],[.sl 1 11 (jX l n).enc]]) (fun _=>True) trivial ?_ fun i next hi _ hgo=>?_
 ·unfold jX
  rw [PlanT.fO,hY,List.flatMap_cons,fK]
  rfl
 simp only [pmr]
 refine ai (atS hl (by decide)) ?_
 simp only [pmr]
 refine ⟨by unfold okI;omega,fun h=>⟨by unfold okI;omega,ai (atS hl (by decide)) ?_⟩,fun h=>?_⟩
 ·simp only [pmr]
  refine ai (vR hl (tyD n) (tyD n) (by decide) (by decide)) ?_
  simp only [pmr,List.append_nil]
  have:=hgo (by omega) trivial
  rw [ni,<-List.cons_append,List.flatMap_append,List.flatMap_cons (x:=bQ _ _ _),List.flatMap_nil,List.append_nil] at this
  exact ⟨by unfold room;omega,by unfold okI;omega,this⟩
 obtain rfl : i = 1+(atL l 6 2).toNat:=by omega
 refine ⟨by unfold room;omega,by unfold okI;omega,?_⟩
 have p2 : (jX l n).enc++[vI 1,vS zP,.sl (1+(1+(atL l 6 2).toNat)) 5 ((ty0::fY l 7 4 (tyD n) (1+(atL l 6 2).toNat)).flatMap Ty.enc),.sl 3 1 [vS EC,vS EE,vS nSet],.sl 0 1 [],vI 0,vI 0,vI 0,vI 0,.sl 0 5 [],vI 0] = (jW l n).flatMap PlanT.enc:=by
  have e : (lg l n).enc = [vI 1,vS zP,.sl (1+(1+(atL l 6 2).toNat)) 5 ((ty0::fY l 7 4 (tyD n) (1+(atL l 6 2).toNat)).flatMap Ty.enc),.sl 3 1 [vS EC,vS EE,vS nSet],.sl 0 1 [],vI 0,vI 0,vI 0,vI 0,.sl 0 5 [],vI 0]:=by
   unfold lg
   rw [PlanT.fO,List.length_cons,hY,Nat.add_comm 1 (1+_)]
   rfl
  rw [<-e]
  simp [jW]
 rw [p2]
 have l2 : (jW l n).length = 2:=rfl
 have l3 : (eG l n).length<=4:=by unfold eG;split <;> simp [jW]
 refine di [[aK l],[vI n],[vB (ek l)],[vI (n - 1)],(tyD n).enc,(tyD (n+1)).enc,[.sl (eG l n).length 11 ((eG l n).flatMap PlanT.enc)],(tyS l n).enc] ?_ ?_
 ·by_cases hf : ek l = true
  ·rw [hf]
   simp only [pmr]
   refine cz (atL l 9 3).toNat (fun i=>[[aK l],[vI n],[vB true],[vI (n - 1)],[vI (i : Int)],(tyD n).enc,(tyD (n+1)).enc,[.sl (1+i) 5 ((ty0::fY l 10 4 (tyD n) i).flatMap Ty.enc)],[.sl 2 11 ((jW l n).flatMap PlanT.enc)],(tyD n).enc]) (fun _=>True) trivial (by rw [List.flatMap_cons,fK];rfl) fun i next hi _ hgo=>?_
   simp only [pmr]
   refine ai (atS hl (by decide)) ?_
   simp only [pmr]
   refine ⟨fun h=>⟨by unfold okI;omega,ai (atS hl (by decide)) ?_⟩,fun h=>?_⟩
   ·simp only [pmr]
    refine ai (vR hl (tyD n) (tyD n) (by decide) (by decide)) ?_
    simp only [pmr,List.append_nil]
    have:=hgo (by omega) trivial
    rw [ni,<-List.cons_append,List.flatMap_append,List.flatMap_cons (x:=bQ _ _ _),List.flatMap_nil,List.append_nil] at this
    exact ⟨by unfold room;omega,by unfold okI;omega,this⟩
   ·obtain rfl : i = (atL l 9 3).toNat:=by omega
    refine ⟨by unfold okI;omega,ai (jf (by omega) (jw (by omega))) ?_⟩
    simp only [pmr]
    refine ai (vD _) ?_
    simp only [pmr]
    refine ⟨by unfold room;omega,ai e0 ?_⟩
    simp only [pmr]
    refine ⟨by unfold room;omega,?_⟩
    have e3 : (iG l n).enc = [vI 0,vS ED,.sl (1+(atL l 9 3).toNat) 5 ((ty0::fY l 10 4 (tyD n) (atL l 9 3).toNat).flatMap Ty.enc),.sl 3 1 [vS EF,vS nLog,vS nMore],.sl 0 1 [],vI 0,vI 0,vI 0,vI 0,.sl 0 5 [],vI 0]:=by
     unfold iG
     rw [PlanT.fO,List.length_cons,hY,Nat.add_comm 1 _]
     rfl
    have e4 : (nA n).enc = [vI 0,vS nOut,.sl 3 5 ((tyD (n+2)).enc++[vI 2,vI 0,vI 0,vI 0,.sl 1 5 [vI 0,vI 0,vI 0,vI 0,.sl 0 5 []],vI 0,vI 0,vI 0,vI 0,.sl 0 5 []]),.sl 3 1 [vS Ev,vS ya,vS nNext],.sl 0 1 [],vI 0,vI 0,vI 0,vI 0,.sl 0 5 [],vI 0]:=by
     unfold nA
     rw [PlanT.fO]
     simp only [List.flatMap_cons,List.flatMap_nil,fK,qT]
     rfl
    unfold eG tyS
    rw [if_pos hf,if_pos hf,<-e3,<-e4]
    simp only [List.flatMap_append,List.flatMap_cons,List.flatMap_nil,List.append_nil,List.append_assoc]
    rfl
  ·rw [Bool.not_eq_true] at hf
   rw [hf]
   simp only [pmr]
   unfold eG tyS
   rw [if_neg (by rw [hf];simp),if_neg (by rw [hf];simp),List.append_nil]
   rfl
 simp only [pmr]
 refine ai (atS hl (by decide)) ?_
 simp only [pmr]
 refine ai (vR hl (tyD n) (tyD (n+1)) (by decide) (by decide)) ?_
 refine di [[aK l],[vI n],[vB (ek l)],[vI (n - 1)],(tyD n).enc,(tyD (n+1)).enc,[.sl (yF l n).length 5 ((yF l n).flatMap Ty.enc)],[.sl (eG l n).length 11 ((eG l n).flatMap PlanT.enc)],(tyS l n).enc] ?_ ?_
 ·simp only [pmr]
  refine ai (atS hl (by decide)) ?_
  simp only [pmr]
  unfold yF
  refine ⟨fun h=>ai (atS hl (by decide)) ?_,fun h=>?_⟩
  ·simp only [pmr]
   refine ai (vR hl (tyD n) (tyD (n+1)) (by decide) (by decide)) ?_
   refine ⟨by unfold room;decide,?_⟩
   rw [if_pos h]
   simp only [pmr,List.flatMap_cons,List.flatMap_nil,List.append_nil]
   rfl
  ·rw [if_neg h]
   simp only [pmr,List.flatMap_cons,List.flatMap_nil,List.append_nil]
   rfl
 simp only [pmr]
 refine ai (atS hl hn.1) ?_
 simp only [pmr]
 refine ai (atS hl (by decide)) ?_
 simp only [pmr]
 refine ai (vR hl (tyD n) (tyD n) (by decide) (by decide)) ?_
 have l5 : (eF l n).length<=6:=by unfold eF;simp;omega
 have m5 : (eF l n).length = (eG l n).length+1+1:=by unfold eF;simp
 have e5 : (pF l n).enc = [vI 2,vS n_f,.sl (yF l n).length 5 ((yF l n).flatMap Ty.enc),.sl 2 1 [vS n_a,vS n_b],.sl 0 1 [],an (kI l n).kind,an (kI l n).df.shop,an (kI l n).df.seq,an (kI l n).df.index,.sl (kI l n).kids.length 5 ((kI l n).kids.flatMap Ty.enc),vI (atL l 15 n)]:=by
  unfold pF
  rw [PlanT.fO]
  rfl
 refine ⟨by unfold room;omega,di [[aK l],[vI (n - 1)],(tyD n).enc,[.sl (eF l n).length 11 ((eF l n).flatMap PlanT.enc)],(tyS l n).enc,(kI l n).enc] ?_ ?_⟩
 ·by_cases hf : ek l = true
  ·rw [hf]
   simp only [pmr]
   refine ⟨by unfold okI;omega,ai (jf (by omega) (jw (by omega))) ?_⟩
   simp only [pmr]
   refine ai (vD _) ?_
   refine ⟨by unfold room;omega,?_⟩
   simp only [pmr]
   have e6 : (lf n).enc = [vI 3,vS nStep,.sl 2 5 ((tyD (n+2)).enc++((tyD (n+1)).enc++[])),.sl 2 1 [vS n_s,vS n_e],.sl 0 1 [],an (tyD (n+3)).kind,an (tyD (n+3)).df.shop,an (tyD (n+3)).df.seq,an (tyD (n+3)).df.index,.sl (tyD (n+3)).kids.length 5 ((tyD (n+3)).kids.flatMap Ty.enc),vI (n - 1)]:=by
    unfold lf
    rw [PlanT.fO]
    rfl
   have et : tyS l n = tyD (n+2):=by unfold tyS;rw [if_pos hf]
   have e5':=e5
   unfold kI at e5'
   rw [et,<-e5',<-e6,m5]
   unfold eF
   rw [if_pos hf]
   simp only [List.flatMap_append,List.flatMap_cons,List.flatMap_nil,List.append_nil]
   rfl
  ·rw [Bool.not_eq_true] at hf
   rw [hf]
   simp only [pmr]
   refine ai (atS hl (by decide)) ?_
   simp only [pmr]
   refine ai (vR hl (tyD n) (tyD (n+1)) (by decide) (by decide)) ?_
   refine ⟨by unfold room;omega,?_⟩
   simp only [pmr]
   have e6 : (pG l n).enc = [vI 2,vS n_g,.sl 1 5 ((tyD (n+1)).enc++[]),.sl 1 1 [vS n_e],.sl 0 1 [],an (bQ (atL l 17 6) (tyD n) (tyD (n+1))).kind,an (bQ (atL l 17 6) (tyD n) (tyD (n+1))).df.shop,an (bQ (atL l 17 6) (tyD n) (tyD (n+1))).df.seq,an (bQ (atL l 17 6) (tyD n) (tyD (n+1))).df.index,.sl (bQ (atL l 17 6) (tyD n) (tyD (n+1))).kids.length 5 ((bQ (atL l 17 6) (tyD n) (tyD (n+1))).kids.flatMap Ty.enc),vI (n - 1)]:=by
    unfold pG
    rw [PlanT.fO]
    rfl
   have e5':=e5
   unfold kI at e5'
   rw [<-e5',<-e6,m5]
   unfold eF
   rw [if_neg (by rw [hf];simp)]
   simp only [List.flatMap_append,List.flatMap_cons,List.flatMap_nil,List.append_nil]
   rfl
 simp only [pmr]
 refine ai (CO hl (by decide) (tyD n)) ?_
 simp only [pmr,aK]
 refine ai (atS hl (by decide)) ?_
 simp only [pmr]
 refine ai (vR hl (tyD n) (kI l n) (by decide) (by decide)) ?_
 refine ⟨by unfold room;omega,ai (atS hl (by decide)) ?_⟩
 simp only [pmr]
 have e7 : (pT l n).enc = [vI 4,vS n_t,.sl (wI l 18 (tyD n)).length 5 ((wI l 18 (tyD n)).flatMap Ty.enc),.sl 2 1 [vS n_a,vS n_b],.sl (CP l 18).length 1 ((CP l 18).map an),an (bQ (atL l 21 6) (tyD n) (kI l n)).kind,an (bQ (atL l 21 6) (tyD n) (kI l n)).df.shop,an (bQ (atL l 21 6) (tyD n) (kI l n)).df.seq,an (bQ (atL l 21 6) (tyD n) (kI l n)).df.index,.sl (bQ (atL l 21 6) (tyD n) (kI l n)).kids.length 5 ((bQ (atL l 21 6) (tyD n) (kI l n)).kids.flatMap Ty.enc),vI (n - 1)]:=by
  unfold pT
  rw [PlanT.fO]
  rfl
 have e8 : (pC l n).enc = [vI 5,vS n_c,.sl 1 5 ((tyS l n).enc++[]),.sl 1 1 [vS nOld],.sl 0 1 [],an (bQ (atL l 23 6) (tyD n) (tyS l n)).kind,an (bQ (atL l 23 6) (tyD n) (tyS l n)).df.shop,an (bQ (atL l 23 6) (tyD n) (tyS l n)).df.seq,an (bQ (atL l 23 6) (tyD n) (tyS l n)).df.index,.sl (bQ (atL l 23 6) (tyD n) (tyS l n)).kids.length 5 ((bQ (atL l 23 6) (tyD n) (tyS l n)).kids.flatMap Ty.enc),vI (n - 1)]:=by
  unfold pC
  rw [PlanT.fO]
  rfl
 rw [<-e7]
 unfold bp
 refine ⟨fun h=>ai (atS hl (by decide)) ?_,fun h=>?_⟩
 ·simp only [pmr]
  refine ai (vR hl (tyD n) (tyS l n) (by decide) (by decide)) ?_
  refine ⟨by unfold room;omega,?_⟩
  simp only [pmr]
  rw [if_pos h,<-e8]
  simp only [List.flatMap_append,List.flatMap_cons,List.flatMap_nil,List.append_nil,List.length_append,List.length_cons,List.length_nil]
 ·rw [if_neg h]
  simp only [List.flatMap_append,List.flatMap_cons,List.flatMap_nil,List.append_nil,List.length_append,List.length_cons,List.length_nil]
end
end Go.Proofs.YtanbipbiblikbaaDoor

namespace Xe
open Go
def TyS (l : List Int) (n : Int) (t : Ty) : Prop:=t = ty0\/t = tyL\/t = bF ty0\/t = tyD n\/t = tyD (n+1)\/(ek l = true/\t = tyD (n+2))
def mE (l : List Int) (n : Int) (t : Ty) : Prop:=t = ty0\/t = tyL\/t = bF ty0\/t = tyD n\/t = tyD (n+1)\/(ek l = true/\(t = tyD (n+2)\/t = tyD (n+3)))
theorem TyS.up {l : List Int} {n : Int} {t : Ty} (h : TyS l n t) : mE l n t:=by
 rcases h with h | h | h | h | h | ⟨h,k⟩
 ·exact .inl h
 ·exact .inr (.inl h)
 ·exact .inr (.inr (.inl h))
 ·exact .inr (.inr (.inr (.inl h)))
 ·exact .inr (.inr (.inr (.inr (.inl h))))
 ·exact .inr (.inr (.inr (.inr (.inr ⟨h,.inl k⟩))))
theorem uu (z : Int) (a b : Ty) : bQ z a b = ty0\/bQ z a b = tyL\/bQ z a b = bF ty0\/bQ z a b = a\/bQ z a b = b:=by
 unfold bQ
 have:=ig z 6 (by omega)
 obtain ⟨k,hk,hk6⟩ : ∃ k : Nat,around z 6 = k/\k < 6:=⟨(around z 6).toNat,by omega,by omega⟩
 rw [hk,Int.toNat_natCast]
 rcases k with _ | _ | _ | _ | _ | _ | k
 ·exact .inl rfl
 ·exact .inr (.inl rfl)
 ·exact .inr (.inr (.inl rfl))
 ·exact .inr (.inr (.inr (.inl rfl)))
 ·exact .inr (.inr (.inr (.inr rfl)))
 ·exact .inl rfl
 ·omega
theorem Cc {z : Int} (h : 0<=z/\z < 3) (a b : Ty) : bQ z a b = ty0\/bQ z a b = tyL\/bQ z a b = bF ty0:=by
 unfold bQ around
 rw [if_neg (by omega)]
 have : z = 0\/z = 1\/z = 2:=by omega
 rcases this with rfl | rfl | rfl
 ·exact .inl rfl
 ·exact .inr (.inl rfl)
 ·exact .inr (.inr rfl)
theorem gw {l : List Int} {n z : Int} {a b : Ty} (ha : TyS l n a) (hb : TyS l n b) : TyS l n (bQ z a b):=by
 rcases uu z a b with e | e | e | e | e <;> rw [e]
 ·exact .inl rfl
 ·exact .inr (.inl rfl)
 ·exact .inr (.inr (.inl rfl))
 ·exact ha
 ·exact hb
theorem rC {l : List Int} {n q m : Int} {T : Ty} (hT : TyS l n T) {k : Nat} : ∀ t∈fY l q m T k,TyS l n t:=fun t ht=>by
 obtain ⟨i,_,rfl⟩:=List.mem_map.1 ht
 exact gw hT hT
theorem TyS.ls {l : List Int} {n : Int} : TyS l n (bF Xe.ty0):=.inr (.inr (.inl rfl))
theorem TyS.p {l : List Int} {n : Int} : TyS l n (tyD n):=.inr (.inr (.inr (.inl rfl)))
theorem TyS.e {l : List Int} {n : Int} : TyS l n (tyD (n+1)):=.inr (.inr (.inr (.inr (.inl rfl))))
theorem TyS.s {l : List Int} {n : Int} : TyS l n (tyS l n):=by
 unfold tyS
 split
 ·rename_i h;exact .inr (.inr (.inr (.inr (.inr ⟨h,rfl⟩))))
 ·exact TyS.p
theorem mE.p {l : List Int} {n : Int} : mE l n (tyD n):=TyS.p.up
theorem mE.e {l : List Int} {n : Int} : mE l n (tyD (n+1)):=TyS.e.up
theorem inTs_in {l : List Int} {n i : Int} : ∀ t∈wI l i (tyD n),TyS l n t:=by
 intro t ht
 unfold wI at ht
 rcases List.mem_cons.1 ht with rfl | ht
 ·unfold inT inT2 inT1
  split
  ·exact TyS.p
  split
  ·exact TyS.ls
  split
  ·exact .inr (.inl rfl)
  ·exact .inl rfl
 ·unfold in2 in1 at ht
  split at ht
  ·rw [List.mem_singleton.1 ht];exact .inr (.inl rfl)
  split at ht
  ·rw [List.mem_singleton.1 ht];exact .inl rfl
  ·cases ht
structure PlanOk (l : List Int) (n : Int) (p : PlanT) : Prop where
 tys : ∀ t∈p.types,TyS l n t
 res : mE l n p.result
 mod : 0<=p.mod/\p.mod < n
 t1 : 1<=p.types.length
 t3 : p.types.length<=3
 names : p.types.length<=p.names.length
 bases : p.kind = 4->p.types.length = p.bases.length
 kind : 0<=p.kind/\p.kind<=5
theorem uI {l : List Int} {n : Int} (hn : 1<=n) : PlanOk l n (jX l n):=by
 have h:=cC l 2 3 (by omega)
 refine ⟨rC TyS.p,.inl rfl,⟨Int.le_refl _,hn⟩,?_,?_,?_,fun e=>by simp [jX] at e,by simp [jX]⟩
 all_goals simp only [jX,hY];first | omega | (show _<=3;omega)
theorem uJ {l : List Int} {n : Int} (hn : 1<=n) : PlanOk l n (lg l n):=by
 have h:=cC l 6 2 (by omega)
 refine ⟨fun t ht=>?_,.inl rfl,⟨Int.le_refl _,hn⟩,?_,?_,?_,fun e=>by simp [lg] at e,by simp [lg]⟩
 ·rcases List.mem_cons.1 ht with rfl | ht
  ·exact .inl rfl
  ·exact rC TyS.p t ht
 all_goals simp only [lg,hY,List.length_cons];first | omega | (show _<=3;omega)
theorem uH {l : List Int} {n : Int} (hn : 1<=n) : PlanOk l n (iG l n):=by
 have h:=cC l 9 3 (by omega)
 refine ⟨fun t ht=>?_,.inl rfl,⟨Int.le_refl _,hn⟩,?_,?_,?_,fun e=>by simp [iG] at e,by simp [iG]⟩
 ·rcases List.mem_cons.1 ht with rfl | ht
  ·exact .inl rfl
  ·exact rC TyS.p t ht
 all_goals simp only [iG,hY,List.length_cons];first | omega | (show _<=3;omega)
theorem Bg {l : List Int} {n : Int} (hn : 1<=n) (hf : ek l = true) : PlanOk l n (nA n):=by
 refine ⟨fun t ht=>?_,.inl rfl,⟨Int.le_refl _,hn⟩,by simp [nA],by simp [nA],by simp [nA],fun e=>by simp [nA] at e,by simp [nA]⟩
 simp only [nA,List.mem_cons,List.not_mem_nil,or_false] at ht
 rcases ht with rfl | rfl | rfl
 ·exact .inr (.inr (.inr (.inr (.inr ⟨hf,rfl⟩))))
 ·exact TyS.ls
 ·exact .inl rfl
theorem pF_ok {l : List Int} {n : Int} (hn : 1<=n) : PlanOk l n (pF l n):=by
 have h:=cC l 15 n hn
 refine ⟨fun t ht=>?_,(gw TyS.p TyS.p).up,h,?_,?_,?_,fun e=>by simp [pF] at e,by simp [pF]⟩
 ·simp only [pF,yF] at ht
  rcases List.mem_cons.1 ht with rfl | ht
  ·exact gw TyS.p TyS.e
  ·split at ht
   ·rw [List.mem_singleton.1 ht];exact gw TyS.p TyS.e
   ·cases ht
 all_goals simp only [pF,yF];split <;> simp
theorem DZ {l : List Int} {n : Int} (hn : 1<=n) (hf : ek l = true) : PlanOk l n (lf n):=by
 refine ⟨fun t ht=>?_,.inr (.inr (.inr (.inr (.inr ⟨hf,.inr rfl⟩)))),⟨show 0<=n - 1 by omega,show n - 1 < n by omega⟩,by simp [lf],by simp [lf],by simp [lf],fun e=>by simp [lf] at e,by simp [lf]⟩
 simp only [lf,List.mem_cons,List.not_mem_nil,or_false] at ht
 rcases ht with rfl | rfl
 ·exact .inr (.inr (.inr (.inr (.inr ⟨hf,rfl⟩))))
 ·exact TyS.e
theorem pG_ok {l : List Int} {n : Int} (hn : 1<=n) : PlanOk l n (pG l n):=by
 refine ⟨fun t ht=>?_,(gw TyS.p TyS.e).up,⟨show 0<=n - 1 by omega,show n - 1 < n by omega⟩,by show 1<=[_].length;simp,by show [_].length<=3;simp,by show [_].length<=[_].length;simp,fun e=>absurd e (show ¬ (2 : Int) = 4 by decide),show (0 : Int)<=2/\(2 : Int)<=5 by decide⟩
 simp only [pG,List.mem_cons,List.not_mem_nil,or_false] at ht
 rw [ht];exact TyS.e
theorem pT_ok {l : List Int} {n : Int} (hn : 1<=n) : PlanOk l n (pT l n):=by
 have h1:=in2_len (atL l (18+2) 3)
 have h2:=E5 (atL l (18+2) 3)
 refine ⟨inTs_in,(gw TyS.p (gw TyS.p TyS.p)).up,⟨show 0<=n - 1 by omega,show n - 1 < n by omega⟩,?_,?_,?_,fun _=>?_,show (0 : Int)<=4/\(4 : Int)<=5 by decide⟩
 all_goals simp only [pT,wI,CP,List.length_cons,List.length_nil];omega
theorem pC_ok {l : List Int} {n : Int} (hn : 1<=n) : PlanOk l n (pC l n):=by
 refine ⟨fun t ht=>?_,(gw TyS.p TyS.s).up,⟨show 0<=n - 1 by omega,show n - 1 < n by omega⟩,by show 1<=[_].length;simp,by show [_].length<=3;simp,by show [_].length<=[_].length;simp,fun e=>absurd e (show ¬ (5 : Int) = 4 by decide),show (0 : Int)<=5/\(5 : Int)<=5 by decide⟩
 simp only [pC,List.mem_cons,List.not_mem_nil,or_false] at ht
 rw [ht];exact TyS.s
theorem kY {l : List Int} {n : Int} (hn : 1<=n) : ∀ p∈bp l n,PlanOk l n p:=by
 intro p hp
 simp only [bp,eF,eG,jW,List.mem_append,List.mem_cons,List.not_mem_nil,or_false] at hp
 rcases hp with ((((hp | hp) | hp) | hp) | hp) | hp
 ·rcases hp with rfl | rfl
  ·exact uI hn
  ·exact uJ hn
 ·split at hp
  ·rename_i hf
   simp only [List.mem_cons,List.not_mem_nil,or_false] at hp
   rcases hp with rfl | rfl
   ·exact uH hn
   ·exact Bg hn hf
  ·cases hp
 ·rw [hp];exact pF_ok hn
 ·rw [hp]
  split
  ·rename_i hf;exact DZ hn hf
  ·exact pG_ok hn
 ·rw [hp];exact pT_ok hn
 ·split at hp
  ·rw [List.mem_singleton.1 hp];exact pC_ok hn
  ·cases hp
theorem gh (l : List Int) (n : Int) : 5<=(bp l n).length/\(bp l n).length<=8:=by
 unfold bp eF eG jW
 split <;> split <;> simp
theorem pq {a b : Int} (ha : 0<=a) (hb : 0<=b) (h : a ≠ b) : idK a ≠ idK b:=fun e=>by
 unfold idK at e
 simp only [IdT.mk.injEq] at e
 have h1 : a.tdiv 32 = a / 32:=Int.tdiv_eq_ediv_of_nonneg ha
 have h2 : b.tdiv 32 = b / 32:=Int.tdiv_eq_ediv_of_nonneg hb
 have h3 : a.tmod 32 = a % 32:=Int.tmod_eq_emod_of_nonneg ha
 have h4 : b.tmod 32 = b % 32:=Int.tmod_eq_emod_of_nonneg hb
 omega
def dF (ps : List PlanT) : Nat:=(ps.map fun p=>p.types.length).sum
theorem mc (p : PlanT) (ps : List PlanT) : dF (p::ps) = p.types.length+dF ps:=by simp [dF]
theorem qf (a b : List PlanT) : dF (a++b) = dF a+dF b:=by simp [dF]
theorem jY : ∀ (a b : List PlanT) (i next : Int),aP (a++b) i next = aP a i next++aP b (i+a.length) (next+dF a)
 | [],b,i,next=>by simp [aP,dF]
 | p::a,b,i,next=>by
  rw [List.cons_append,aP,aP,jY a b,List.cons_append,mc,List.length_cons]
  rw [show i+1+(a.length : Int) = i+((a.length+1 : Nat) : Int) by omega,show next+(p.types.length : Int)+(dF a : Int) = next+((p.types.length+dF a : Nat) : Int) by omega]
theorem cV (ps : List PlanT) (i next : Int) {j : Nat} (hj : j < ps.length) (hj' : j < (aP ps i next).length) : (aP ps i next)[j] = gV ps[j] (i+j) (next+dF (ps.take j)):=by
 have e : ps = ps.take j++ps[j]::ps.drop (j+1):=by rw [<-List.drop_eq_getElem_cons hj,List.take_append_drop]
 have hl : (aP (ps.take j) i next).length = j:=by rw [cx,List.length_take];omega
 have h1 : aP ps i next = aP (ps.take j) i next++aP (ps[j]::ps.drop (j+1)) (i+j) (next+dF (ps.take j)):=by
  conv=>lhs;rw [e]
  rw [jY,List.length_take,Nat.min_eq_left (by omega)]
 have : (aP ps i next)[j]? = some (gV ps[j] (i+j) (next+dF (ps.take j))):=by
  rw [h1,List.getElem?_append_right (by omega),hl,Nat.sub_self,aP]
  rfl
 rw [List.getElem?_eq_getElem hj'] at this
 exact Option.some.inj this
theorem Cv (p : PlanT) (next : Int) : (dz p next).map SlotT.ty = p.types:=by
 unfold dz
 rw [List.map_map]
 apply List.ext_getElem
 ·simp
 ·intro i h1 h2
  simp [List.getD_eq_getElem?_getD,List.getElem?_eq_getElem h2]
theorem bX (p : PlanT) (next : Int) : (dz p next).length = p.types.length:=by simp [dz]
theorem eI {p : PlanT} {next : Int} {s : SlotT} (h : s∈dz p next) : s.ty∈p.types:=by
 rw [<-Cv p next]
 exact List.mem_map_of_mem h
def DefT.setBody (d : DefT) (e : Ex) : DefT:=⟨d.id,d.kind,d.mod,d.name,d.slots,d.result,e,d.place,d.layout⟩
def DefT.sh (d : DefT) : DefT:=d.setBody ex0
theorem cL {a b : DefT} (h : a.sh = b.sh) : a.id = b.id/\a.kind = b.kind/\a.mod = b.mod/\a.name = b.name/\a.slots = b.slots/\a.result = b.result/\a.place = b.place/\a.layout = b.layout:=by
 unfold DefT.sh DefT.setBody at h
 simp only [DefT.mk.injEq] at h
 exact ⟨h.1,h.2.1,h.2.2.1,h.2.2.2.1,h.2.2.2.2.1,h.2.2.2.2.2.1,h.2.2.2.2.2.2.2.1,h.2.2.2.2.2.2.2.2⟩
def dG (a b : List DefT) : Prop:=a.map DefT.sh = b.map DefT.sh
theorem dG.refl (a : List DefT) : dG a a:=rfl
theorem dG.len {a b : List DefT} (h : dG a b) : a.length = b.length:=by have:=congrArg List.length h;simpa using this
theorem dG.get {a b : List DefT} (h : dG a b) {k : Nat} (ha : k < a.length) (hb : k < b.length) : a[k].sh = b[k].sh:=by
 have : (a.map DefT.sh)[k]? = (b.map DefT.sh)[k]?:=by rw [h]
 simpa [List.getElem?_eq_getElem ha,List.getElem?_eq_getElem hb] using this
theorem dG.set {a b : List DefT} (h : dG a b) {k : Nat} (ha : k < a.length) (e : Ex) : dG (a.set k (a[k].setBody e)) b:=by
 unfold dG at *
 rw [<-h]
 apply List.ext_getElem
 ·simp
 ·intro i h1 h2
  simp only [List.getElem_map,List.getElem_set]
  split
  ·rename_i he;subst he;rfl
  ·rfl
theorem dG.the {ms ns : List ModT} {a b : List DefT} (h : dG a b) (i : IdT) : (aj ⟨ms,a⟩ i).sh = (aj ⟨ns,b⟩ i).sh:=by
 unfold aj
 dsimp only
 induction a generalizing b with
 | nil =>
  cases b with
  | nil=>rfl
  | cons y b=>have:=h.len;simp at this
 | cons x a ih =>
  cases b with
  | nil=>have:=h.len;simp at this
  | cons y b =>
   unfold dG at h
   simp only [List.map_cons,List.cons.injEq] at h
   have hid:=(cL h.1).1
   rw [List.find?_cons,List.find?_cons,hid]
   cases decide (y.id = i) with
   | true=>exact h.1
   | false=>exact ih h.2
theorem dG.mem {a b : List DefT} (h : dG a b) {d : DefT} (hd : d∈a) : ∃ e∈b,d.sh = e.sh:=by
 obtain ⟨k,hk,rfl⟩:=List.mem_iff_getElem.1 hd
 have hk' : k < b.length:=by rw [<-h.len];exact hk
 exact ⟨_,List.getElem_mem hk',h.get hk hk'⟩
theorem dG.wf {ms ns : List ModT} {a b : List DefT} (h : dG a b) : ∀ (n : Nat) (t : Ty),wfT ⟨ns,b⟩ n t->wfT ⟨ms,a⟩ n t
 | 0,_,w=>w
 | n+1,t,w=>by
  have hp:=cL (h.the (ms:=ms) (ns:=ns) t.df)
  rw [wfT] at w ⊢
  rcases w with w | w | w | w
  ·exact .inl w
  ·exact .inr (.inl w)
  ·exact .inr (.inr (.inl ⟨w.1,w.2.1,h.wf n _ w.2.2⟩))
  ·refine .inr (.inr (.inr ⟨w.1,w.2.1,w.2.2.1,?_,?_,?_⟩))
   ·rw [hp.2.2.2.2.1];exact w.2.2.2.1
   ·rw [hp.2.2.2.2.1,hp.2.1];exact w.2.2.2.2.1
   ·rw [hp.2.2.2.2.1];exact fun s hs=>h.wf n _ (w.2.2.2.2.2 s hs)
structure Base (p : ProgT) (R : Nat) : Prop where
 gen : GenOk p R
 resA : ∀ d∈p.defs,wfT p R d.result
 sty : ∀ d∈p.defs,∀ x∈d.slots,x.ty.size<=1000
 rty : ∀ d∈p.defs,d.result.size<=1000
 e0 : ∀ d∈p.defs,0 < d.slots.length
 d0 : 0 < p.defs.length
 d1 : p.defs.length<=100
theorem Base.like {ms : List ModT} {a b : List DefT} {R : Nat} (hb : Base ⟨ms,b⟩ R) (h : dG a b) : Base ⟨ms,a⟩ R:=by
 have get : ∀ d∈a,∃ e∈b,d.id = e.id/\d.kind = e.kind/\d.slots = e.slots/\d.result = e.result:=fun d hd=>by
  obtain ⟨e,he,hs⟩:=h.mem hd
  have:=cL hs
  exact ⟨e,he,this.1,this.2.1,this.2.2.2.2.1,this.2.2.2.2.2.1⟩
 refine ⟨⟨fun d hd=>?_,fun d hd hk=>?_,fun d hd s hs=>?_,fun d hd hk=>?_,fun d hd hk=>?_,hb.gen.R2⟩,fun d hd=>?_,fun d hd x hx=>?_,fun d hd=>?_,fun d hd=>?_,by rw [h.len];exact hb.d0,by rw [h.len];exact hb.d1⟩
 all_goals obtain ⟨e,he,h1,h2,h3,h4⟩:=get d hd
 ·rw [h3];exact hb.gen.short e he
 ·rw [h3];exact hb.gen.kase e he (by rw [<-h2];exact hk)
 ·rw [h3] at hs;exact h.wf _ _ (hb.gen.slot e he s hs)
 ·rw [h4];exact h.wf _ _ (hb.gen.res e he (by rw [<-h2];exact hk))
 ·rw [h1];exact h.wf _ _ (hb.gen.own e he (by rw [<-h2];exact hk))
 ·rw [h4];exact h.wf _ _ (hb.resA e he)
 ·rw [h3] at hx;exact hb.sty e he x hx
 ·rw [h4];exact hb.rty e he
 ·rw [h3];exact hb.e0 e he
def qj : ByteArray:=⟨#[99,111,114,101]⟩
def Bl : ByteArray:=⟨#[109,105,108,108]⟩
def bI (m : Int) : List PlanT->Int->List IdT
 | [],_=>[]
 | p::ps,i=>(if p.mod = m then [idK i] else [])++bI m ps (i+1)
theorem mN (m : Int) : ∀ (a b : List PlanT) (i : Int),bI m (a++b) i = bI m a i++bI m b (i+a.length)
 | [],b,i=>by simp [bI]
 | p::a,b,i=>by rw [List.cons_append,bI,bI,mN m a b,List.length_cons,List.append_assoc,show i+1+(a.length : Int) = i+((a.length+1 : Nat) : Int) by omega]
def dH (l : List Int) : List ModT :=
 if ax l = 1 then [⟨idK 0,qj,[],bI 0 (bp l 1) 1⟩] else [⟨idK 0,qj,[],bI 0 (bp l 2) 2⟩,⟨idK 1,Bl,[idK 0],bI 1 (bp l 2) 2⟩]
def gA (l : List Int) : List PlanT:=bp l (ax l)
def aU (l : List Int) : List DefT:=aP (gA l) (ax l) (ax l+(gA l).length)
def iH (l : List Int) : Int:=ax l+(gA l).length+dF (gA l)
theorem jv (l : List Int) : ax l = 1\/ax l = 2:=by
 have:=cC l 0 2 (by omega)
 unfold ax
 omega
section
variable {l : List Int} {n : Int}
theorem Co {j : Nat} (hj : j < (bp l n).length) (h : (bp l n)[j].kind = 0\/(bp l n)[j].kind = 1) : j < 2\/(ek l = true/\j < 4):=by
 have e : (bp l n)[j]? = some (bp l n)[j]:=List.getElem?_eq_getElem hj
 generalize (bp l n)[j] = p at h e
 unfold bp eF eG jW at e
 by_cases hf : ek l = true
 ·rw [if_pos hf,if_pos hf] at e
  rcases j with _ | _ | _ | _ | j
  ·exact .inl (by omega)
  ·exact .inl (by omega)
  ·exact .inr ⟨hf,by omega⟩
  ·exact .inr ⟨hf,by omega⟩
  ·exfalso
   simp only [List.cons_append,List.nil_append,List.getElem?_cons_succ] at e
   rcases j with _ | _ | _ | j
   ·simp only [List.getElem?_cons_zero,Option.some.injEq] at e;subst e;simp [pF] at h
   ·simp only [List.getElem?_cons_succ,List.getElem?_cons_zero,Option.some.injEq] at e;subst e;simp [lf] at h
   ·simp only [List.getElem?_cons_succ,List.getElem?_cons_zero,Option.some.injEq] at e;subst e;simp [pT] at h
   ·simp only [List.getElem?_cons_succ] at e
    split at e
    ·rcases j with _ | j
     ·simp only [List.getElem?_cons_zero,Option.some.injEq] at e;subst e;simp [pC] at h
     ·simp at e
    ·simp at e
 ·rw [if_neg hf,if_neg hf] at e
  rcases j with _ | _ | j
  ·exact .inl (by omega)
  ·exact .inl (by omega)
  ·exfalso
   simp only [List.cons_append,List.nil_append,List.append_nil,List.getElem?_cons_succ] at e
   rcases j with _ | _ | _ | j
   ·simp only [List.getElem?_cons_zero,Option.some.injEq] at e;subst e;simp [pF] at h
   ·simp only [List.getElem?_cons_succ,List.getElem?_cons_zero,Option.some.injEq] at e;subst e;simp [pG] at h
   ·simp only [List.getElem?_cons_succ,List.getElem?_cons_zero,Option.some.injEq] at e;subst e;simp [pT] at h
   ·simp only [List.getElem?_cons_succ] at e
    split at e
    ·rcases j with _ | j
     ·simp only [List.getElem?_cons_zero,Option.some.injEq] at e;subst e;simp [pC] at h
     ·simp at e
    ·simp at e
theorem nU {ms : List ModT} (hn : 0<=n) {ps : List PlanT} {next : Int} {j : Nat} (hj : j < ps.length) : cT ⟨ms,aP ps n next⟩ (idK (n+j))/\aj ⟨ms,aP ps n next⟩ (idK (n+j)) = gV ps[j] (n+j) (next+dF (ps.take j)):=by
 have hl:=cx ps n next
 have h:=gd (p:=⟨ms,aP ps n next⟩) (id:=idK (n+j)) (k:=j) (by rw [hl];exact hj) (fun i hi hlt=>by
  rw [cV ps n next (by rw [hl] at hi;exact hi) hi]
  exact pq (by omega) (by omega) (by omega)) (by rw [cV ps n next hj (by rw [hl];exact hj)];rfl)
 rwa [cV ps n next hj (by rw [hl];exact hj)] at h
theorem AL {p : ProgT} {k : Nat} {i : IdT} {d : DefT} (h : aj p i = d) (h3 : d.slots.length<=3) (h1 : 0 < d.slots.length) (hs : ∀ s∈d.slots,wfT p k s.ty) : wfT p (k+1) (ofT i):=by
 rw [wfT]
 refine .inr (.inr (.inr ⟨show (3 : Int) ≠ 0 by decide,show (3 : Int) ≠ 1 by decide,show (3 : Int) ≠ 2 by decide,?_⟩))
 rw [show (ofT i).df = i from rfl,h]
 exact ⟨h3,fun _=>h1,hs⟩
theorem wf_s {p : ProgT} {k : Nat} {t : Ty} (h : t = ty0\/t = tyL\/t = bF ty0) : wfT p (k+2) t:=by
 rcases h with rfl | rfl | rfl
 ·rw [wfT];exact .inl rfl
 ·rw [wfT];exact .inr (.inl rfl)
 ·exact kO (by omega)
end
theorem mE.size {l : List Int} {n : Int} {t : Ty} (h : mE l n t) : t.size<=1000:=by
 rcases h with rfl | rfl | rfl | rfl | rfl | ⟨_,rfl | rfl⟩ <;> first | decide | simp [ofT,Ty.size,Ty.sizes]
theorem F0 (l : List Int) : Base ⟨dH l,aU l⟩ 5/\∀ d∈aU l,∀ s∈d.slots,wfT ⟨dH l,aU l⟩ 4 s.ty:=by
 have hn : 1<=ax l:=by rcases jv l with h | h <;> omega
 unfold aU
 generalize hps : gA l = ps
 have hok : ∀ p∈ps,PlanOk l (ax l) p:=by rw [<-hps];exact kY hn
 have hlen:=gh l (ax l)
 unfold gA at hps
 rw [hps] at hlen
 generalize hnx : ax l+(ps.length : Int) = next
 generalize dH l = ms
 have hdl:=cx ps (ax l) next
 -- the types of definitions
 have point : wfT ⟨ms,aP ps (ax l) next⟩ 3 (tyD (ax l)):=by
  have h0 : 0 < ps.length:=by omega
  have e:=(nU (ms:=ms) (n:=ax l) (by omega) (next:=next) h0).2
  have ep : ps[0] = jX l (ax l):=by subst hps;rfl
  rw [ep,show ax l+((0 : Nat) : Int) = ax l by omega] at e
  have ok:=uI (l:=l) (n:=ax l) hn
  refine AL e (by rw [gV,bX];exact ok.t3) (by rw [gV,bX];exact ok.t1) fun s hs=>?_
  obtain ⟨i,_,hi⟩:=List.mem_map.1 (show s.ty∈fY l 3 3 (tyD (ax l)) _ from eI hs)
  rw [<-hi]
  exact wf_s (Cc (cC l _ 3 (by omega)) _ _)
 have mid : ∀ t,(t = ty0\/t = tyL\/t = bF ty0\/t = tyD (ax l))->wfT ⟨ms,aP ps (ax l) next⟩ 3 t:=fun t h=>by
  rcases h with h | h | h | h
  ·exact wf_s (.inl h)
  ·exact wf_s (.inr (.inl h))
  ·exact wf_s (.inr (.inr h))
  ·rw [h];exact point
 have mids : ∀ q m k,∀ t∈ty0::fY l q m (tyD (ax l)) k,wfT ⟨ms,aP ps (ax l) next⟩ 3 t:=fun q m k t ht=>by
  rcases List.mem_cons.1 ht with rfl | ht
  ·exact mid _ (.inl rfl)
  ·obtain ⟨i,_,hi⟩:=List.mem_map.1 ht
   rw [<-hi]
   refine mid _ ?_
   rcases uu (atL l (q+(i : Int)) m) (tyD (ax l)) (tyD (ax l)) with h | h | h | h | h
   ·exact .inl h
   ·exact .inr (.inl h)
   ·exact .inr (.inr (.inl h))
   ·exact .inr (.inr (.inr h))
   ·exact .inr (.inr (.inr h))
 have event : wfT ⟨ms,aP ps (ax l) next⟩ 4 (tyD (ax l+1)):=by
  have h0 : 1 < ps.length:=by omega
  have e:=(nU (ms:=ms) (n:=ax l) (by omega) (next:=next) h0).2
  have ep : ps[1] = lg l (ax l):=by subst hps;rfl
  rw [ep,show ax l+((1 : Nat) : Int) = ax l+1 by omega] at e
  have ok:=uJ (l:=l) (n:=ax l) hn
  exact AL e (by rw [gV,bX];exact ok.t3) (by rw [gV,bX];exact ok.t1) fun s hs=>mids _ _ _ _ (eI hs)
 have five : ek l = true->wfT ⟨ms,aP ps (ax l) next⟩ 4 (tyD (ax l+2))/\wfT ⟨ms,aP ps (ax l) next⟩ 5 (tyD (ax l+3)):=fun hf=>by
  have h2 : 2 < ps.length:=by omega
  have h3 : 3 < ps.length:=by omega
  have e2:=(nU (ms:=ms) (n:=ax l) (by omega) (next:=next) h2).2
  have e3:=(nU (ms:=ms) (n:=ax l) (by omega) (next:=next) h3).2
  have ep2 : ps[2] = iG l (ax l):=by
   have : ps[2]? = some (iG l (ax l)):=by rw [<-hps];unfold bp eF eG;rw [if_pos hf];rfl
   rw [List.getElem?_eq_getElem h2] at this
   exact Option.some.inj this
  have ep3 : ps[3] = nA (ax l):=by
   have : ps[3]? = some (nA (ax l)):=by rw [<-hps];unfold bp eF eG;rw [if_pos hf];rfl
   rw [List.getElem?_eq_getElem h3] at this
   exact Option.some.inj this
  rw [ep2,show ax l+((2 : Nat) : Int) = ax l+2 by omega] at e2
  rw [ep3,show ax l+((3 : Nat) : Int) = ax l+3 by omega] at e3
  have ok2:=uH (l:=l) (n:=ax l) hn
  have ok3:=Bg (l:=l) (n:=ax l) hn hf
  have state:=AL e2 (by rw [gV,bX];exact ok2.t3) (by rw [gV,bX];exact ok2.t1) fun s hs=>mids _ _ _ _ (eI hs)
  refine ⟨state,AL e3 (by rw [gV,bX];exact ok3.t3) (by rw [gV,bX];exact ok3.t1) fun s hs=>?_⟩
  have:=eI hs
  simp only [nA,List.mem_cons,List.not_mem_nil,or_false] at this
  rcases this with h | h | h <;> rw [h]
  ·exact state
  ·exact bE (by omega) (mid _ (.inr (.inr (.inl rfl))))
  ·exact bE (by omega) (mid _ (.inl rfl))
 have all : ∀ t,mE l (ax l) t->wfT ⟨ms,aP ps (ax l) next⟩ 5 t:=fun t h=>by
  rcases h with h | h | h | h | h | ⟨hf,h | h⟩
  ·exact bE (by omega) (mid _ (.inl h))
  ·exact bE (by omega) (mid _ (.inr (.inl h)))
  ·exact bE (by omega) (mid _ (.inr (.inr (.inl h))))
  ·rw [h];exact bE (by omega) point
  ·rw [h];exact bE (by omega) event
  ·rw [h];exact bE (by omega) (five hf).1
  ·rw [h];exact (five hf).2
 have four : ∀ t,TyS l (ax l) t->wfT ⟨ms,aP ps (ax l) next⟩ 4 t:=fun t h=>by
  rcases h with h | h | h | h | h | ⟨hf,h⟩
  ·exact bE (by omega) (mid _ (.inl h))
  ·exact bE (by omega) (mid _ (.inr (.inl h)))
  ·exact bE (by omega) (mid _ (.inr (.inr (.inl h))))
  ·rw [h];exact bE (by omega) point
  ·rw [h];exact event
  ·rw [h];exact (five hf).1
 have get : ∀ d∈aP ps (ax l) next,∃ j,∃ hj : j < ps.length,d = gV ps[j] (ax l+j) (next+dF (ps.take j)):=fun d hd=>by
  obtain ⟨j,hj,rfl⟩:=List.mem_iff_getElem.1 hd
  exact ⟨j,by rw [hdl] at hj;exact hj,cV ps _ _ _ _⟩
 refine ⟨⟨⟨fun d hd=>?_,fun d hd hk=>?_,fun d hd s hs=>?_,fun d hd hk=>?_,fun d hd hk=>?_,by omega⟩,fun d hd=>?_,fun d hd x hx=>?_,fun d hd=>?_,fun d hd=>?_,by show 0 < (aP ps (ax l) next).length;omega,by show (aP ps (ax l) next).length<=100;omega⟩,fun d hd s hs=>?_⟩
 all_goals obtain ⟨j,hj,rfl⟩:=get d hd
 all_goals have ok:=hok _ (List.getElem_mem hj)
 ·rw [gV,bX];exact ok.t3
 ·rw [gV,bX];exact ok.t1
 ·exact all _ (ok.tys _ (eI hs)).up
 ·exact all _ ok.res
 ·refine all _ ?_
  have hk' : ps[j].kind = 0\/ps[j].kind = 1:=hk
  subst hps
  rcases Co hj hk' with h | ⟨hf,h⟩
  ·rcases j with _ | _ | j
   ·show mE l (ax l) (tyD (ax l+((0 : Nat) : Int)));rw [show ax l+((0 : Nat) : Int) = ax l by omega];exact mE.p
   ·exact mE.e
   ·omega
  ·rcases j with _ | _ | _ | _ | j
   ·show mE l (ax l) (tyD (ax l+((0 : Nat) : Int)));rw [show ax l+((0 : Nat) : Int) = ax l by omega];exact mE.p
   ·exact mE.e
   ·exact .inr (.inr (.inr (.inr (.inr ⟨hf,.inl rfl⟩))))
   ·exact .inr (.inr (.inr (.inr (.inr ⟨hf,.inr rfl⟩))))
   ·omega
 ·exact all _ ok.res
 ·exact (ok.tys _ (eI hx)).up.size
 ·exact ok.res.size
 ·rw [gV,bX];exact ok.t1
 ·exact four _ (ok.tys _ (eI hs))
theorem F2 (l : List Int) : Base ⟨dH l,aU l⟩ 5:=(F0 l).1
def cM (k n : Int) (kids : List Ex) (T : Int) : Ex:=.mk ⟨0,0,T⟩ k n id0 ty0 kids []
def opTy (n : Int) (u t : Ty) : Prop:=(0<=n/\n<=4/\u = ty0/\t = ty0)\/(n = 5/\u = ty0/\t = tyL)\/(n = 6/\t = tyL)\/((n = 7\/n = 8)/\u = tyL/\t = tyL)\/(n = 10/\u = bF ty0/\t = bF ty0)
inductive Mk (c : MkC) : Ty->List Bnd->Int->Ex->Int->Prop
 | int {env : List Bnd} {T n : Int} : -1099511627776<=n/\n<=1099511627776->Mk c ty0 env T (cM 0 n [] T) (T+1)
 | bool {env : List Bnd} {T n : Int} : 0<=n/\n<=1->Mk c tyL env T (cM 1 n [] T) (T+1)
 | var {env : List Bnd} {T : Int} {b : Bnd} : b∈env->Mk c b.ty env T ((cM 2 b.n [] T).setRef b.id) (T+1)
 | list {env : List Bnd} {T : Int} {kids : List Ex} (Ts : Nat->Int) (hl : kids.length<=2) : Ts 0 = T->(∀ i (h : i < kids.length),Mk c ty0 env (Ts i) kids[i] (Ts (i+1)))->Mk c (bF ty0) env T ((cM 11 0 kids (Ts kids.length)).DJ ty0) (Ts kids.length+1)
 | kase {env : List Bnd} {T T1 : Int} {d : DefT} {k : Nat} {e : Ex} (hd : d∈c.p.defs) (hk : d.kind = 1) (h : k < d.slots.length) : Mk c d.slots[k].ty env T e T1->Mk c (ofT d.id) env T ((cM 9 k [e] T1).setRef d.id) (T1+1)
 | recd {env : List Bnd} {T : Int} {d : DefT} {kids : List Ex} (hd : d∈c.p.defs) (hk : d.kind = 0) (Ts : Nat->Int) (hl : kids.length = d.slots.length) : Ts 0 = T->(∀ i (h : i < kids.length),Mk c (d.slots[i]'(by omega)).ty env (Ts i) kids[i] (Ts (i+1)))->Mk c (ofT d.id) env T ((cM 7 0 kids (Ts kids.length)).setRef d.id) (Ts kids.length+1)
 | len {env : List Bnd} {T T1 : Int} {a : Ex} : Mk c (bF ty0) env T a T1->Mk c ty0 env T (cM 4 11 [a] T1) (T1+1)
 | not {env : List Bnd} {T T1 : Int} {a : Ex} : Mk c tyL env T a T1->Mk c tyL env T (cM 4 9 [a] T1) (T1+1)
 | both {t u : Ty} {env : List Bnd} {T T1 T2 n : Int} {a b : Ex} : opTy n u t->Mk c u env T a T1->Mk c u env T1 b T2->Mk c t env T (cM 4 n [a,b] T2) (T2+1)
 | ife {t : Ty} {env : List Bnd} {T T1 T2 T3 : Int} {a b e : Ex} : Mk c tyL env T a T1->Mk c t env T1 b T2->Mk c t env T2 e T3->Mk c t env T (cM 5 0 [a,b,e] T3) (T3+1)
 | lete {t u : Ty} {env : List Bnd} {T T1 T2 : Int} {a b : Ex} {m : ByteArray} : Mk c u env T a T1->Mk c t (env++[⟨⟨0,0,T1⟩,0,u⟩]) (T1+1) b T2->Mk c t env T ((cM 6 0 [] T1).cQ [a,b] [m]) T2
 | fold {t : Ty} {env : List Bnd} {T T1 T2 T3 : Int} {a b e : Ex} {m m2 : ByteArray} : Mk c (bF ty0) env T a T1->Mk c t env T1 b T2->Mk c t (env++[⟨⟨0,0,T2⟩,0,ty0⟩]++[⟨⟨0,0,T2⟩,1,t⟩]) (T2+1) e T3->Mk c t env T ((cM 12 0 [] T2).cQ [a,b,e] [m,m2]) T3
 | mat {t : Ty} {env : List Bnd} {T T1 : Int} {d : DefT} {a : Ex} {kids : List Ex} {ms : List ByteArray} (hd : d∈c.p.defs) (hk : d.kind = 1) (Ts : Nat->Int) (hl : kids.length = d.slots.length) (hm : ms.length = d.slots.length) : Mk c (ofT d.id) env T a T1->Ts 0 = T1+1 ->
   (∀ i (h : i < kids.length),Mk c t (env++[⟨⟨0,0,T1⟩,i,(d.slots[i]'(by omega)).ty⟩]) (Ts i) kids[i] (Ts (i+1)))->Mk c t env T (((cM 10 0 [] T1).setRef d.id).cQ (a::kids) ms) (Ts kids.length)
 | field {env : List Bnd} {T T1 : Int} {d : DefT} {j : Nat} {a : Ex} (hd : d∈c.p.defs) (hk : d.kind = 0) (h : j < d.slots.length) : Mk c (ofT d.id) env T a T1->Mk c d.slots[j].ty env T ((cM 8 j [a] T1).setRef d.id) (T1+1)
 | call {env : List Bnd} {T : Int} {k : Nat} {kids : List Ex} (hd : k < c.p.defs.length) (hk : c.p.defs[k].kind = 2) (hv : iR c k) (Ts : Nat->Int) (hl : kids.length = c.p.defs[k].slots.length) : Ts 0 = T->(∀ i (h : i < kids.length),Mk c (c.p.defs[k].slots[i]'(by omega)).ty env (Ts i) kids[i] (Ts (i+1))) ->
   Mk c c.p.defs[k].result env T ((cM 3 0 kids (Ts kids.length)).setRef c.p.defs[k].id) (Ts kids.length+1)
def gTy (p : ProgT) (t : Ty) : Prop:=t = ty0\/t = tyL\/t = bF ty0\/∃ d∈p.defs,(d.kind = 0\/d.kind = 1)/\t = ofT d.id
structure GCtx (c : MkC) (R : Nat) : Prop where
 gen : GenOk c.p R
 d0 : 0 < c.p.defs.length
 the : ∀ d∈c.p.defs,aj c.p d.id = d
 gs : ∀ d∈c.p.defs,∀ s∈d.slots,gTy c.p s.ty
 gr : ∀ d∈c.p.defs,gTy c.p d.result
def GMk (c : MkC) (R n : Nat) (g : GX) : Prop:=∀ (t : Ty) (env : List Bnd) (depth : Int) (s : MkS),0 < env.length->(∀ b∈env,wfT c.p R b.ty/\gTy c.p b.ty)->okT c.p R n t depth->gTy c.p t->Mk c t env s.temp (g t env depth s).1 (g t env depth s).2.temp
theorem gTy0 {p : ProgT} {t : Ty} (h : gTy p t) (hk : t.kind = 0) : t = ty0:=by
 rcases h with h | h | h | ⟨d,_,_,h⟩ <;> rw [h] at hk ⊢
 all_goals exact absurd hk (show ¬ (_ : Int) = 0 by first | exact (show ¬ (1 : Int) = 0 by decide) | exact (show ¬ (2 : Int) = 0 by decide) | exact (show ¬ (3 : Int) = 0 by decide))
theorem gTy1 {p : ProgT} {t : Ty} (h : gTy p t) (hk : t.kind = 1) : t = tyL:=by
 rcases h with h | h | h | ⟨d,_,_,h⟩ <;> rw [h] at hk ⊢
 ·exact absurd hk (show ¬ (0 : Int) = 1 by decide)
 ·exact absurd hk (show ¬ (2 : Int) = 1 by decide)
 ·exact absurd hk (show ¬ (3 : Int) = 1 by decide)
theorem gTy2 {p : ProgT} {t : Ty} (h : gTy p t) (hk : t.kind = 2) : t = bF ty0:=by
 rcases h with h | h | h | ⟨d,_,_,h⟩ <;> rw [h] at hk ⊢
 ·exact absurd hk (show ¬ (0 : Int) = 2 by decide)
 ·exact absurd hk (show ¬ (1 : Int) = 2 by decide)
 ·exact absurd hk (show ¬ (3 : Int) = 2 by decide)
theorem gTy3 {p : ProgT} {t : Ty} (h : gTy p t) (h0 : ¬ t.kind = 0) (h1 : ¬ t.kind = 1) (h2 : ¬ t.kind = 2) : ∃ d∈p.defs,(d.kind = 0\/d.kind = 1)/\t = ofT d.id:=by
 rcases h with h | h | h | h
 ·rw [h] at h0;exact absurd rfl h0
 ·rw [h] at h1;exact absurd rfl h1
 ·rw [h] at h2;exact absurd rfl h2
 ·exact h
section
variable {c : MkC} {R n : Nat} {g : GX}
theorem yg (hg : GMk c R n g) {t : Ty} {env : List Bnd} {d : Int} (h0 : 0 < env.length) (he : ∀ b∈env,wfT c.p R b.ty/\gTy c.p b.ty) (hk : okT c.p R n t d) (ht : gTy c.p t) : ∀ (m : Nat) (s : MkS),(dX g t env d m s).1.length<=m/\∃ Ts : Nat->Int,Ts 0 = s.temp/\Ts (dX g t env d m s).1.length = (dX g t env d m s).2.temp/\∀ i (h : i < (dX g t env d m s).1.length),Mk c t env (Ts i) (dX g t env d m s).1[i] (Ts (i+1))
 | 0,s=>⟨Nat.le_refl _,fun _=>s.temp,rfl,rfl,fun i h=>absurd h (Nat.not_lt_zero _)⟩
 | m+1,s=>by
  by_cases hl : 0 < s.left
  ·obtain ⟨h0',Ts,h1,h2,h3⟩:=yg hg h0 he hk ht m (g t env d s).2
   have e : dX g t env d (m+1) s = ((g t env d s).1::(dX g t env d m (g t env d s).2).1,(dX g t env d m (g t env d s).2).2):=by rw [dX,if_pos hl]
   rw [e]
   refine ⟨Nat.succ_le_succ h0',fun i=>match i with | 0=>s.temp | i+1=>Ts i,rfl,h2,fun i h=>?_⟩
   cases i with
   | zero=>show Mk c t env s.temp _ (Ts 0);rw [h1];exact hg t env d s h0 he hk ht
   | succ i=>exact h3 i (by simpa using h)
  ·have e : dX g t env d (m+1) s = ([],s):=by rw [dX,if_neg hl]
   rw [e]
   exact ⟨Nat.zero_le _,fun _=>s.temp,rfl,rfl,fun i h=>absurd h (Nat.not_lt_zero _)⟩
theorem sw (hg : GMk c R n g) {env : List Bnd} {d : Int} (h0 : 0 < env.length) (he : ∀ b∈env,wfT c.p R b.ty/\gTy c.p b.ty) : ∀ (ts : List Ty) (s : MkS),(∀ t∈ts,okT c.p R n t d/\gTy c.p t)->∃ Ts : Nat->Int,∃ hl : (eK g env d ts s).1.length = ts.length,Ts 0 = s.temp/\Ts (eK g env d ts s).1.length = (eK g env d ts s).2.temp/\∀ i (h : i < (eK g env d ts s).1.length),Mk c (ts[i]'(by omega)) env (Ts i) (eK g env d ts s).1[i] (Ts (i+1))
 | [],s,_=>⟨fun _=>s.temp,rfl,rfl,rfl,fun i h=>absurd h (Nat.not_lt_zero _)⟩
 | t::ts,s,hk=>by
  obtain ⟨Ts,hl,h1,h2,h3⟩:=sw hg h0 he ts (g t env d s).2 fun u hu=>hk u (List.mem_cons_of_mem _ hu)
  refine ⟨fun i=>match i with | 0=>s.temp | i+1=>Ts i,by rw [eK];simp [hl],rfl,h2,fun i h=>?_⟩
  cases i with
  | zero=>show Mk c t env s.temp _ (Ts 0);rw [h1];have:=hk t (List.mem_cons_self ..);exact hg t env d s h0 he this.1 this.2
  | succ i=>exact h3 i (by rw [eK] at h;simpa using h)
end
section
variable {c : MkC} {R n : Nat} {t : Ty} {env : List Bnd} {x depth : Int} {s : MkS}
theorem BT {α : Type} {l : List α} {b : α} : 0 < (l++[b]).length:=by simp
theorem Mk.cast {t' : Ty} {T T' : Int} {e e' : Ex} (h : Mk c t env T e T') (ht : t = t') (he : e = e') {S : Int} (hS : T' = S) : Mk c t' env T e' S:=ht ▸ he ▸ hS ▸ h
theorem Bn (hc : GCtx c R) (hg : GMk c R n (au c n)) (h0 : 0 < env.length) (he : ∀ b∈env,wfT c.p R b.ty/\gTy c.p b.ty) (hk : okT c.p R (n+1) t depth) (ht : gTy c.p t) (hx : 0<=x) : Mk c t env s.temp (kH c (au c n) t env x depth s).1 (kH c (au c n) t env x depth s).2.temp:=by
 unfold kH
 have e29 : x.tmod 29 = x % 29:=Int.tmod_eq_emod_of_nonneg hx
 have e9 : x.tmod 9 = x % 9:=Int.tmod_eq_emod_of_nonneg hx
 have e2 : x.tmod 2 = x % 2:=Int.tmod_eq_emod_of_nonneg hx
 split
 ·rename_i k0
  rw [gTy0 ht k0]
  exact Mk.int (by unfold EV;split <;> omega)
 rename_i k0
 split
 ·rename_i k1
  rw [gTy1 ht k1]
  exact Mk.bool (by omega)
 rename_i k1
 split
 ·rename_i k2
  obtain rfl:=gTy2 ht k2
  dsimp only
  obtain ⟨hkl,Ts,h1,h2,h3⟩:=yg hg h0 he (t:=ty0) (d:=depth - 1) (hk.part fun m hm=>(fJ hm k2).2) (.inl rfl) (if 0<=depth then (x.tmod 3).toNat else 0) s
  refine (Mk.list Ts (Nat.le_trans hkl (by have:=Int.tmod_lt_of_pos x (show (0 : Int) < 3 by omega);split <;> omega)) h1 h3).cast rfl ?_ ?_
  ·rw [h2];rfl
  ·rw [h2];rfl
 rename_i k2
 obtain ⟨d,hd,hdk,rfl⟩:=gTy3 ht k0 k1 k2
 have e : aj c.p (ofT d.id).df = d:=hc.the d hd
 have hw:=eY hk.wf k0 k1 k2
 rw [e] at hw ⊢
 split
 ·rename_i k3
  dsimp only
  have hs0:=hc.gen.kase d hd k3
  obtain ⟨k,hk1,hk2⟩ : ∃ k : Nat,gP d x depth = k/\k < d.slots.length:=by
   have e : x.tmod (d.slots.length : Int) = x % (d.slots.length : Int):=Int.tmod_eq_emod_of_nonneg hx
   have h1:=Int.emod_nonneg x (show (d.slots.length : Int) ≠ 0 by omega)
   have h2:=Int.emod_lt_of_pos x (show (0 : Int) < d.slots.length by omega)
   unfold gP
   split
   ·exact ⟨0,rfl,hs0⟩
   ·exact ⟨(x % (d.slots.length : Int)).toNat,by omega,by omega⟩
  rw [hk1,Int.toNat_natCast,show (d.slots.map SlotT.ty).getD k ty0 = d.slots[k].ty by simp [List.getD_eq_getElem?_getD,List.getElem?_eq_getElem hk2]]
  have hm:=List.getElem_mem hk2
  exact Mk.kase hd k3 hk2 (hg _ env (depth - 1) s h0 he (hk.part fun m hm'=>by have:=(eY hm' k0 k1 k2).2.2;rw [e] at this;exact this _ hm) (hc.gs d hd _ hm))
 ·rename_i k3
  dsimp only
  obtain ⟨Ts,hl,h1,h2,h3⟩:=sw hg h0 he (d:=depth - 1) (d.slots.map SlotT.ty) s fun u hu=>by
   obtain ⟨y,hy,rfl⟩:=List.mem_map.1 hu
   exact ⟨hk.part fun m hm'=>by have:=(eY hm' k0 k1 k2).2.2;rw [e] at this;exact this _ hy,hc.gs d hd _ hy⟩
  rw [List.length_map] at hl
  refine (Mk.recd hd (hdk.resolve_right k3) Ts hl h1 fun i h=>?_).cast rfl ?_ ?_
  ·have:=h3 i h
   rwa [List.getElem_map] at this
  ·rw [h2];rfl
  ·rw [h2];rfl
theorem tq (hg : GMk c R n (au c n)) (h0 : 0 < env.length) (he : ∀ b∈env,wfT c.p R b.ty/\gTy c.p b.ty) {u : Ty} {d k : Int} (hk : okT c.p R n u d) (hu : gTy c.p u) (ho : opTy k u t) : Mk c t env s.temp (lN (au c n) k u env d s).1 (lN (au c n) k u env d s).2.temp :=
 Mk.both ho (hg u env d s h0 he hk hu) (hg u env d _ h0 he hk hu)
theorem opG_mk (hc : GCtx c R) (hg : GMk c R n (au c n)) (h0 : 0 < env.length) (he : ∀ b∈env,wfT c.p R b.ty/\gTy c.p b.ty) (hk : okT c.p R (n+1) t depth) (hd0 : 0 < depth) (ht : gTy c.p t) (hx : 0<=x) : Mk c t env s.temp (opG c (au c n) t env x depth s).1 (opG c (au c n) t env x depth s).2.temp:=by
 unfold opG
 have hR2:=hc.gen.R2
 have e6 : x.tmod 6 = x % 6:=Int.tmod_eq_emod_of_nonneg hx
 have e5 : x.tmod 5 = x % 5:=Int.tmod_eq_emod_of_nonneg hx
 have d2 : x.tdiv 2 = x / 2:=Int.tdiv_eq_ediv_of_nonneg hx
 have d6 : x.tdiv 6 = x / 6:=Int.tdiv_eq_ediv_of_nonneg hx
 have wt : wfT c.p R t:=by
  rcases hk with h | h
  ·omega
  ·exact h.2.1
 have w0 : wfT c.p R ty0:=bE hR2 (vH c.p 1)
 split
 ·rename_i k0
  obtain rfl:=gTy0 ht k0
  split
  ·exact Mk.len (hg _ env (depth - 1) s h0 he (hk.any hd0 (kO hR2) (by omega)) (.inr (.inr (.inl rfl))))
  ·exact tq hg h0 he (hk.any hd0 wt (by omega)) ht (.inl ⟨by omega,by omega,rfl,rfl⟩)
 rename_i k0
 split
 ·rename_i k1
  obtain rfl:=gTy1 ht k1
  split
  ·exact Mk.not (hg _ env (depth - 1) s h0 he (hk.any hd0 wt (by omega)) ht)
  ·rename_i h6
   have hu : wfT c.p R (gK tyL env x)/\gTy c.p (gK tyL env x):=by
    unfold gK
    split
    ·exact ⟨wt,ht⟩
    split
    ·have e : (x.tdiv 6).tmod (env.length : Int) = x.tdiv 6 % (env.length : Int):=Int.tmod_eq_emod_of_nonneg (by omega)
     have h1:=Int.emod_nonneg (x.tdiv 6) (show (env.length : Int) ≠ 0 by omega)
     have h2:=Int.emod_lt_of_pos (x.tdiv 6) (show (0 : Int) < env.length by omega)
     unfold jA
     rw [e,List.getD_eq_getElem?_getD,List.getElem?_eq_getElem (show (x.tdiv 6 % (env.length : Int)).toNat < env.length by omega)]
     exact he _ (List.getElem_mem _)
    ·exact ⟨w0,.inl rfl⟩
   refine tq hg h0 he (hk.any hd0 hu.1 (by omega)) hu.2 ?_
   unfold tu gK
   split
   ·exact .inr (.inr (.inr (.inl ⟨by omega,rfl,rfl⟩)))
   split
   ·exact .inr (.inr (.inl ⟨rfl,rfl⟩))
   split
   ·exact .inr (.inr (.inl ⟨rfl,rfl⟩))
   ·exact .inr (.inl ⟨rfl,rfl,rfl⟩)
 rename_i k1
 split
 ·rename_i h2
  obtain rfl:=gTy2 ht h2.1
  exact tq hg h0 he (hk.any hd0 wt (by omega)) ht (.inr (.inr (.inr (.inr ⟨rfl,rfl,rfl⟩))))
 ·exact Bn hc hg h0 he hk ht (by omega)
theorem qv (hg : GMk c R n (au c n)) {d : Int} {id : IdT} (ht : okT c.p R n t d) (hgt : gTy c.p t) (he : ∀ b∈env,wfT c.p R b.ty/\gTy c.p b.ty) : ∀ (sl : List SlotT) (j : Nat) (s : MkS),(∀ x∈sl,wfT c.p R x.ty/\gTy c.p x.ty)->∃ Ts : Nat->Int,∃ hl : (aT (au c n) t env d id sl j s).1.1.length = sl.length,(aT (au c n) t env d id sl j s).1.2.length = sl.length/\Ts 0 = s.temp/\Ts sl.length = (aT (au c n) t env d id sl j s).2.temp /\
  ∀ i (h : i < (aT (au c n) t env d id sl j s).1.1.length),Mk c t (env++[⟨id,(j+i : Nat),(sl[i]'(by omega)).ty⟩]) (Ts i) (aT (au c n) t env d id sl j s).1.1[i] (Ts (i+1))
 | [],j,s,_=>⟨fun _=>s.temp,rfl,rfl,rfl,rfl,fun i h=>absurd h (Nat.not_lt_zero _)⟩
 | x::xs,j,s,hs=>by
  obtain ⟨Ts,hl,hl2,h1,h2,h3⟩:=qv hg (id:=id) ht hgt he xs (j+1) (dI (au c n t (env++[⟨id,j,x.ty⟩]) d s).2).2 fun u hu=>hs u (List.mem_cons_of_mem _ hu)
  have e : aT (au c n) t env d id (x::xs) j s = (((au c n t (env++[⟨id,j,x.ty⟩]) d s).1::(aT (au c n) t env d id xs (j+1) (dI (au c n t (env++[⟨id,j,x.ty⟩]) d s).2).2).1.1,(dI (au c n t (env++[⟨id,j,x.ty⟩]) d s).2).1::(aT (au c n) t env d id xs (j+1) (dI (au c n t (env++[⟨id,j,x.ty⟩]) d s).2).2).1.2),(aT (au c n) t env d id xs (j+1) (dI (au c n t (env++[⟨id,j,x.ty⟩]) d s).2).2).2):=by rw [aT]
  refine ⟨fun i=>match i with | 0=>s.temp | i+1=>Ts i,by rw [e];simp [hl],by rw [e];simp [hl2],rfl,h2,fun i h=>?_⟩
  cases i with
  | zero =>
   show Mk c t (env++[⟨id,j,x.ty⟩]) s.temp _ (Ts 0)
   rw [h1]
   refine hg t _ d s (by simp) (fun b hb=>?_) ht hgt
   rcases List.mem_append.1 hb with hb | hb
   ·exact he b hb
   ·rw [List.mem_singleton.1 hb];exact hs x (List.mem_cons_self ..)
  | succ i =>
   have:=h3 i (by rw [e] at h;simpa using h)
   rw [show j+1+i = j+(i+1) by omega] at this
   exact this
theorem oQ : ∀ (m i : Nat) {k : Nat},eW c t i m = some k->i<=k/\k < i+m/\(bG c k).kind = 2/\iR c k/\(bG c k).result = t
 | 0,i,k,h=>by simp [eW] at h
 | m+1,i,k,h=>by
  rw [eW] at h
  split at h
  ·rename_i h1
   obtain rfl : i = k:=by simpa using h
   exact ⟨by omega,by omega,h1.1.1,h1.1.2,h1.2⟩
  ·have:=oQ m (i+1) h
   exact ⟨by omega,by omega,this.2.2⟩
theorem jk {xn : Nat} (hd : 0 < c.p.defs.length) : ∀ (m i : Nat) {k j : Nat},ej c t xn i m = some (k,j)->k < c.p.defs.length/\(bG c k).kind = 0/\iR c k/\∃ h : j < (bG c k).slots.length,(bG c k).slots[j].ty = t
 | 0,i,k,j,h=>by simp [ej] at h
 | m+1,i,k,j,h=>by
  rw [ej] at h
  by_cases hc : (bG c ((xn+i) % c.p.defs.length)).kind = 0/\iR c ((xn+i) % c.p.defs.length)
  ·rw [if_pos hc] at h
   cases hs : jQ (bG c ((xn+i) % c.p.defs.length)).slots t with
   | none=>rw [hs] at h;exact jk hd m (i+1) h
   | some q =>
    rw [hs] at h
    simp only [Option.some.injEq,Prod.mk.injEq] at h
    obtain ⟨rfl,rfl⟩:=h
    unfold jQ at hs
    obtain ⟨h1,h2,_⟩:=List.findIdx?_eq_some_iff_getElem.1 hs
    exact ⟨Nat.mod_lt _ hd,hc.1,hc.2,h1,by simpa using h2⟩
  ·rw [if_neg hc] at h
   exact jk hd m (i+1) h
theorem rV {kind : Int} {frm : Nat} (hd : 0 < c.p.defs.length) : ∀ m i,¬ fl c kind frm i m < 0->∃ k : Nat,fl c kind frm i m = k/\k < c.p.defs.length/\(bG c k).kind = kind/\iR c k
 | 0,i,h=>absurd (show fl c kind frm i 0 < 0 by rw [fl];omega) h
 | m+1,i,h=>by
  rw [fl] at h ⊢
  split
  ·rename_i h1
   exact ⟨_,rfl,Nat.mod_lt _ hd,h1⟩
  ·rename_i h1
   rw [if_neg h1] at h
   exact rV hd m (i+1) h
theorem rest_mk (hc : GCtx c R) (hg : GMk c R n (au c n)) (h0 : 0 < env.length) (he : ∀ b∈env,wfT c.p R b.ty/\gTy c.p b.ty) (hk : okT c.p R (n+1) t depth) (hd0 : 0 < depth) (ht : gTy c.p t) {k : Int} (hx : 0<=x) : Mk c t env s.temp (qe c (au c n) t env k x depth s).1 (qe c (au c n) t env k x depth s).2.temp:=by
 have hR2:=hc.gen.R2
 have wt : wfT c.p R t:=by
  rcases hk with h | h
  ·omega
  ·exact h.2.1
 have wb : wfT c.p R tyL:=by
  refine bE hR2 ?_
  rw [wfT];exact .inr (.inl rfl)
 have w0 : wfT c.p R ty0:=bE hR2 (vH c.p 1)
 have any : ∀ {u : Ty} {j : Int},wfT c.p R u->1<=j->okT c.p R n u (depth - j):=fun hu hj=>hk.any hd0 hu hj
 have op:=opG_mk (s:=s) hc hg h0 he hk hd0 ht hx
 unfold qe
 split
 ·exact Mk.ife (hg tyL env (depth - 1) s h0 he (any wb (by omega)) (.inr (.inl rfl))) (hg t env (depth - 1) _ h0 he (any wt (by omega)) ht) (hg t env (depth - 1) _ h0 he (any wt (by omega)) ht)
 split
 ·have e : x.tmod (env.length : Int) = x % (env.length : Int):=Int.tmod_eq_emod_of_nonneg (by omega)
  have h1:=Int.emod_nonneg x (show (env.length : Int) ≠ 0 by omega)
  have h2:=Int.emod_lt_of_pos x (show (0 : Int) < env.length by omega)
  have hu : wfT c.p R (jA env x).ty/\gTy c.p (jA env x).ty:=by
   unfold jA
   rw [e,List.getD_eq_getElem?_getD,List.getElem?_eq_getElem (show (x % (env.length : Int)).toNat < env.length by omega)]
   exact he _ (List.getElem_mem _)
  have hb:=hg t (env++[⟨(aR 6 0 [] (au c n (jA env x).ty env (depth - 1) s).2).1.id,0,(jA env x).ty⟩]) (depth - 1) (dI (aR 6 0 [] (au c n (jA env x).ty env (depth - 1) s).2).2).2 BT
  refine Mk.lete (u:=(jA env x).ty) (hg _ env (depth - 1) s h0 he (any hu.1 (by omega)) hu.2) (hb (fun b hb=>?_) (any wt (by omega)) ht)
  rcases List.mem_append.1 hb with hb | hb
  ·exact he b hb
  ·rw [List.mem_singleton.1 hb];exact hu
 split
 ·unfold j6
  split
  ·exact op
  ·rename_i hm
   obtain ⟨q,hq,hlt,hkind,hvis⟩:=rV (kind:=1) (frm:=x.toNat) hc.d0 c.p.defs.length 0 hm
   rw [show ofG c 1 x.toNat = q from hq,Int.toNat_natCast]
   have hmem : bG c q∈c.p.defs:=by rw [gu hlt];exact List.getElem_mem hlt
   dsimp only
   generalize bG c q = d at hkind hmem ⊢
   have ha:=hg (ofT d.id) env (depth - 2) s h0 he (any (hc.gen.own d hmem (.inr hkind)) (by omega)) (.inr (.inr (.inr ⟨d,hmem,.inr hkind,rfl⟩)))
   obtain ⟨Ts,hl,hl2,h1,h2,h3⟩:=qv hg (id:=(aR 10 0 [] (au c n (ofT d.id) env (depth - 2) s).2).1.id) (any wt (show (1 : Int)<=1 by omega)) ht he d.slots 0 (aR 10 0 [] (au c n (ofT d.id) env (depth - 2) s).2).2 fun u hu=>⟨hc.gen.slot d hmem u hu,hc.gs d hmem u hu⟩
   refine (Mk.mat hmem hkind Ts hl hl2 ha h1 fun i h=>?_).cast rfl rfl (by rw [hl];exact h2)
   have:=h3 i h
   rw [Nat.zero_add] at this
   exact this
 split
 ·unfold ko
  split
  ·rename_i q j hf
   obtain ⟨hlt,hkind,hvis,hj,hty⟩:=jk hc.d0 _ _ hf
   have hmem : bG c q∈c.p.defs:=by rw [gu hlt];exact List.getElem_mem hlt
   dsimp only
   rw [<-hty]
   exact Mk.field hmem hkind hj (hg _ env (depth - 1) s h0 he (any (hc.gen.own _ hmem (.inl hkind)) (by omega)) (.inr (.inr (.inr ⟨_,hmem,.inl hkind,rfl⟩))))
  ·exact op
 split
 ·unfold oP
  split
  ·rename_i q hf
   obtain ⟨_,hlt,hkind,hvis,hty⟩:=oQ _ _ hf
   rw [Nat.zero_add] at hlt
   have ed:=gu hlt
   have hmem : c.p.defs[q]∈c.p.defs:=List.getElem_mem hlt
   dsimp only
   rw [ed] at hkind hty ⊢
   obtain ⟨Ts,hl,h1,h2,h3⟩:=sw hg h0 he (d:=depth - 1) (c.p.defs[q].slots.map SlotT.ty) s fun u hu=>by
    obtain ⟨y,hy,rfl⟩:=List.mem_map.1 hu
    exact ⟨any (hc.gen.slot _ hmem _ hy) (by omega),hc.gs _ hmem _ hy⟩
   rw [List.length_map] at hl
   refine (Mk.call hlt hkind hvis Ts hl h1 fun i h=>?_).cast hty ?_ ?_
   ·have:=h3 i h
    rwa [List.getElem_map] at this
   ·rw [h2];rfl
   ·rw [h2];rfl
  ·exact op
 split
 ·have hb:=hg t (env++[⟨(aR 12 0 [] (au c n t env (depth - 1) (au c n (bF ty0) env (depth - 1) s).2).2).1.id,0,ty0⟩]++[⟨(aR 12 0 [] (au c n t env (depth - 1) (au c n (bF ty0) env (depth - 1) s).2).2).1.id,1,t⟩]) (depth - 1) (dI (dI (aR 12 0 [] (au c n t env (depth - 1) (au c n (bF ty0) env (depth - 1) s).2).2).2).2).2 BT
  refine Mk.fold (hg _ env (depth - 1) s h0 he (any (kO hR2) (by omega)) (.inr (.inr (.inl rfl)))) (hg t env (depth - 1) _ h0 he (any wt (by omega)) ht) (hb (fun b hb=>?_) (any wt (by omega)) ht)
  rcases List.mem_append.1 hb with hb | hb
  ·rcases List.mem_append.1 hb with hb | hb
   ·exact he b hb
   ·rw [List.mem_singleton.1 hb];exact ⟨w0,.inl rfl⟩
  ·rw [List.mem_singleton.1 hb];exact ⟨wt,ht⟩
 ·exact op
theorem oJ (hc : GCtx c R) : ∀ n,GMk c R n (au c n)
 | 0=>fun t env depth s h0 he hk ht=>absurd hk.pos (Nat.lt_irrefl _)
 | n+1=>fun t env depth s h0 he hk ht=>by
  have hg:=oJ hc n
  rw [sP]
  have hx : 0<=(fM c 65536 s).1/\(fM c 65536 s).1 < 65536:=cC c.l s.pos 65536 (by omega)
  have hd:=FG (s1:=(fM c 65536 s).2) hk
  show Mk c t env (fM c 65536 s).2.temp _ _
  generalize fM c 65536 s = y at hx hd ⊢
  obtain ⟨x,s1⟩:=y
  dsimp only at hx hd ⊢
  have d3 : x.tdiv 3 = x / 3:=Int.tdiv_eq_ediv_of_nonneg hx.1
  have d36 : x.tdiv 36 = x / 36:=Int.tdiv_eq_ediv_of_nonneg hx.1
  split
  ·rename_i hv
   have e : (x.tdiv 3).tmod ((dK env t).length : Int) = x.tdiv 3 % ((dK env t).length : Int):=Int.tmod_eq_emod_of_nonneg (by omega)
   have h1:=Int.emod_nonneg (x.tdiv 3) (show ((dK env t).length : Int) ≠ 0 by omega)
   have h2:=Int.emod_lt_of_pos (x.tdiv 3) (show (0 : Int) < (dK env t).length by omega)
   have hlt : (x.tdiv 3 % ((dK env t).length : Int)).toNat < (dK env t).length:=by omega
   rw [e,List.getD_eq_getElem?_getD,List.getElem?_eq_getElem hlt]
   have hm:=List.getElem_mem hlt
   have hty : (dK env t)[(x.tdiv 3 % ((dK env t).length : Int)).toNat].ty = t:=by have:=(List.mem_filter.1 hm).2;simpa using this
   exact (Mk.var (fit_mem hm)).cast hty rfl rfl
  split
  ·exact Bn hc hg h0 he hd ht (by omega)
  ·rename_i hd0
   exact rest_mk hc hg h0 he hd (by omega) ht (by omega)
end
theorem bO {m m' : Int} (h : m<=m') : ∀ {e : Ex},inB m e->inB m' e
 | .mk i k n r t l s,hb=>by
  rw [inB] at hb ⊢
  refine ⟨by omega,fun hk=>by have:=hb.2.1 hk;omega,?_⟩
  exact go l hb.2.2
 where go : ∀ l : List Ex,oz m l->oz m' l
 | [],_=>by rw [oz];trivial
 | e::es,hb=>by
  rw [oz] at hb ⊢
  exact ⟨bO h hb.1,go es hb.2⟩
theorem Bw {m : Int} : ∀ {l : List Ex},(∀ e∈l,inB m e)->oz m l
 | [],_=>by rw [oz];trivial
 | e::es,h=>by
  rw [oz]
  exact ⟨h e (List.mem_cons_self ..),Bw fun x hx=>h x (List.mem_cons_of_mem _ hx)⟩
theorem cY {Ts : Nat->Int} : ∀ (n : Nat),(∀ i,i < n->Ts i < Ts (i+1))->∀ i,i<=n->Ts 0<=Ts i/\Ts i<=Ts n
 | 0,_,i,hi=>by
  obtain rfl : i = 0:=by omega
  exact ⟨Int.le_refl _,Int.le_refl _⟩
 | n+1,h,i,hi=>by
  have h1:=h n (by omega)
  by_cases e : i = n+1
  ·subst e
   have:=cY n (fun j hj=>h j (by omega)) n (by omega)
   exact ⟨by omega,Int.le_refl _⟩
  ·have:=cY n (fun j hj=>h j (by omega)) i (by omega)
   exact ⟨this.1,by omega⟩
section
variable {c : MkC} {t : Ty} {env : List Bnd} {T T' : Int} {e : Ex}
theorem Mk.lt (h : Mk c t env T e T') : T < T':=by
 induction h with
 | int _=>omega
 | bool _=>omega
 | var _=>omega
 | list Ts _ h0 _ ih=>have:=(cY (Ts:=Ts) _ (fun i hi=>ih i hi) _ (Nat.le_refl _)).1;omega
 | kase _ _ _ _ ih=>omega
 | recd _ _ Ts _ h0 _ ih=>have:=(cY (Ts:=Ts) _ (fun i hi=>ih i hi) _ (Nat.le_refl _)).1;omega
 | len _ ih=>omega
 | not _ ih=>omega
 | both _ _ _ ih1 ih2=>omega
 | ife _ _ _ ih1 ih2 ih3=>omega
 | lete _ _ ih1 ih2=>omega
 | fold _ _ _ ih1 ih2 ih3=>omega
 | mat _ _ Ts _ _ _ h0 _ ih1 ih=>have:=(cY (Ts:=Ts) _ (fun i hi=>ih i hi) _ (Nat.le_refl _)).1;omega
 | field _ _ _ _ ih=>omega
 | call _ _ _ Ts _ h0 _ ih=>have:=(cY (Ts:=Ts) _ (fun i hi=>ih i hi) _ (Nat.le_refl _)).1;omega
def Low (env : List Bnd) (T : Int) : Prop:=∀ b∈env,b.id.seq = 0->0<=b.id.index/\b.id.index < T
theorem Low.mono {T1 : Int} (h : Low env T) (hT : T<=T1) : Low env T1:=fun b hb hs=>by have:=h b hb hs;omega
theorem Low.add {T1 : Int} (h : Low env T) (hT : T<=T1) (h0 : 0<=T1) {k : Int} {u : Ty} {S : Int} (hS : T1+1<=S) : Low (env++[⟨⟨0,0,T1⟩,k,u⟩]) S:=fun b hb hs=>by
 rcases List.mem_append.1 hb with hb | hb
 ·have:=h b hb hs;omega
 ·rw [List.mem_singleton.1 hb];exact ⟨h0,by show T1 < S;omega⟩
theorem cN {m k n : Int} {l : List Ex} {T : Int} {r : IdT} {u : Ty} {ns : List ByteArray} (hT : 0<=T/\T < m) (hr : k = 2->r.seq = 0->0<=r.index/\r.index < m) (hl : ∀ e∈l,inB m e) : inB m (.mk ⟨0,0,T⟩ k n r u l ns):=by
 rw [inB]
 exact ⟨hT,fun h=>hr h.1 h.2,Bw hl⟩
theorem Mk.inB (h : Mk c t env T e T') : 0<=T->Low env T->inB T' e:=by
 induction h with
 | int _=>exact fun h0 _=>cN (k:=0) (l:=[]) ⟨h0,by omega⟩ (fun h=>absurd h (by decide)) (fun _ h=>by cases h)
 | bool _=>exact fun h0 _=>cN (k:=1) (l:=[]) ⟨h0,by omega⟩ (fun h=>absurd h (by decide)) (fun _ h=>by cases h)
 | var hb=>exact fun h0 hl=>cN (k:=2) (l:=[]) ⟨h0,by omega⟩ (fun _ hs=>by have:=hl _ hb hs;omega) (fun _ h=>by cases h)
 | @list env T kids Ts _ h0 hm ih =>
  intro h1 hl
  have st:=cY (Ts:=Ts) _ (fun i hi=>(hm i hi).lt)
  have:=(st _ (Nat.le_refl _)).1
  refine cN (k:=11) (l:=kids) ⟨by omega,by omega⟩ (fun h=>absurd h (by decide)) fun x hx=>?_
  obtain ⟨i,hi,rfl⟩:=List.mem_iff_getElem.1 hx
  have h2:=st i (by omega)
  have h3:=st (i+1) (by omega)
  exact bO (by omega) (ih i hi (by omega) (hl.mono (by omega)))
 | @kase env T T1 d k e _ _ _ hm ih =>
  intro h1 hl
  have:=hm.lt
  refine cN (k:=9) (l:=[e]) ⟨by omega,by omega⟩ (fun h=>absurd h (by decide)) fun x hx=>?_
  rw [List.mem_singleton.1 hx]
  exact bO (by omega) (ih h1 hl)
 | @recd env T d kids _ _ Ts _ h0 hm ih =>
  intro h1 hl
  have st:=cY (Ts:=Ts) _ (fun i hi=>(hm i hi).lt)
  have:=(st _ (Nat.le_refl _)).1
  refine cN (k:=7) (l:=kids) ⟨by omega,by omega⟩ (fun h=>absurd h (by decide)) fun x hx=>?_
  obtain ⟨i,hi,rfl⟩:=List.mem_iff_getElem.1 hx
  have h2:=st i (by omega)
  have h3:=st (i+1) (by omega)
  exact bO (by omega) (ih i hi (by omega) (hl.mono (by omega)))
 | @len env T T1 a hm ih =>
  intro h1 hl
  have:=hm.lt
  refine cN (k:=4) (l:=[a]) ⟨by omega,by omega⟩ (fun h=>absurd h (by decide)) fun x hx=>?_
  rw [List.mem_singleton.1 hx]
  exact bO (by omega) (ih h1 hl)
 | @not env T T1 a hm ih =>
  intro h1 hl
  have:=hm.lt
  refine cN (k:=4) (l:=[a]) ⟨by omega,by omega⟩ (fun h=>absurd h (by decide)) fun x hx=>?_
  rw [List.mem_singleton.1 hx]
  exact bO (by omega) (ih h1 hl)
 | @both t u env T T1 T2 n a b _ ha hb ih1 ih2 =>
  intro h1 hl
  have:=ha.lt
  have:=hb.lt
  refine cN (k:=4) (l:=[a,b]) ⟨by omega,by omega⟩ (fun h=>absurd h (by decide)) fun x hx=>?_
  simp only [List.mem_cons,List.not_mem_nil,or_false] at hx
  rcases hx with rfl | rfl
  ·exact bO (by omega) (ih1 h1 hl)
  ·exact bO (by omega) (ih2 (by omega) (hl.mono (by omega)))
 | @ife t env T T1 T2 T3 a b e ha hb he ih1 ih2 ih3 =>
  intro h1 hl
  have:=ha.lt
  have:=hb.lt
  have:=he.lt
  refine cN (k:=5) (l:=[a,b,e]) ⟨by omega,by omega⟩ (fun h=>absurd h (by decide)) fun x hx=>?_
  simp only [List.mem_cons,List.not_mem_nil,or_false] at hx
  rcases hx with rfl | rfl | rfl
  ·exact bO (by omega) (ih1 h1 hl)
  ·exact bO (by omega) (ih2 (by omega) (hl.mono (by omega)))
  ·exact bO (by omega) (ih3 (by omega) (hl.mono (by omega)))
 | @lete t u env T T1 T2 a b m ha hb ih1 ih2 =>
  intro h1 hl
  have:=ha.lt
  have:=hb.lt
  refine cN (k:=6) (l:=[a,b]) ⟨by omega,by omega⟩ (fun h=>absurd h (by decide)) fun x hx=>?_
  simp only [List.mem_cons,List.not_mem_nil,or_false] at hx
  rcases hx with rfl | rfl
  ·exact bO (by omega) (ih1 h1 hl)
  ·exact bO (by omega) (ih2 (by omega) (hl.add (by omega) (by omega) (by omega)))
 | @fold t env T T1 T2 T3 a b e m m2 ha hb he ih1 ih2 ih3 =>
  intro h1 hl
  have:=ha.lt
  have:=hb.lt
  have:=he.lt
  refine cN (k:=12) (l:=[a,b,e]) ⟨by omega,by omega⟩ (fun h=>absurd h (by decide)) fun x hx=>?_
  simp only [List.mem_cons,List.not_mem_nil,or_false] at hx
  rcases hx with rfl | rfl | rfl
  ·exact bO (by omega) (ih1 h1 hl)
  ·exact bO (by omega) (ih2 (by omega) (hl.mono (by omega)))
  ·refine bO (by omega) (ih3 (by omega) ?_)
   refine fun b hb hs=>?_
   rcases List.mem_append.1 hb with hb | hb
   ·exact (hl.add (by omega) (by omega) (Int.le_refl _)) b hb hs
   ·rw [List.mem_singleton.1 hb];exact ⟨show 0<=T2 by omega,show T2 < T2+1 by omega⟩
 | @mat t env T T1 d a kids ms _ _ Ts _ _ ha h0 hm ih1 ih =>
  intro h1 hl
  have:=ha.lt
  have st:=cY (Ts:=Ts) _ (fun i hi=>(hm i hi).lt)
  have:=(st _ (Nat.le_refl _)).1
  refine cN (k:=10) (l:=a::kids) ⟨by omega,by omega⟩ (fun h=>absurd h (by decide)) fun x hx=>?_
  rcases List.mem_cons.1 hx with rfl | hx
  ·exact bO (by omega) (ih1 h1 hl)
  ·obtain ⟨i,hi,rfl⟩:=List.mem_iff_getElem.1 hx
   have h2:=st i (by omega)
   have h3:=st (i+1) (by omega)
   exact bO (by omega) (ih i hi (by omega) (hl.add (by omega) (by omega) (by omega)))
 | @field env T T1 d j a _ _ _ hm ih =>
  intro h1 hl
  have:=hm.lt
  refine cN (k:=8) (l:=[a]) ⟨by omega,by omega⟩ (fun h=>absurd h (by decide)) fun x hx=>?_
  rw [List.mem_singleton.1 hx]
  exact bO (by omega) (ih h1 hl)
 | @call env T k kids _ _ _ Ts _ h0 hm ih =>
  intro h1 hl
  have st:=cY (Ts:=Ts) _ (fun i hi=>(hm i hi).lt)
  have:=(st _ (Nat.le_refl _)).1
  refine cN (k:=3) (l:=kids) ⟨by omega,by omega⟩ (fun h=>absurd h (by decide)) fun x hx=>?_
  obtain ⟨i,hi,rfl⟩:=List.mem_iff_getElem.1 hx
  have h2:=st i (by omega)
  have h3:=st (i+1) (by omega)
  exact bO (by omega) (ih i hi (by omega) (hl.mono (by omega)))
end
theorem ym {m : Int} : ∀ {e : Ex},inB m e->∀ x∈e.post,0<=x/\x < m
 | .mk i k n r t l s,h,x,hx=>by
  rw [inB] at h
  rw [Ex.post] at hx
  rcases List.mem_append.1 hx with hx | hx
  ·exact go l h.2.2 x hx
  ·rw [List.mem_singleton.1 hx];exact h.1
 where go : ∀ l : List Ex,oz m l->∀ x∈Ex.cS l,0<=x/\x < m
 | [],_,x,hx=>by rw [Ex.cS] at hx;cases hx
 | e::es,h,x,hx=>by
  rw [oz] at h
  rw [Ex.cS] at hx
  rcases List.mem_append.1 hx with hx | hx
  ·exact ym h.1 x hx
  ·exact go es h.2 x hx
def bR (d : DefT) : List Bnd:=d.slots.map fun x=>⟨x.id,0,x.ty⟩
def MkC.with (c : MkC) (d : DefT) (e : Ex) : MkC:=⟨⟨c.p.mods,c.p.defs.set c.own.toNat (d.setBody e)⟩,c.l,c.own,c.home⟩
def iO (c : MkC) (d : DefT) (s : MkS) : Ex×MkS :=
 if 30 < (au c 9 d.result (bR d) 4 s).1.size then au (c.with d (au c 9 d.result (bR d) 4 s).1) 9 d.result (bR d) 0 ⟨(au c 9 d.result (bR d) 4 s).2.pos,(au c 9 d.result (bR d) 4 s).2.temp,0,(au c 9 d.result (bR d) 4 s).2.name⟩ else au c 9 d.result (bR d) 4 s
def bare (d : DefT) : Prop:=d.kind = 0\/d.kind = 1
instance (d : DefT) : Decidable (bare d):=by unfold bare;exact inferInstance
def bP (ms : List ModT) (l : List Int) : Nat->Nat->List DefT->MkS->List DefT×MkS
 | 0,_,ds,s=>(ds,s)
 | m+1,i,ds,s=>if bare (ds.getD i ku) then bP ms l m (i+1) ds s
  else bP ms l m (i+1) (ds.set i ((ds.getD i ku).setBody (iO ⟨⟨ms,ds⟩,l,i,(ds.getD i ku).mod⟩ (ds.getD i ku) ⟨s.pos,s.temp,14,0⟩).1)) (iO ⟨⟨ms,ds⟩,l,i,(ds.getD i ku).mod⟩ (ds.getD i ku) ⟨s.pos,s.temp,14,0⟩).2
def bx : List IdT->List Int->Int->List IdT
 | ids,[],_=>ids
 | ids,k::ks,nx=>bx (ids.set k.toNat (idK nx)) ks (nx+1)
theorem iF : ∀ (ids : List IdT) (ks : List Int) (nx : Int),(bx ids ks nx).length = ids.length
 | ids,[],_=>rfl
 | ids,k::ks,nx=>by rw [bx,iF,List.length_set]
theorem mL : ∀ (ids : List IdT) (a b : List Int) (nx : Int),bx ids (a++b) nx = bx (bx ids a nx) b (nx+a.length)
 | ids,[],b,nx=>by simp [bx]
 | ids,k::a,b,nx=>by rw [List.cons_append,bx,bx,mL,List.length_cons,show nx+1+(a.length : Int) = nx+((a.length+1 : Nat) : Int) by omega]
def gy : Nat->Nat->List DefT->List IdT->Int->List DefT
 | 0,_,ds,_,_=>ds
 | m+1,i,ds,ids,nx=>if bare (ds.getD i ku) then gy m (i+1) ds ids nx
  else gy m (i+1) (ds.set i ((ds.getD i ku).setBody (eN (bx ids (ds.getD i ku).body.post nx) (ds.getD i ku).body))) (bx ids (ds.getD i ku).body.post nx) (nx+(ds.getD i ku).body.post.length)
def kC (l : List Int) : List DefT×MkS:=bP (dH l) l (aU l).length 0 (aU l) ⟨24,0,0,0⟩
def aX (l : List Int) : ProgT:=⟨dH l,gy (aU l).length 0 (kC l).1 (List.replicate (kC l).2.temp.toNat id0) (iH l)⟩
structure Names (p : ProgT) : Prop where
 inj : ∀ i j (hi : i < p.defs.length) (hj : j < p.defs.length),p.defs[i].id = p.defs[j].id->i = j
 gs : ∀ d∈p.defs,∀ s∈d.slots,gTy p s.ty
 gr : ∀ d∈p.defs,gTy p d.result
 kd : ∀ d∈p.defs,0<=d.kind/\d.kind<=5
theorem Names.the {p : ProgT} (h : Names p) {d : DefT} (hd : d∈p.defs) : aj p d.id = d:=by
 obtain ⟨k,hk,rfl⟩:=List.mem_iff_getElem.1 hd
 exact (gd hk (fun j hj hlt e=>by have:=h.inj j k hj hk e;omega) rfl).2
theorem Names.has {p : ProgT} {d : DefT} (hd : d∈p.defs) : cT p d.id:=⟨d,hd,rfl⟩
theorem oE {ms ns : List ModT} {a b : List DefT} (h : dG a b) {t : Ty} (ht : gTy ⟨ns,b⟩ t) : gTy ⟨ms,a⟩ t:=by
 rcases ht with ht | ht | ht | ⟨d,hd,hk,ht⟩
 ·exact .inl ht
 ·exact .inr (.inl ht)
 ·exact .inr (.inr (.inl ht))
 ·have h' : dG b a:=h.symm
  obtain ⟨e,he,hs⟩:=h'.mem hd
  have:=cL hs
  exact .inr (.inr (.inr ⟨e,he,by rw [<-this.2.1];exact hk,by rw [<-this.1];exact ht⟩))
theorem Names.like {ms ns : List ModT} {a b : List DefT} (hb : Names ⟨ns,b⟩) (h : dG a b) : Names ⟨ms,a⟩:=by
 have get : ∀ d∈a,∃ e∈b,d.id = e.id/\d.kind = e.kind/\d.slots = e.slots/\d.result = e.result:=fun d hd=>by
  obtain ⟨e,he,hs⟩:=h.mem hd
  have:=cL hs
  exact ⟨e,he,this.1,this.2.1,this.2.2.2.2.1,this.2.2.2.2.2.1⟩
 have hl:=h.len
 refine ⟨fun i j hi hj e=>?_,fun d hd s hs=>?_,fun d hd=>?_,fun d hd=>?_⟩
 ·have hi' : i < b.length:=by rw [<-hl];exact hi
  have hj' : j < b.length:=by rw [<-hl];exact hj
  have e1:=(cL (h.get hi hi')).1
  have e2:=(cL (h.get hj hj')).1
  exact hb.inj i j hi' hj' (by rw [<-e1,<-e2];exact e)
 all_goals obtain ⟨e,he,h1,h2,h3,h4⟩:=get d hd
 ·rw [h3] at hs;exact oE h (hb.gs e he s hs)
 ·rw [h4];exact oE h (hb.gr e he)
 ·rw [h2];exact hb.kd e he
theorem Base.gctx {c : MkC} {R : Nat} (hb : Base c.p R) (hn : Names c.p) : GCtx c R :=
 ⟨hb.gen,hb.d0,fun _ hd=>hn.the hd,hn.gs,hn.gr⟩
theorem rY (l : List Int) : Names ⟨dH l,aU l⟩:=by
 have hn : 1<=ax l:=by rcases jv l with h | h <;> omega
 unfold aU
 generalize hps : gA l = ps
 have hok : ∀ p∈ps,PlanOk l (ax l) p:=by rw [<-hps];exact kY hn
 have hlen:=gh l (ax l)
 unfold gA at hps
 rw [hps] at hlen
 generalize ax l+(ps.length : Int) = next
 generalize dH l = ms
 have hdl:=cx ps (ax l) next
 have own : ∀ {k : Int} {j : Nat},k = ax l+j->∀ hj : j < ps.length,(ps[j].kind = 0\/ps[j].kind = 1)->gTy ⟨ms,aP ps (ax l) next⟩ (tyD k):=fun {k j} hkj hj hk=>by
  refine .inr (.inr (.inr ⟨(aP ps (ax l) next)[j]'(by omega),List.getElem_mem _,?_,?_⟩))
  ·rw [cV ps _ _ hj];exact hk
  ·rw [cV ps _ _ hj,hkj];rfl
 have g0 : gTy ⟨ms,aP ps (ax l) next⟩ (tyD (ax l)):=own (j:=0) (by omega) (by omega) (by subst hps;exact .inl rfl)
 have g1 : gTy ⟨ms,aP ps (ax l) next⟩ (tyD (ax l+1)):=own (j:=1) (by omega) (by omega) (by subst hps;exact .inr rfl)
 have g23 : ek l = true->gTy ⟨ms,aP ps (ax l) next⟩ (tyD (ax l+2))/\gTy ⟨ms,aP ps (ax l) next⟩ (tyD (ax l+3)):=fun hf=>by
  have h2 : 2 < ps.length:=by omega
  have h3 : 3 < ps.length:=by omega
  have ep2 : ps[2] = iG l (ax l):=by
   have : ps[2]? = some (iG l (ax l)):=by rw [<-hps];unfold bp eF eG;rw [if_pos hf];rfl
   rw [List.getElem?_eq_getElem h2] at this
   exact Option.some.inj this
  have ep3 : ps[3] = nA (ax l):=by
   have : ps[3]? = some (nA (ax l)):=by rw [<-hps];unfold bp eF eG;rw [if_pos hf];rfl
   rw [List.getElem?_eq_getElem h3] at this
   exact Option.some.inj this
  exact ⟨own (j:=2) (by omega) h2 (by rw [ep2];exact .inl rfl),own (j:=3) (by omega) h3 (by rw [ep3];exact .inl rfl)⟩
 have all : ∀ t,mE l (ax l) t->gTy ⟨ms,aP ps (ax l) next⟩ t:=fun t h=>by
  rcases h with h | h | h | h | h | ⟨hf,h | h⟩
  ·exact .inl h
  ·exact .inr (.inl h)
  ·exact .inr (.inr (.inl h))
  ·rw [h];exact g0
  ·rw [h];exact g1
  ·rw [h];exact (g23 hf).1
  ·rw [h];exact (g23 hf).2
 have get : ∀ d∈aP ps (ax l) next,∃ j,∃ hj : j < ps.length,d = gV ps[j] (ax l+j) (next+dF (ps.take j)):=fun d hd=>by
  obtain ⟨j,hj,rfl⟩:=List.mem_iff_getElem.1 hd
  exact ⟨j,by rw [hdl] at hj;exact hj,cV ps _ _ _ _⟩
 refine ⟨fun i j hi hj e=>?_,fun d hd s hs=>?_,fun d hd=>?_,fun d hd=>?_⟩
 ·have hi' : i < ps.length:=by have : i < (aP ps (ax l) next).length:=hi;omega
  have hj' : j < ps.length:=by have : j < (aP ps (ax l) next).length:=hj;omega
  have e' : idK (ax l+i) = idK (ax l+j):=by
   have h1:=cV ps (ax l) next hi' hi
   have h2:=cV ps (ax l) next hj' hj
   dsimp only at e
   rw [h1,h2] at e
   exact e
  rcases Nat.lt_trichotomy i j with h | h | h
  ·exact absurd e' (pq (by omega) (by omega) (by omega))
  ·exact h
  ·exact absurd e' (pq (by omega) (by omega) (by omega))
 all_goals obtain ⟨j,hj,rfl⟩:=get d hd
 all_goals have ok:=hok _ (List.getElem_mem hj)
 ·exact all _ (ok.tys _ (eI hs)).up
 ·exact all _ ok.res
 ·exact ok.kind
theorem ng (l : List Int) : ∀ d∈aU l,∀ s∈d.slots,s.id.seq ≠ 0:=by
 intro d hd s hs
 have hn : 1<=ax l:=by rcases jv l with h | h <;> omega
 obtain ⟨j,hj,rfl⟩:=List.mem_iff_getElem.1 hd
 unfold aU at hs hj
 rw [cV _ _ _ (by rw [cx] at hj;exact hj)] at hs
 unfold gV dz at hs
 dsimp only at hs
 obtain ⟨k,hk,rfl⟩:=List.mem_map.1 hs
 unfold idK
 dsimp only
 rw [Int.tdiv_eq_ediv_of_nonneg (by omega)]
 omega
theorem zn {a b : List DefT} (h : dG a b) (hb : ∀ d∈b,∀ s∈d.slots,s.id.seq ≠ 0) : ∀ d∈a,∀ s∈d.slots,s.id.seq ≠ 0:=fun d hd s hs=>by
 obtain ⟨e,he,hse⟩:=h.mem hd
 rw [(cL hse).2.2.2.2.1] at hs
 exact hb e he s hs
theorem qc {Ts : Nat->Int} : ∀ (l : List Ex) (k : Nat),(∀ i (h : i < l.length),(l[i].size : Int)+Ts (k+i)<=Ts (k+i+1))->(Ex.sizes l : Int)+Ts k<=Ts (k+l.length)
 | [],k,_=>by simp [Ex.sizes]
 | e::l,k,h=>by
  have h0:=h 0 (by simp)
  have h1:=qc l (k+1) fun i hi=>by
   have:=h (i+1) (by simpa using hi)
   rw [show k+1+i = k+(i+1) by omega]
   exact this
  simp only [Ex.sizes,List.length_cons]
  rw [show k+(l.length+1) = k+1+l.length by omega]
  simp only [List.getElem_cons_zero,Nat.add_zero] at h0
  omega
theorem Mk.size {c : MkC} {t : Ty} {env : List Bnd} {T T' : Int} {e : Ex} (h : Mk c t env T e T') : (e.size : Int)+T<=T':=by
 have row : ∀ {l : List Ex} {Ts : Nat->Int},(∀ i (h : i < l.length),(l[i].size : Int)+Ts i<=Ts (i+1))->(Ex.sizes l : Int)+Ts 0<=Ts l.length:=fun {l Ts} h=>by
  have:=qc (Ts:=Ts) l 0 fun i hi=>by rw [Nat.zero_add];exact h i hi
  rwa [Nat.zero_add] at this
 induction h with
 | int _=>rw [Ex.size_eq];show ((1+0 : Nat) : Int)+_<=_;omega
 | bool _=>rw [Ex.size_eq];show ((1+0 : Nat) : Int)+_<=_;omega
 | var _=>rw [Ex.size_eq];show ((1+0 : Nat) : Int)+_<=_;omega
 | @list env T kids Ts _ h0 _ ih=>rw [Ex.size_eq];have:=row ih;show ((1+Ex.sizes kids : Nat) : Int)+_<=_;omega
 | @kase env T T1 d k e _ _ _ hm ih=>rw [Ex.size_eq];show ((1+(e.size+0) : Nat) : Int)+_<=_;omega
 | @recd env T d kids _ _ Ts _ h0 hm ih=>rw [Ex.size_eq];have:=row ih;show ((1+Ex.sizes kids : Nat) : Int)+_<=_;omega
 | @len env T T1 a hm ih=>rw [Ex.size_eq];show ((1+(a.size+0) : Nat) : Int)+_<=_;omega
 | @not env T T1 a hm ih=>rw [Ex.size_eq];show ((1+(a.size+0) : Nat) : Int)+_<=_;omega
 | @both t u env T T1 T2 n a b _ ha hb ih1 ih2=>rw [Ex.size_eq];show ((1+(a.size+(b.size+0)) : Nat) : Int)+_<=_;omega
 | @ife t env T T1 T2 T3 a b e ha hb he ih1 ih2 ih3=>rw [Ex.size_eq];show ((1+(a.size+(b.size+(e.size+0))) : Nat) : Int)+_<=_;omega
 | @lete t u env T T1 T2 a b m ha hb ih1 ih2=>rw [Ex.size_eq];show ((1+(a.size+(b.size+0)) : Nat) : Int)+_<=_;omega
 | @fold t env T T1 T2 T3 a b e m m2 ha hb he ih1 ih2 ih3=>rw [Ex.size_eq];show ((1+(a.size+(b.size+(e.size+0))) : Nat) : Int)+_<=_;omega
 | @mat t env T T1 d a kids ms _ _ Ts _ _ ha h0 hm ih1 ih=>rw [Ex.size_eq];have:=row ih;show ((1+(a.size+Ex.sizes kids) : Nat) : Int)+_<=_;omega
 | @field env T T1 d j a _ _ _ hm ih=>rw [Ex.size_eq];show ((1+(a.size+0) : Nat) : Int)+_<=_;omega
 | @call env T k kids _ _ _ Ts _ h0 hm ih=>rw [Ex.size_eq];have:=row ih;show ((1+Ex.sizes kids : Nat) : Int)+_<=_;omega
def Us (P : Int) (s : MkS) : Prop:=0<=s.pos/\s.pos<=P/\0<=s.temp/\s.temp<=P/\-P<=s.left/\s.left<=1099511627776/\0<=s.name/\s.name<=P
theorem Us.bd {P B : Int} {s : MkS} (h : Us P s) (hP : P+B<=1099511627776) : Bd B s:=by unfold Us at h;unfold Bd;omega
theorem ze {g : GX} {q P : Int} (hg : GBd q g) (hq : 0<=q) {t : Ty} {env : List Bnd} {d : Int} {s : MkS} (h : Us P s) (hP : P+q<=1099511627776) : Us (P+q) (g t env d s).2:=by
 have:=hg t env d s (1099511627776 - P - q) (by omega) (h.bd (by omega))
 unfold Us at *
 unfold Bd at this
 omega
theorem pM (d : DefT) : (bR d).length = d.slots.length:=by simp [bR]
theorem ie {d : DefT} {b : Bnd} (h : b∈bR d) : ∃ s∈d.slots,b = ⟨s.id,0,s.ty⟩:=by
 obtain ⟨s,hs,rfl⟩:=List.mem_map.1 h
 exact ⟨s,hs,rfl⟩
theorem Ep {p : ProgT} {t : Ty} (h : wfT p 5 t) : okT p 5 9 t 4:=.inr ⟨by omega,h,by omega⟩
theorem Er {p : ProgT} {t : Ty} (h : wfT p 5 t) : okT p 5 9 t 0:=.inl ⟨by omega,bE (by omega) h⟩
theorem Mk.like {c c' : MkC} (hl : dG c.p.defs c'.p.defs) (hm : c.p.mods = c'.p.mods) (ho : c.own = c'.own) (hh : c.home = c'.home) {t : Ty} {env : List Bnd} {T T' : Int} {e : Ex} (h : Mk c t env T e T') : Mk c' t env T e T':=by
 have get : ∀ d∈c.p.defs,∃ d'∈c'.p.defs,d'.id = d.id/\d'.kind = d.kind/\d'.slots = d.slots:=fun d hd=>by
  obtain ⟨d',hd',hs⟩:=hl.mem hd
  have:=cL hs
  exact ⟨d',hd',this.1.symm,this.2.1.symm,this.2.2.2.2.1.symm⟩
 induction h with
 | int h=>exact Mk.int h
 | bool h=>exact Mk.bool h
 | var h=>exact Mk.var h
 | list Ts hl h0 _ ih=>exact Mk.list Ts hl h0 ih
 | kase hd hk h _ ih =>
  obtain ⟨d',hd',e1,e2,e3⟩:=get _ hd
  have:=Mk.kase hd' (by rw [e2];exact hk) (by rw [e3];exact h) (by rw [List.getElem_of_eq e3];exact ih)
  rwa [e1] at this
 | recd hd hk Ts hn h0 _ ih =>
  obtain ⟨d',hd',e1,e2,e3⟩:=get _ hd
  have:=Mk.recd hd' (by rw [e2];exact hk) Ts (by rw [e3];exact hn) h0 fun i hi=>by rw [List.getElem_of_eq e3];exact ih i hi
  rwa [e1] at this
 | len _ ih=>exact Mk.len ih
 | not _ ih=>exact Mk.not ih
 | both h _ _ ih1 ih2=>exact Mk.both h ih1 ih2
 | ife _ _ _ ih1 ih2 ih3=>exact Mk.ife ih1 ih2 ih3
 | lete _ _ ih1 ih2=>exact Mk.lete ih1 ih2
 | fold _ _ _ ih1 ih2 ih3=>exact Mk.fold ih1 ih2 ih3
 | mat hd hk Ts hn hms _ h0 _ ih1 ih =>
  obtain ⟨d',hd',e1,e2,e3⟩:=get _ hd
  have:=Mk.mat hd' (by rw [e2];exact hk) Ts (by rw [e3];exact hn) (by rw [e3];exact hms) (by rw [e1];exact ih1) h0 fun i hi=>by rw [List.getElem_of_eq e3];exact ih i hi
  rwa [e1] at this
 | field hd hk h _ ih =>
  obtain ⟨d',hd',e1,e2,e3⟩:=get _ hd
  have:=Mk.field hd' (by rw [e2];exact hk) (by rw [e3];exact h) (by rw [e1];exact ih)
  rwa [e1,List.getElem_of_eq e3] at this
 | @call env T k kids hd hk hv Ts hn h0 _ ih =>
  have hd' : k < c'.p.defs.length:=by rw [<-hl.len];exact hd
  have e:=cL (hl.get hd hd')
  have hv' : iR c' k:=by
   unfold iR bG modA at hv ⊢
   rw [List.getD_eq_getElem?_getD,List.getElem?_eq_getElem hd] at hv
   rw [List.getD_eq_getElem?_getD,List.getElem?_eq_getElem hd']
   rw [<-ho,<-hh,<-hm]
   have e3:=e.2.2.1
   simp only [Option.getD_some] at hv ⊢
   rw [<-e3]
   exact hv
  have:=Mk.call (c:=c') (env:=env) (kids:=kids) hd' (by rw [<-e.2.1];exact hk) hv' Ts (by rw [<-e.2.2.2.2.1];exact hn) h0 fun i hi=>by rw [List.getElem_of_eq e.2.2.2.2.1.symm];exact ih i hi
  rwa [<-e.1,<-e.2.2.2.2.2.1] at this
theorem BP {c : MkC} {d : DefT} {s : MkS} (hb : Base c.p 5) (hn : Names c.p) {i : Nat} (hi : i < c.p.defs.length) (hd' : c.p.defs[i] = d) (ho : c.own = i) {P : Int} (hs : Us P s) (hP : P+2 * 9 ^ 9<=1000000000000) :
  Us (P+2 * 9 ^ 9) (iO c d s).2/\∃ T,s.temp<=T/\Mk c d.result (bR d) T (iO c d s).1 (iO c d s).2.temp:=by
 have hd : d∈c.p.defs:=by rw [<-hd'];exact List.getElem_mem hi
 have hg:=oJ (hb.gctx hn) 9
 have bd:=cO hb.gen.short 9
 have h0 : 0 < (bR d).length:=by rw [pM];exact hb.e0 d hd
 have he : ∀ b∈bR d,wfT c.p 5 b.ty/\gTy c.p b.ty:=fun b hb'=>by
  obtain ⟨x,hx,rfl⟩:=ie hb'
  exact ⟨hb.gen.slot d hd x hx,hn.gs d hd x hx⟩
 have h9 : (9 : Int) ^ 9 = 387420489:=by decide
 have w:=hb.resA d hd
 have m1:=hg d.result (bR d) 4 s h0 he (Ep w) (hn.gr d hd)
 have u1:=ze bd (by omega) (t:=d.result) (env:=bR d) (d:=4) hs (by omega)
 unfold iO
 generalize au c 9 d.result (bR d) 4 s = r at m1 u1 ⊢
 split
 ·have hlk : dG (c.with d r.1).p.defs c.p.defs:=by
   show dG (c.p.defs.set c.own.toNat (d.setBody r.1)) c.p.defs
   rw [ho,Int.toNat_natCast,<-hd']
   exact (dG.refl _).set hi r.1
  have hb2 : Base (c.with d r.1).p 5:=Base.like (ms:=c.p.mods) hb hlk
  have hn2 : Names (c.with d r.1).p:=Names.like (ms:=c.p.mods) (ns:=c.p.mods) hn hlk
  have u0 : Us (P+9 ^ 9) ⟨r.2.pos,r.2.temp,0,r.2.name⟩:=by unfold Us at u1 ⊢;dsimp only;omega
  have m2:=oJ (hb2.gctx hn2) 9 d.result (bR d) 0 ⟨r.2.pos,r.2.temp,0,r.2.name⟩ h0 (fun b hb'=>⟨hlk.wf (ms:=c.p.mods) (ns:=c.p.mods) _ _ (he b hb').1,oE (ms:=c.p.mods) (ns:=c.p.mods) hlk (he b hb').2⟩) (Er (hlk.wf (ms:=c.p.mods) (ns:=c.p.mods) _ _ w)) (oE (ms:=c.p.mods) (ns:=c.p.mods) hlk (hn.gr d hd))
  have u2:=ze (cO hb2.gen.short 9) (by omega) (t:=d.result) (env:=bR d) (d:=0) u0 (by omega)
  exact ⟨by unfold Us at u2 ⊢;omega,r.2.temp,by have:=m1.lt;omega,m2.like hlk rfl rfl rfl⟩
 ·exact ⟨by unfold Us at u1 ⊢;omega,s.temp,Int.le_refl _,m1⟩
end Xe

namespace Go.Proofs.YtanbipbiblikbaaDoor
open Xe Pm
def lA (Is : Sig->St'->St'->Prop) (K : St'->Prop) : St'->Prop:=Lp (fun gY cD=>aa (cell (ent cD 0) 0) fun z234=>aa (cell (ent cD 1) 0) fun z235=>ah 31 (cell (ent cD 5) 0) fun n236 c237
 => ifK (decide (z235 < (n236 : Int))) (ckK (0<=z235/\z235 < (n236 : Int)) (aa (cell (el c237 31 (Int.toNat z235)) 3) fun z238=>ifK (decide
 (z238 = (0 : Int))) (ckK (okI (z235+1)) (gY [[vI z234],[vI (z235+1)],ent cD 2,[cell (ent cD 3) 0],cls (ent cD 4) 0 10 [],[.sl
 n236 31 c237]])) (aa (cell (el c237 31 (Int.toNat z235)) 3) fun z239=>ifK (decide (z239 = (1 : Int))) (ckK (okI (z235+1)) (gY [[vI z234],
 [vI (z235+1)],ent cD 2,[cell (ent cD 3) 0],cls (ent cD 4) 0 10 [],[.sl n236 31 c237]])) (Lp (fun wC bS=>aa (cell (ent
 bS 0) 0) fun z242=>aa (cell (ent bS 1) 0) fun z243=>aa (cell (ent bS 2) 0) fun z244=>ah 9 (cell (ent bS 7) 0) fun n245 c246
 => ah 31 (cell (ent bS 8) 0) fun n247 c248=>ah 11 (cell (ent bS 6) 8) fun n249 c250=>ifK (decide (z244 < (n249 : Int))) (ah 11 (cell
 (ent bS 6) 8) fun n251 c252=>ckK (0<=z244/\z244 < (n251 : Int)) (ah 11 (cell (ent bS 6) 8) fun n253 c254=>ckK (0<=z244/\z244 < (n253
 : Int)) (ckK (room (n245+1) 89) (ckK (okI (z244+1)) (wC [[vI z242],[vI z243],[vI (z244+1)],ent bS 3,[cell (ent bS 4) 0],cls
 (ent bS 5) 0 10 [],ent bS 6,[.sl (n245+1) 9 (c246++(cls (sub (el c252 11 (Int.toNat z244)) 0 3) 0 3 (vI 0::cls (sub (el c254 11
 (Int.toNat z244)) 4 5) 0 5 [])))],[.sl n247 31 c248]]))))) (caK Is s49 [sub (ent bS 6) 9 5,[.sl n245 9 c246],[vI 4],cls (ent bS 5) 0 4 (vI
 14::vI z243::cls (sub (ent bS 6) 4 3) 0 3 [vI 0]),[.sl n247 31 c248]] fun r255=>ah 1 (cell (ent r255 1) 0) fun n256 c257=>ah 31
 (cell (ent r255 3) 0) fun n258 c259=>ckK (0<=z243/\z243 < (n258 : Int)) (ckK (0<=z243/\z243 < (n258 : Int)) (caK Is s50 [sub (el (upd c259
 ((Int.toNat z243) * 31+14) (cls (ent r255 0) 0 14 [.sl n256 1 c257])) 31 (Int.toNat z243)) 14 15] fun r260=>aa (cell (ent r260 0) 0) fun z261
 => ifK (decide ((30 : Int) < z261)) (caK Is s49 [sub (ent bS 6) 9 5,[.sl n245 9 c246],[vI 0],cls (ent r255 2) 0 4 (vI 0::cls (ent r255 2) 5
 5 []),[.sl n258 31 (upd c259 ((Int.toNat z243) * 31+14) (cls (ent r255 0) 0 14 [.sl n256 1 c257]))]] fun r262=>ah 1 (cell (ent r262 1) 0) fun
 n263 c264=>ah 31 (cell (ent r262 3) 0) fun n265 c266=>ckK (0<=z243/\z243 < (n265 : Int)) (ckK (okI (z243+1)) (gY [[vI z242],[vI
 (z243+1)],ent bS 3,[cell (ent bS 4) 0],cls (ent r262 2) 0 10 [],[.sl n265 31 (upd c266 ((Int.toNat z243) * 31+14) (cls (ent r262 0) 0
 14 [.sl n263 1 c264]))]]))) (ckK (okI (z243+1)) (gY [[vI z242],[vI (z243+1)],ent bS 3,[cell (ent bS 4) 0],cls (ent r255 2) 0 10
 [],[.sl n258 31 (upd c259 ((Int.toNat z243) * 31+14) (cls (ent r255 0) 0 14 [.sl n256 1 c257]))]])))))) [[vI z234],[vI z235],[vI 0],ent cD
 2,[cell (ent cD 3) 0],cls (ent cD 4) 0 10 [],el c237 31 (Int.toNat z235),[.sl 0 9 []],[.sl n236 31 c237]])))) (aa (cell (ent cD 4)
 3) fun z267=>aa (cell (ent cD 4) 3) fun z268=>ckK (0<=z267/\z267 = z268/\room (Int.toNat z267) 25) (Lp (fun j3 eE=>aa (cell
 (ent eE 0) 0) fun z271=>aa (cell (ent eE 1) 0) fun z272=>ah 3 (cell (ent eE 4) 0) fun n273 c274=>ah 31 (cell (ent eE 5) 0)
 fun n275 c276=>ifK (decide (z272 < (n275 : Int))) (ckK (0<=z272/\z272 < (n275 : Int)) (aa (cell (el c276 31 (Int.toNat z272)) 3) fun z277 =>
 ifK (decide (z277 = (0 : Int))) (ckK (okI (z272+1)) (j3 [[vI z271],[vI (z272+1)],ent eE 2,[cell (ent eE 3) 0],[.sl n273 3 c274],
 [.sl n275 31 c276]])) (ckK (0<=z272/\z272 < (n275 : Int)) (aa (cell (el c276 31 (Int.toNat z272)) 3) fun z278=>ifK (decide (z278 = (1 : Int)))
 (ckK (okI (z272+1)) (j3 [[vI z271],[vI (z272+1)],ent eE 2,[cell (ent eE 3) 0],[.sl n273 3 c274],[.sl n275 31 c276]])) (ckK (0 <=
 z272/\z272 < (n275 : Int)) (caK Is s51 [sub (el c276 31 (Int.toNat z272)) 14 15,[.sl 0 1 []]] fun r279=>ah 1 (cell (ent r279 0) 0) fun n280
 c281=>Lp (fun wB eT=>aa (cell (ent eT 0) 0) fun z284=>aa (cell (ent eT 1) 0) fun z285=>aa (cell (ent eT 2) 0) fun
 z286=>ah 3 (cell (ent eT 5) 0) fun n287 c288=>ah 1 (cell (ent eT 6) 0) fun n289 c290=>ah 31 (cell (ent eT 7) 0) fun n291 c292
 => ifK (decide (z286 < (n289 : Int))) (ckK (0<=z286/\z286 < (n289 : Int)) (caK Is s39 [[vI z284]] fun r293=>aa (cell (el c290 1 (Int.toNat
 z286)) 0) fun z294=>ckK (0<=z294/\z294 < (n287 : Int)) (ckK (okI (z284+1)) (ckK (okI (z286+1)) (wB [[vI (z284+1)],[vI z285],[vI
 (z286+1)],ent eT 3,[cell (ent eT 4) 0],[.sl n287 3 (upd c288 ((Int.toNat z294) * 3+0) (ent r293 0))],[.sl n289 1 c290],[.sl n291 31
 c292]]))))) (ckK (0<=z285/\z285 < (n291 : Int)) (caK Is s52 [sub (el c292 31 (Int.toNat z285)) 14 15,[.sl n287 3 c288]] fun r295=>ah 15 (cell
 (ent r295 1) 0) fun n296 c297=>ah 3 (cell (ent r295 2) 0) fun n298 c299=>ckK (0<=z285/\z285 < (n291 : Int)) (ckK (okI (z285+1)) (j3
 [[vI z284],[vI (z285+1)],ent eT 3,[cell (ent eT 4) 0],[.sl n298 3 c299],[.sl n291 31 (upd c292 ((Int.toNat z285) * 31+14) (cls (ent
 r295 0) 0 13 [.sl n296 15 c297,cell (ent r295 0) 13]))]]))))) [[vI z271],[vI z272],[vI 0],ent eE 2,[cell (ent eE 3) 0],[.sl n273 3
 c274],[.sl n280 1 c281],[.sl n275 31 c276]])))))) (K [[cell (ent eE 3) 0,.sl n275 31 c276]])) [[vI z234],[vI 0],ent cD 2,[cell (ent
 cD 3) 0],[.sl (Int.toNat z267) 3 (List.flatten (List.replicate (Int.toNat z267) [vI 0,vI 0,vI 0]))],[.sl n236 31 c237]])))
theorem yw {α : Type} {enc : α->List D} {sz : Nat} (he : ∀ x,(enc x).length = sz) (xs : List α) {k : Nat} (hk : k < xs.length) {o : Nat} {vs : List D} {x' : α} (hx : enc x' = (enc xs[k]).take o++vs++(enc xs[k]).drop (o+vs.length)) (ho : o+vs.length<=sz) : upd (xs.flatMap enc) (k * sz+o) vs = (xs.set k x').flatMap enc:=by
 have e : xs = xs.take k++xs[k]::xs.drop (k+1):=by rw [<-List.drop_eq_getElem_cons hk,List.take_append_drop]
 have hl : (xs.take k).length = k:=by rw [List.length_take];omega
 have hA : ((xs.take k).flatMap enc).length = k * sz:=by
  rw [List.length_flatMap,List.map_congr_left (g:=fun _=>sz) (fun x _=>he x),List.map_const',List.sum_replicate_nat,hl]
 have e2 : xs.set k x' = xs.take k++x'::xs.drop (k+1):=by rw [List.set_eq_take_append_cons_drop,if_pos hk]
 have e3 : xs.flatMap enc = (xs.take k).flatMap enc++(enc xs[k]++(xs.drop (k+1)).flatMap enc):=by
  conv=>lhs;rw [e]
  rw [List.flatMap_append,List.flatMap_cons]
 rw [e2,List.flatMap_append,List.flatMap_cons,e3,hx]
 generalize (xs.take k).flatMap enc = A at hA ⊢
 generalize (xs.drop (k+1)).flatMap enc = B
 have hk':=he xs[k]
 generalize enc xs[k] = X at hk' ⊢
 unfold upd
 rw [List.take_append,List.drop_append,hA,List.take_of_length_le (show A.length<=k * sz+o by omega),List.drop_eq_nil_of_le (show A.length<=k * sz+o+vs.length by omega),show k * sz+o - k * sz = o by omega,show k * sz+o+vs.length - k * sz = o+vs.length by omega,
  List.take_append_of_le_length (by omega),List.drop_append_of_le_length (by omega)]
 simp
theorem rq (ds : List DefT) {k : Nat} (hk : k < ds.length) (e : Ex) : upd (ds.flatMap DefT.enc) (k * 31+14) e.enc = (ds.set k (ds[k].setBody e)).flatMap DefT.enc:=by
 refine yw DefT.aq ds hk ?_ (by rw [Ex.aq];decide)
 rw [Ex.ay]
 rfl
theorem upd_id (ids : List IdT) {k : Nat} (hk : k < ids.length) (i : IdT) : upd (ids.flatMap IdT.enc) (k * 3+0) i.enc = (ids.set k i).flatMap IdT.enc :=
 yw (enc:=IdT.enc) (fun _=>rfl) ids hk rfl (show 0+3<=3 by decide)
theorem E8 (n : Nat) : List.flatten (List.replicate n [vI 0,vI 0,vI 0]) = (List.replicate n id0).flatMap IdT.enc:=by
 rw [List.flatMap_def,List.map_replicate]
 rfl
theorem oD {α : Type} {l : List α} {k : Nat} {d : α} (h : k < l.length) : l.getD k d = l[k]:=by rw [List.getD_eq_getElem?_getD,List.getElem?_eq_getElem h];rfl
section
variable {l : List Int} {K : St'->Prop}
structure BI (l : List Int) (ms : List ModT) (ds0 : List DefT) (z : List DefT×MkS) (i : Nat) (ds : List DefT) (s : MkS) : Prop where
 le : i<=ds0.length
 lk : dG ds ds0
 go : bP ms l (ds0.length - i) i ds s = z
 us : 0<=s.pos/\s.pos+(ds0.length - i : Nat) * (2 * 9 ^ 9)<=100000000000/\0<=s.temp/\s.temp+(ds0.length - i : Nat) * (2 * 9 ^ 9)<=100000000000
 nm : ∀ k (hk : k < ds.length),k < i->¬ bare ds[k]->inB s.temp ds[k].body/\ds[k].body.size<=100000000000
theorem De (hl : ∀ x∈l,InI x) {ms : List ModT} {ds0 : List DefT} {z : List DefT×MkS} (hm : 0 < ms.length) (hb : Base ⟨ms,ds0⟩ 5) (hn : Names ⟨ms,ds0⟩) (hd8 : ds0.length<=8) {nx : Int} {zp : List D} (hsl : ∀ d∈ds0,∀ x∈d.slots,x.id.seq ≠ 0)
  (hgo : bP ms l ds0.length 0 ds0 ⟨24,0,0,0⟩ = z) {B : (St'->Prop)->St'->Prop} {s0 : St'} (e0 : s0 = [[vI nx],[vI 0],zp,[.sl ms.length 6 (ms.flatMap ModT.enc)],mkL ⟨⟨ms,ds0⟩,l,0,id0⟩ ⟨24,0,0,0⟩,[.sl ds0.length 31 (ds0.flatMap DefT.enc)]])
  (h : ∀ (i : Nat) (ds : List DefT) (s : MkS) (own : Int) (home : IdT) (next : St'->Prop),BI l ms ds0 z i ds s ->
   (∀ ds' s' own' home',BI l ms ds0 z (i+1) ds' s'->next [[vI nx],[vI (i+1 : Nat)],zp,[.sl ms.length 6 (ms.flatMap ModT.enc)],mkL ⟨⟨ms,ds'⟩,l,own',home'⟩ s',[.sl ds'.length 31 (ds'.flatMap DefT.enc)]]) ->
   B next [[vI nx],[vI (i : Nat)],zp,[.sl ms.length 6 (ms.flatMap ModT.enc)],mkL ⟨⟨ms,ds⟩,l,own,home⟩ s,[.sl ds.length 31 (ds.flatMap DefT.enc)]]) : Lp B s0:=by
 refine lT (σ:=Nat×List DefT×MkS×Int×IdT) (fun y=>[[vI nx],[vI (y.1 : Nat)],zp,[.sl ms.length 6 (ms.flatMap ModT.enc)],mkL ⟨⟨ms,y.2.1⟩,l,y.2.2.2.1,y.2.2.2.2⟩ y.2.2.1,[.sl y.2.1.length 31 (y.2.1.flatMap DefT.enc)]]) (fun y=>ds0.length - y.1) (fun y=>BI l ms ds0 z y.1 y.2.1 y.2.2.1)
  (0,ds0,⟨24,0,0,0⟩,0,id0) ⟨Nat.zero_le _,dG.refl _,hgo,⟨by show (0 : Int)<=24;decide,by show (24 : Int)+_<=_;rw [show (9 : Int) ^ 9 = 387420489 by decide];omega,by show (0 : Int)<=0;decide,by show (0 : Int)+_<=_;rw [show (9 : Int) ^ 9 = 387420489 by decide];omega⟩,fun k _ hk=>absurd hk (Nat.not_lt_zero _)⟩ e0 ?_
 rintro ⟨i,ds,s,own,home⟩ next hI hnx
 dsimp only at hI hnx ⊢
 refine h i ds s own home next hI fun ds' s' own' home' hI'=>?_
 have:=hI'.le
 exact hnx (i+1,ds',s',own',home') (by dsimp only;omega) hI'
theorem BI.skip {ms : List ModT} {ds0 ds : List DefT} {z : List DefT×MkS} {i : Nat} {s : MkS} (h : BI l ms ds0 z i ds s) (hi : i < ds.length) (hb : bare ds[i]) : BI l ms ds0 z (i+1) ds s:=by
 have hlen:=h.lk.len
 have hle:=h.le
 obtain ⟨m,hm⟩ : ∃ m,ds0.length - i = m+1:=⟨ds0.length - i - 1,by omega⟩
 have hgo:=h.go
 have hus:=h.us
 rw [hm] at hgo hus
 rw [bP,oD hi,if_pos hb] at hgo
 have e1 : ((m+1 : Nat) : Int) * (2 * 9 ^ 9) = m * (2 * 9 ^ 9)+2 * 9 ^ 9:=by rw [Int.natCast_add,Int.add_mul];simp
 have h9 : (9 : Int) ^ 9 = 387420489:=by decide
 refine ⟨by omega,h.lk,by rw [show ds0.length - (i+1) = m by omega];exact hgo,by rw [show ds0.length - (i+1) = m by omega];omega,fun k hk hlt hnb=>?_⟩
 by_cases e : k = i
 ·subst e;exact absurd hb hnb
 ·exact h.nm k hk (by omega) hnb
theorem BI.step {ms : List ModT} {ds0 ds : List DefT} {z : List DefT×MkS} {i : Nat} {s : MkS} (h : BI l ms ds0 z i ds s) (hd8 : ds0.length<=8) (hi : i < ds.length) (hnb : ¬ bare ds[i]) (hb : Base ⟨ms,ds⟩ 5) (hn : Names ⟨ms,ds⟩) (hsl : ∀ d∈ds,∀ x∈d.slots,x.id.seq ≠ 0) :
  BI l ms ds0 z (i+1) (ds.set i (ds[i].setBody (iO ⟨⟨ms,ds⟩,l,i,ds[i].mod⟩ ds[i] ⟨s.pos,s.temp,14,0⟩).1)) (iO ⟨⟨ms,ds⟩,l,i,ds[i].mod⟩ ds[i] ⟨s.pos,s.temp,14,0⟩).2:=by
 have hlen:=h.lk.len
 have hle:=h.le
 obtain ⟨m,hm⟩ : ∃ m,ds0.length - i = m+1:=⟨ds0.length - i - 1,by omega⟩
 have hgo:=h.go
 have hus:=h.us
 rw [hm] at hgo hus
 rw [bP,oD hi,if_neg hnb] at hgo
 have e1 : ((m+1 : Nat) : Int) * (2 * 9 ^ 9) = m * (2 * 9 ^ 9)+2 * 9 ^ 9:=by rw [Int.natCast_add,Int.add_mul];simp
 have h9 : (9 : Int) ^ 9 = 387420489:=by decide
 have hmn : (0 : Int)<=m * (2 * 9 ^ 9):=Int.mul_nonneg (by omega) (by omega)
 have hu : Us (100000000000 - (m * (2 * 9 ^ 9)+2 * 9 ^ 9)) ⟨s.pos,s.temp,14,0⟩:=by
  have : (m : Int) * (2 * 9 ^ 9)<=8 * (2 * 9 ^ 9):=Int.mul_le_mul_of_nonneg_right (by omega) (by omega)
  unfold Us;dsimp only;omega
 obtain ⟨hu2,T,hT,hmk⟩:=BP (c:=⟨⟨ms,ds⟩,l,i,ds[i].mod⟩) hb hn hi rfl rfl hu (by omega)
 generalize iO ⟨⟨ms,ds⟩,l,i,ds[i].mod⟩ ds[i] ⟨s.pos,s.temp,14,0⟩ = r at hgo hu2 hmk ⊢
 dsimp only at hT
 have hin : inB r.2.temp r.1:=hmk.inB (by omega) fun b hb' hs=>by
  obtain ⟨x,hx,rfl⟩:=ie hb'
  exact absurd hs (hsl _ (List.getElem_mem hi) x hx)
 have hlt:=hmk.lt
 have hsz:=hmk.size
 unfold Us at hu2
 refine ⟨by omega,h.lk.set hi _,by rw [show ds0.length - (i+1) = m by omega];exact hgo,by rw [show ds0.length - (i+1) = m by omega];omega,fun k hk hlt2 hnb'=>?_⟩
 by_cases e : k = i
 ·subst e
  simp only [List.getElem_set_self]
  refine ⟨hin,?_⟩
  show r.1.size<=100000000000
  omega
 ·have hk' : k < ds.length:=by simpa using hk
  have eg : (ds.set i (ds[i].setBody r.1))[k] = ds[k]:=by rw [List.getElem_set_ne (by omega)]
  rw [eg] at hnb' ⊢
  have:=h.nm k hk' (by omega) hnb'
  exact ⟨bO (by omega) this.1,this.2⟩
end
set_option maxHeartbeats 1000000
section
variable {l : List Int} {K : St'->Prop}
structure RI (ds0 : List DefT) (N : Nat) (out : List DefT) (i : Nat) (ds : List DefT) (ids : List IdT) (nx : Int) : Prop where
 le : i<=ds0.length
 lk : dG ds ds0
 go : gy (ds0.length - i) i ds ids nx = out
 len : ids.length = N
 nx0 : 0<=nx
 nx1 : nx+(ds0.length - i : Nat) * 1000000000000<=100000000000000
 nm : ∀ k (hk : k < ds.length),i<=k->¬ bare ds[k]->inB N ds[k].body/\ds[k].body.size<=100000000000
theorem RI.skip {ds0 ds out : List DefT} {N i : Nat} {ids : List IdT} {nx : Int} (h : RI ds0 N out i ds ids nx) (hi : i < ds.length) (hb : bare ds[i]) : RI ds0 N out (i+1) ds ids nx:=by
 have hlen:=h.lk.len
 have hle:=h.le
 obtain ⟨m,hm⟩ : ∃ m,ds0.length - i = m+1:=⟨ds0.length - i - 1,by omega⟩
 have hgo:=h.go
 have hnx:=h.nx1
 rw [hm] at hgo hnx
 rw [gy,oD hi,if_pos hb] at hgo
 exact ⟨by omega,h.lk,by rw [show ds0.length - (i+1) = m by omega];exact hgo,h.len,h.nx0,by rw [show ds0.length - (i+1) = m by omega];omega,fun k hk hlt=>h.nm k hk (by omega)⟩
theorem RI.step {ds0 ds out : List DefT} {N i : Nat} {ids : List IdT} {nx : Int} (h : RI ds0 N out i ds ids nx) (hi : i < ds.length) (hnb : ¬ bare ds[i]) :
  RI ds0 N out (i+1) (ds.set i (ds[i].setBody (eN (bx ids ds[i].body.post nx) ds[i].body))) (bx ids ds[i].body.post nx) (nx+ds[i].body.post.length):=by
 have hlen:=h.lk.len
 have hle:=h.le
 obtain ⟨m,hm⟩ : ∃ m,ds0.length - i = m+1:=⟨ds0.length - i - 1,by omega⟩
 have hgo:=h.go
 have hnx:=h.nx1
 have hn0:=h.nx0
 have hsz:=(h.nm i hi (Nat.le_refl _) hnb).2
 have hpl:=Ex.od ds[i].body
 rw [hm] at hgo hnx
 rw [gy,oD hi,if_neg hnb] at hgo
 refine ⟨by omega,h.lk.set hi _,by rw [show ds0.length - (i+1) = m by omega];exact hgo,by rw [iF];exact h.len,by omega,by rw [show ds0.length - (i+1) = m by omega];omega,fun k hk hlt hnb'=>?_⟩
 have hk' : k < ds.length:=by simpa using hk
 have eg : (ds.set i (ds[i].setBody (eN (bx ids ds[i].body.post nx) ds[i].body)))[k] = ds[k]:=by rw [List.getElem_set_ne (by omega)]
 rw [eg] at hnb' ⊢
 exact h.nm k hk' (by omega) hnb'
theorem EA {ds0 ds out : List DefT} {ids : List IdT} {nx : Int} {N : Nat} (hI0 : RI ds0 N out 0 ds ids nx) {zp md : List D} {B : (St'->Prop)->St'->Prop} {s0 : St'} (e0 : s0 = [[vI nx],[vI 0],zp,md,[.sl N 3 (ids.flatMap IdT.enc)],[.sl ds.length 31 (ds.flatMap DefT.enc)]])
  (h : ∀ (i : Nat) (ds : List DefT) (ids : List IdT) (nx : Int) (next : St'->Prop),RI ds0 N out i ds ids nx ->
   (∀ ds' ids' nx',RI ds0 N out (i+1) ds' ids' nx'->next [[vI nx'],[vI (i+1 : Nat)],zp,md,[.sl N 3 (ids'.flatMap IdT.enc)],[.sl ds'.length 31 (ds'.flatMap DefT.enc)]]) ->
   B next [[vI nx],[vI (i : Nat)],zp,md,[.sl N 3 (ids.flatMap IdT.enc)],[.sl ds.length 31 (ds.flatMap DefT.enc)]]) : Lp B s0:=by
 refine lT (σ:=Nat×List DefT×List IdT×Int) (fun y=>[[vI y.2.2.2],[vI (y.1 : Nat)],zp,md,[.sl N 3 (y.2.2.1.flatMap IdT.enc)],[.sl y.2.1.length 31 (y.2.1.flatMap DefT.enc)]]) (fun y=>ds0.length - y.1) (fun y=>RI ds0 N out y.1 y.2.1 y.2.2.1 y.2.2.2) (0,ds,ids,nx) hI0 e0 ?_
 rintro ⟨i,ds,ids,nx⟩ next hI hnx
 dsimp only at hI hnx ⊢
 refine h i ds ids nx next hI fun ds' ids' nx' hI'=>?_
 have:=hI'.le
 exact hnx (i+1,ds',ids',nx') (by dsimp only;omega) hI'
theorem qk (hl : ∀ x∈l,InI x) {ms : List ModT} {ds0 : List DefT} (hm : 0 < ms.length) (hb : Base ⟨ms,ds0⟩ 5) (hn : Names ⟨ms,ds0⟩) (hd8 : ds0.length<=8) {nx : Int} (hnx0 : 0<=nx/\nx<=1000000) (hsl : ∀ d∈ds0,∀ x∈d.slots,x.id.seq ≠ 0) {zp : List D}
  (hK : K [[.sl ms.length 6 (ms.flatMap ModT.enc),.sl (gy ds0.length 0 (bP ms l ds0.length 0 ds0 ⟨24,0,0,0⟩).1 (List.replicate (bP ms l ds0.length 0 ds0 ⟨24,0,0,0⟩).2.temp.toNat id0) nx).length 31 ((gy ds0.length 0 (bP ms l ds0.length 0 ds0 ⟨24,0,0,0⟩).1 (List.replicate (bP ms l ds0.length 0 ds0 ⟨24,0,0,0⟩).2.temp.toNat id0) nx).flatMap DefT.enc)]]) :
  lA IS K [[vI nx],[vI 0],zp,[.sl ms.length 6 (ms.flatMap ModT.enc)],mkL ⟨⟨ms,ds0⟩,l,0,id0⟩ ⟨24,0,0,0⟩,[.sl ds0.length 31 (ds0.flatMap DefT.enc)]]:=by
 unfold lA
 generalize hz : bP ms l ds0.length 0 ds0 ⟨24,0,0,0⟩ = z at hK
 refine De hl hm hb hn hd8 hsl hz rfl fun i ds s own home next hI hnx=>?_
 have hlen:=hI.lk.len
 have hle:=hI.le
 have hbd : Base ⟨ms,ds⟩ 5:=hb.like hI.lk
 have hnd : Names ⟨ms,ds⟩:=hn.like hI.lk
 simp only [pmr,pmg,pms]
 refine ⟨fun h=>?_,fun h=>?_⟩
 ·have hi : i < ds.length:=by omega
  rw [iL _ hi]
  simp only [pmr,pms]
  have hmem:=List.getElem_mem hi
  refine ⟨by omega,fun k0=>⟨by unfold okI;omega,hnx ds s own home (hI.skip hi (.inl k0))⟩,fun k0=>⟨fun k1=>⟨by unfold okI;omega,hnx ds s own home (hI.skip hi (.inr k1))⟩,fun k1=>?_⟩⟩
  have hnb : ¬ bare ds[i]:=fun h=>h.elim k0 k1
  have h3:=hbd.gen.short _ hmem
  refine cz ds[i].slots.length (fun k=>[[vI nx],[vI (i : Nat)],[vI (k : Nat)],zp,[.sl ms.length 6 (ms.flatMap ModT.enc)],mkL ⟨⟨ms,ds⟩,l,own,home⟩ s,ds[i].enc,[.sl k 9 (((bR ds[i]).take k).flatMap Bnd.enc)],[.sl ds.length 31 (ds.flatMap DefT.enc)]]) (fun _=>True) trivial rfl fun k x9 hk _ hn2=>?_
  simp only [pmr,pmg,pms]
  refine ⟨fun hk1=>?_,fun hk1=>?_⟩
  ·have hk2 : k < ds[i].slots.length:=by omega
   rw [lJ _ hk2]
   simp only [pmr,pms]
   have:=hn2 hk2 trivial
   have he : k < (bR ds[i]).length:=by rw [pM];exact hk2
   rw [List.take_succ_eq_append_getElem he,List.flatMap_append,List.flatMap_cons,List.flatMap_nil,List.append_nil] at this
   have eb : (bR ds[i])[k] = ⟨ds[i].slots[k].id,0,ds[i].slots[k].ty⟩:=by simp [bR]
   rw [eb] at this
   exact ⟨by omega,by omega,by unfold room;omega,by unfold okI;omega,this⟩
  ·obtain rfl : k = ds[i].slots.length:=by omega
   have el : ds[i].slots.length = (bR ds[i]).length:=(pM _).symm
   rw [List.take_of_length_le (by omega)]
   have hc : Ctx ⟨⟨ms,ds⟩,l,i,ds[i].mod⟩ 5:=⟨hbd.gen,hl,hm,hbd.d0,hbd.d1,hbd.sty,hbd.rty⟩
   have fit : ∀ dp : Int,okT ⟨ms,ds⟩ 5 9 ds[i].result dp->(0<=dp/\dp<=4)->Fit ⟨⟨ms,ds⟩,l,i,ds[i].mod⟩ 5 9 ds[i].result (bR ds[i]) dp:=fun dp ho hr=>⟨by have:=hbd.e0 _ hmem;omega,by omega,fun b hb'=>by
     obtain ⟨x,hx,rfl⟩:=ie hb'
     exact hbd.gen.slot _ hmem x hx,fun b hb'=>by
     obtain ⟨x,hx,rfl⟩:=ie hb'
     exact hbd.sty _ hmem x hx,hbd.rty _ hmem,ho,by omega⟩
   have hus:=hI.us
   have h9 : (9 : Int) ^ 9 = 387420489:=by decide
   have hm0 : (0 : Int)<=(ds0.length - i : Nat) * (2 * 9 ^ 9):=Int.mul_nonneg (by omega) (by omega)
   have hu : Us 100000000000 ⟨s.pos,s.temp,14,0⟩:=by unfold Us;dsimp only;omega
   have hw:=hbd.resA _ hmem
   refine ai (by rw [el];exact sN hc 9 ds[i].result (bR ds[i]) 4 ⟨s.pos,s.temp,14,0⟩ (fit 4 (Ep hw) (by omega)) (hu.bd (by omega))) ?_
   have hu1:=ze (cO (c:=⟨⟨ms,ds⟩,l,i,ds[i].mod⟩) hbd.gen.short 9) (show (0 : Int)<=9 ^ 9 by omega) (t:=ds[i].result) (env:=bR ds[i]) (d:=4) hu (by omega)
   have hmk:=oJ (c:=⟨⟨ms,ds⟩,l,i,ds[i].mod⟩) (hbd.gctx hnd) 9 ds[i].result (bR ds[i]) 4 ⟨s.pos,s.temp,14,0⟩ (by have:=hbd.e0 _ hmem;omega) (fun b hb'=>by
     obtain ⟨x,hx,rfl⟩:=ie hb'
     exact ⟨hbd.gen.slot _ hmem x hx,hnd.gs _ hmem x hx⟩) (Ep hw) (hnd.gr _ hmem)
   have hst:=hI.step hd8 hi hnb hbd hnd (zn hI.lk hsl)
   have hbo : iO ⟨⟨ms,ds⟩,l,i,ds[i].mod⟩ ds[i] ⟨s.pos,s.temp,14,0⟩ = if 30 < (au ⟨⟨ms,ds⟩,l,i,ds[i].mod⟩ 9 ds[i].result (bR ds[i]) 4 ⟨s.pos,s.temp,14,0⟩).1.size then au ⟨⟨ms,ds.set i (ds[i].setBody (au ⟨⟨ms,ds⟩,l,i,ds[i].mod⟩ 9 ds[i].result (bR ds[i]) 4 ⟨s.pos,s.temp,14,0⟩).1)⟩,l,i,ds[i].mod⟩ 9 ds[i].result (bR ds[i]) 0 ⟨(au ⟨⟨ms,ds⟩,l,i,ds[i].mod⟩ 9 ds[i].result (bR ds[i]) 4 ⟨s.pos,s.temp,14,0⟩).2.pos,(au ⟨⟨ms,ds⟩,l,i,ds[i].mod⟩ 9 ds[i].result (bR ds[i]) 4 ⟨s.pos,s.temp,14,0⟩).2.temp,0,(au ⟨⟨ms,ds⟩,l,i,ds[i].mod⟩ 9 ds[i].result (bR ds[i]) 4 ⟨s.pos,s.temp,14,0⟩).2.name⟩ else au ⟨⟨ms,ds⟩,l,i,ds[i].mod⟩ 9 ds[i].result (bR ds[i]) 4 ⟨s.pos,s.temp,14,0⟩:=rfl
   rw [hbo] at hst
   have hsz:=hmk.size
   generalize au ⟨⟨ms,ds⟩,l,i,ds[i].mod⟩ 9 ds[i].result (bR ds[i]) 4 ⟨s.pos,s.temp,14,0⟩ = r at hu1 hst hsz ⊢
   simp only [pmr,pmg]
   refine ⟨by omega,by omega,?_⟩
   rw [oA,rq ds hi,iL _ (show i < (ds.set i (ds[i].setBody r.1)).length by simpa using hi)]
   simp only [pms,List.getElem_set_self]
   have hu1':=hu1
   unfold Us at hu1'
   dsimp only at hsz
   refine ai (x4 r.1 (by omega)) ?_
   simp only [pmr]
   refine ⟨fun h30=>?_,fun h30=>?_⟩
   ·rw [if_pos (by omega)] at hst
    have hlk:=hI.lk.set hi r.1
    have hbd2 : Base ⟨ms,ds.set i (ds[i].setBody r.1)⟩ 5:=hb.like hlk
    have hc2 : Ctx ⟨⟨ms,ds.set i (ds[i].setBody r.1)⟩,l,i,ds[i].mod⟩ 5:=⟨hbd2.gen,hl,hm,hbd2.d0,hbd2.d1,hbd2.sty,hbd2.rty⟩
    have hl2 : dG (ds.set i (ds[i].setBody r.1)) ds:=(dG.refl ds).set hi r.1
    have fit2 : Fit ⟨⟨ms,ds.set i (ds[i].setBody r.1)⟩,l,i,ds[i].mod⟩ 5 9 ds[i].result (bR ds[i]) 0:=by
     have f:=fit 0 (Er hw) (by omega)
     exact ⟨f.e0,f.e1,fun b hb'=>hl2.wf _ _ (f.ew b hb'),f.es,f.ts,Er (hl2.wf _ _ hw),f.dp⟩
    have hu0 : Us (100000000000+9 ^ 9) ⟨r.2.pos,r.2.temp,0,r.2.name⟩:=by unfold Us;dsimp only;omega
    have hcall:=sN hc2 9 ds[i].result (bR ds[i]) 0 ⟨r.2.pos,r.2.temp,0,r.2.name⟩ fit2 (hu0.bd (by omega))
    simp only [pmg,bK,List.length_set,<-el] at hcall
    refine ai hcall ?_
    clear hcall
    generalize au ⟨⟨ms,ds.set i (ds[i].setBody r.1)⟩,l,i,ds[i].mod⟩ 9 ds[i].result (bR ds[i]) 0 ⟨r.2.pos,r.2.temp,0,r.2.name⟩ = r2 at hst ⊢
    simp only [pmr,pmg]
    rw [oA,rq (ds.set i (ds[i].setBody r.1)) (show i < (ds.set i (ds[i].setBody r.1)).length by simpa using hi)]
    have:=hnx _ _ i ds[i].mod hst
    refine ⟨by omega,by unfold okI;omega,?_⟩
    simp only [List.getElem_set_self,List.set_set,List.length_set]
    rw [List.length_set] at this
    exact this
   ·rw [if_neg (by omega)] at hst
    have:=hnx _ _ i ds[i].mod hst
    refine ⟨by unfold okI;omega,?_⟩
    rw [List.length_set] at this
    exact this
 ·have hiL : i = ds0.length:=by omega
  have hgo:=hI.go
  rw [hiL,Nat.sub_self,bP] at hgo
  obtain ⟨ht0,ht1⟩ : 0<=s.temp/\s.temp<=100000000000:=by
   have hus:=hI.us
   have hm0 : (0 : Int)<=(ds0.length - i : Nat) * (2 * 9 ^ 9):=Int.mul_nonneg (by omega) (by decide)
   omega
  have hN : (s.temp.toNat : Int) = s.temp:=by omega
  have hnm:=hI.nm
  rw [<-hgo] at hK
  dsimp only at hK
  refine ⟨⟨ht0,trivial,by unfold room;omega⟩,?_⟩
  rw [E8]
  refine EA (out:=gy ds0.length 0 ds (List.replicate s.temp.toNat id0) nx) (N:=s.temp.toNat) (ds0:=ds0) ⟨Nat.zero_le _,hI.lk,by rw [Nat.sub_zero],by simp,hnx0.1,by rw [Nat.sub_zero];omega,fun k hk _ hnb=>by rw [hN];exact hnm k hk (by omega) hnb⟩ rfl fun i ds ids nx next hI2 hnx2=>?_
  clear hnx hgo hnm hI hlen hle hiL
  have hlen:=hI2.lk.len
  have hle:=hI2.le
  have hn0:=hI2.nx0
  have hn1:=hI2.nx1
  have hm0 : (0 : Int)<=(ds0.length - i : Nat) * 1000000000000:=by omega
  simp only [pmr,pms]
  refine ⟨fun h=>?_,fun h=>?_⟩
  ·have hi : i < ds.length:=by omega
   rw [iL _ hi]
   simp only [pmr,pms]
   refine ⟨by omega,fun k0=>⟨by unfold okI;omega,hnx2 ds ids nx (hI2.skip hi (.inl k0))⟩,fun k0=>⟨by omega,fun k1=>⟨by unfold okI;omega,hnx2 ds ids nx (hI2.skip hi (.inr k1))⟩,fun k1=>⟨by omega,?_⟩⟩⟩
   have hnb : ¬ bare ds[i]:=fun h=>h.elim k0 k1
   obtain ⟨hin,hsz⟩:=hI2.nm i hi (Nat.le_refl _) hnb
   have hpl:=Ex.od ds[i].body
   have hnum:=uK ds[i].body [] (by simp;omega)
   simp only [aK,List.length_nil,List.map_nil,List.nil_append] at hnum
   refine ai hnum ?_
   simp only [pmr]
   have hst:=hI2.step hi hnb
   have hln:=hI2.len
   refine cz ds[i].body.post.length (fun k=>[[vI (nx+(k : Nat))],[vI (i : Nat)],[vI (k : Nat)],zp,[.sl ms.length 6 (ms.flatMap ModT.enc)],[.sl s.temp.toNat 3 ((bx ids (ds[i].body.post.take k) nx).flatMap IdT.enc)],[.sl ds[i].body.post.length 1 (ds[i].body.post.map an)],[.sl ds.length 31 (ds.flatMap DefT.enc)]]) (fun _=>True) trivial (by rw [Int.natCast_zero,Int.add_zero];rfl) fun k fH hk _ hn3=>?_
   simp only [pmr]
   refine ⟨fun hk1=>?_,fun hk1=>?_⟩
   ·have hk2 : k < ds[i].body.post.length:=by omega
    rw [pO _ hk2]
    simp only [pmr]
    have hr:=ym hin _ (List.getElem_mem hk2)
    have hpl2 : ds[i].body.post.length<=100000000000:=by omega
    refine ⟨by omega,ai (jf (by omega) (by unfold InI;omega)) ?_⟩
    simp only [pmr]
    have hkl : (ds[i].body.post[k]).toNat < (bx ids (ds[i].body.post.take k) nx).length:=by rw [iF,hln];omega
    rw [upd_id _ hkl]
    have:=hn3 hk2 trivial
    rw [List.take_succ_eq_append_getElem hk2,mL,List.length_take,Nat.min_eq_left (by omega)] at this
    rw [show nx+(k : Int)+1 = nx+((k+1 : Nat) : Int) by omega]
    exact ⟨by omega,by unfold okI;omega,by unfold okI;omega,this⟩
   ·obtain rfl : k = ds[i].body.post.length:=by omega
    rw [List.take_length]
    have hlp : (bx ids ds[i].body.post nx).length = s.temp.toNat:=by rw [iF,hln]
    have hren:=rI (bx ids ds[i].body.post nx) ds[i].body (by rw [hlp];exact hin) (by omega)
    simp only [rnR] at hren
    rw [hlp] at hren
    rw [iL _ hi]
    simp only [pms]
    refine ⟨by omega,ai hren ?_⟩
    simp only [pmr]
    have:=hnx2 _ _ _ hst
    rw [oA,rq _ hi]
    rw [List.length_set] at this
    exact ⟨by omega,by unfold okI;omega,this⟩
  ·have hgo2:=hI2.go
   rw [show ds0.length - i = 0 by omega,gy] at hgo2
   rw [<-hgo2] at hK
   exact hK
end
set_option maxHeartbeats 1000000
def g19c (Is : Sig->St'->St'->Prop) (a : St') (K : St'->Prop) : Prop:=caK Is s40 [[cell (ent a 0) 0],[vI 0],[vI 2]] fun r1=>aa (cell (ent r1 0) 0) fun z2=>ckK (okI (1+z2)) (ifK (decide ((0 : Int) < (1+z2)))
 (caK Is s39 [[vI 0]] fun r3=>ckK (0<=(0 : Int)/\(0 : Int) < (2 : Int)) (ckK (room (0+1) 89) (ckK (okI (0+1 : Int)) (ifK (decide ((1 : Int) <
 (1+z2))) (caK Is s39 [[vI 1]] fun r4=>ckK (0<=(1 : Int)/\(1 : Int) < (2 : Int)) (caK Is s39 [[vI 0]] fun r5=>ckK (room (1+1) 89) (ckK (okI
 (1+1 : Int)) (ifK (decide ((2 : Int) < (1+z2))) (caK Is s39 [[vI 2]] fun r6=>ckK (0<=(2 : Int)/\(2 : Int) < (2 : Int)) (ckK (room (2+1)
 89) (ckK (okI (2+1 : Int)) (False)))) (caK Is s48 [[cell (ent a 0) 0],[vI (1+z2)]] fun r7=>ah 11 (cell (ent r7 0) 0) fun n8 c9=>ckK (okI
 ((1+z2)+(n8 : Int))) (Lp (fun oq ct=>aa (cell (ent ct 1) 0) fun z186=>aa (cell (ent ct 2) 0) fun z187=>aa (cell (ent
 ct 3) 0) fun z188=>ah 11 (cell (ent ct 5) 0) fun n189 c190=>ah 31 (cell (ent ct 7) 0) fun n191 c192=>ah 3 (cell (ent ct 8)
 0) fun n193 c194=>ah 3 (cell (ent ct 9) 0) fun n195 c196=>ah 3 (cell (ent ct 10) 0) fun n197 c198=>ifK (decide (z188 < (n189 :
 Int))) (ckK (okI (z186+z188)) (caK Is s39 [[vI (z186+z188)]] fun r199=>ckK (0<=z188/\z188 < (n189 : Int)) (ckK (0<=z188/\z188 < (n189 :
 Int)) (caK Is s39 [[cell (el c190 11 (Int.toNat z188)) 10]] fun r200=>ckK (0<=z188/\z188 < (n189 : Int)) (ckK (0<=z188/\z188 < (n189 : Int))
 (Lp (fun oo aL=>aa (cell (ent aL 1) 0) fun z203=>aa (cell (ent aL 2) 0) fun z204=>aa (cell (ent aL 3) 0) fun z205 =>
 aa (cell (ent aL 4) 0) fun z206=>ah 11 (cell (ent aL 6) 0) fun n207 c208=>ah 31 (cell (ent aL 9) 0) fun n209 c210=>ah 11
 (cell (ent aL 10) 0) fun n211 c212=>ah 3 (cell (ent aL 11) 0) fun n213 c214=>ah 3 (cell (ent aL 12) 0) fun n215 c216=>ah 3
 (cell (ent aL 13) 0) fun n217 c218=>ckK (0<=z205/\z205 < (n207 : Int)) (ah 5 (cell (el c208 11 (Int.toNat z205)) 2) fun n219 c220=>ifK
 (decide (z206 < (n219 : Int))) (caK Is s39 [[vI z204]] fun r221=>ckK (0<=z205/\z205 < (n207 : Int)) (ah 1 (cell (el c208 11 (Int.toNat z205))
 3) fun n222 c223=>ckK (0<=z206/\z206 < (n222 : Int)) (ckK (0<=z205/\z205 < (n207 : Int)) (ah 5 (cell (el c208 11 (Int.toNat z205)) 2) fun
 n224 c225=>ckK (0<=z206/\z206 < (n224 : Int)) (aa (cell (ent aL 7) 3) fun z226=>ifK (decide (z226 = (4 : Int))) (ckK (0<=z205/\z205 <
 (n207 : Int)) (ah 1 (cell (el c208 11 (Int.toNat z205)) 4) fun n227 c228=>ckK (0<=z206/\z206 < (n227 : Int)) (ckK (room (n211+1) 113) (ckK
 (okI (z204+1)) (ckK (okI (z206+1)) (oo [[cell (ent aL 0) 0],[vI z203],[vI (z204+1)],[vI z205],[vI (z206+1)],ent aL 5,[.sl
 n207 11 c208],cls (ent aL 7) 0 30 [],cls (ent aL 8) 0 9 [],[.sl n209 31 c210],[.sl (n211+1) 11 (c212++(cls (ent r221 0) 0 3 (cell (el
 c223 1 (Int.toNat z206)) 0::cls (el c225 5 (Int.toNat z206)) 0 5 [cell (el c228 1 (Int.toNat z206)) 0,vI z206])))],[.sl n213 3 c214],[.sl n215
 3 c216],[.sl n217 3 c218]])))))) (ckK (room (n211+1) 113) (ckK (okI (z204+1)) (ckK (okI (z206+1)) (oo [[cell (ent aL 0) 0],[vI
 z203],[vI (z204+1)],[vI z205],[vI (z206+1)],ent aL 5,[.sl n207 11 c208],cls (ent aL 7) 0 30 [],cls (ent aL 8) 0 9 [],[.sl n209
 31 c210],[.sl (n211+1) 11 (c212++(cls (ent r221 0) 0 3 (cell (el c223 1 (Int.toNat z206)) 0::cls (el c225 5 (Int.toNat z206)) 0 5 [vI 0,vI
 z206])))],[.sl n213 3 c214],[.sl n215 3 c216],[.sl n217 3 c218]]))))))))) (ckK (room (n209+1) 353) (ckK (0<=z205/\z205 < (n207 : Int)) (ckK
 (0<=z205/\z205 < (n207 : Int)) (aa (cell (el c208 11 (Int.toNat z205)) 10) fun z229=>ckK (0<=z229/\z229 < ((2 : Nat) : Int)) (ifK (decide
 (z229 = ((0 : Nat) : Int))) (ckK (room (n213+1) 25) (aa (cell (el c208 11 (Int.toNat z205)) 10) fun z230=>ckK (0<=z230/\z230 < ((2 : Nat) :
 Int)) (ifK (decide (z230 = ((0 : Nat) : Int))) (ckK (okI (z205+1)) (oq [[cell (ent aL 0) 0],[vI z203],[vI z204],[vI (z205+1)],ent
 aL 5,[.sl n207 11 c208],cls (ent aL 8) 0 9 [],[.sl (n209+1) 31 (c210++(cls (ent aL 7) 0 8 (.sl n211 11 c212::cls (ent aL 7) 8
 22 [])))],[.sl (n213+1) 3 (c214++(cls (ent aL 7) 0 3 []))],[.sl n215 3 c216],[.sl n217 3 c218]])) (ifK (decide (z230 = ((1 : Nat) : Int)))
 (ckK (okI (z205+1)) (False)) (False))))) (ifK (decide (z229 = ((1 : Nat) : Int))) (ckK (room (n217+1) 25) (aa (cell (el c208 11 (Int.toNat
 z205)) 10) fun z231=>ckK (0<=z231/\z231 < ((2 : Nat) : Int)) (ifK (decide (z231 = ((0 : Nat) : Int))) (ckK (okI (z205+1)) (False)) (ifK
 (decide (z231 = ((1 : Nat) : Int))) (ckK (okI (z205+1)) (oq [[cell (ent aL 0) 0],[vI z203],[vI z204],[vI (z205+1)],ent aL 5,[.sl
 n207 11 c208],cls (ent aL 8) 0 9 [],[.sl (n209+1) 31 (c210++(cls (ent aL 7) 0 8 (.sl n211 11 c212::cls (ent aL 7) 8 22 [])))],[.sl
 n213 3 c214],[.sl n215 3 c216],[.sl (n217+1) 3 (c218++(cls (ent aL 7) 0 3 []))]])) (False))))) (False))))))))) [[cell (ent ct 0) 0],[vI
 z186],[vI z187],[vI z188],[vI 0],ent ct 4,[.sl n189 11 c190],cls (ent r199 0) 0 3 (cell (el c190 11 (Int.toNat z188)) 0::cls (ent r200 0)
 0 3 (cell (el c190 11 (Int.toNat z188)) 1::cls (sub (el c190 11 (Int.toNat z188)) 5 5) 0 5 ([vI 0,vI 0,vI 0,vI 0,vI 0,vI 0,vI 0,vI 0,vI 0,
 vI 0,vI 0,vI 0,.sl 0 5 [],.sl 0 15 [],.sl 0 1 [],vI 0,.sl 0 1 []]))),cls (ent ct 6) 0 9 [],[.sl n191 31 c192],[.sl 0 11 []],[.sl n193
 3 c194],[.sl n195 3 c196],[.sl n197 3 c198]])))))) (lA Is K [[vI z187],[vI 0],ent ct 4,[.sl 2 6 (cls (ent ct 6) 0 5 (.sl n193 3
 c194::cls (ent ct 6) 5 4 [.sl n195 3 c196,.sl n197 3 c198]))],[.sl 2 6 (cls (ent ct 6) 0 5 (.sl n193 3 c194::cls (ent ct 6) 5 4 [.sl
 n195 3 c196,.sl n197 3 c198])),cell (ent ct 0) 0,vI 24,vI 0,vI 0,vI 0,vI 0,vI 0,vI 0,vI 0],[.sl n191 31 c192]])) [[cell (ent a 0) 0],
 [vI (1+z2)],[vI ((1+z2)+(n8 : Int))],[vI 0],[.sl 0 6 [],.sl 0 31 []],[.sl n8 11 c9],cls (ent r3 0) 0 3 (cell (el ([vS (ByteArray.mk
 #[99,111,114,101]),vS (ByteArray.mk #[109,105,108,108])]) 1 0) 0::.sl 0 3 []::cls (ent r4 0) 0 3 ([cell (el ([vS (ByteArray.mk #[99,111,
 114,101]),vS (ByteArray.mk #[109,105,108,108])]) 1 1) 0])),[.sl 0 31 []],[.sl 0 3 []],[.sl 1 3 ((ent r5 0)++[])],[.sl 0 3 []]])))))) (caK
 Is s48 [[cell (ent a 0) 0],[vI (1+z2)]] fun r300=>ah 11 (cell (ent r300 0) 0) fun n301 c302=>ckK (okI ((1+z2)+(n301 : Int))) (Lp (fun
 wA dx=>aa (cell (ent dx 1) 0) fun z438=>aa (cell (ent dx 2) 0) fun z439=>aa (cell (ent dx 3) 0) fun z440=>ah 11
 (cell (ent dx 5) 0) fun n441 c442=>ah 31 (cell (ent dx 7) 0) fun n443 c444=>ah 3 (cell (ent dx 8) 0) fun n445 c446=>ifK (decide
 (z440 < (n441 : Int))) (ckK (okI (z438+z440)) (caK Is s39 [[vI (z438+z440)]] fun r447=>ckK (0<=z440/\z440 < (n441 : Int)) (ckK (0<=z440 /\
 z440 < (n441 : Int)) (caK Is s39 [[cell (el c442 11 (Int.toNat z440)) 10]] fun r448=>ckK (0<=z440/\z440 < (n441 : Int)) (ckK (0<=z440/\z440 <
 (n441 : Int)) (Lp (fun om bw=>aa (cell (ent bw 1) 0) fun z451=>aa (cell (ent bw 2) 0) fun z452=>aa (cell (ent bw 3) 0)
 fun z453=>aa (cell (ent bw 4) 0) fun z454=>ah 11 (cell (ent bw 6) 0) fun n455 c456=>ah 31 (cell (ent bw 9) 0) fun n457 c458 =>
 ah 11 (cell (ent bw 10) 0) fun n459 c460=>ah 3 (cell (ent bw 11) 0) fun n461 c462=>ckK (0<=z453/\z453 < (n455 : Int)) (ah 5 (cell
 (el c456 11 (Int.toNat z453)) 2) fun n463 c464=>ifK (decide (z454 < (n463 : Int))) (caK Is s39 [[vI z452]] fun r465=>ckK (0<=z453/\z453 <
 (n455 : Int)) (ah 1 (cell (el c456 11 (Int.toNat z453)) 3) fun n466 c467=>ckK (0<=z454/\z454 < (n466 : Int)) (ckK (0<=z453/\z453 < (n455 :
 Int)) (ah 5 (cell (el c456 11 (Int.toNat z453)) 2) fun n468 c469=>ckK (0<=z454/\z454 < (n468 : Int)) (aa (cell (ent bw 7) 3) fun z470 =>
 ifK (decide (z470 = (4 : Int))) (ckK (0<=z453/\z453 < (n455 : Int)) (ah 1 (cell (el c456 11 (Int.toNat z453)) 4) fun n471 c472=>ckK (0<=z454
 /\ z454 < (n471 : Int)) (ckK (room (n459+1) 113) (ckK (okI (z452+1)) (ckK (okI (z454+1)) (om [[cell (ent bw 0) 0],[vI z451],[vI (z452
 + 1)],[vI z453],[vI (z454+1)],ent bw 5,[.sl n455 11 c456],cls (ent bw 7) 0 30 [],cls (ent bw 8) 0 5 [],[.sl n457 31 c458],[.sl
 (n459+1) 11 (c460++(cls (ent r465 0) 0 3 (cell (el c467 1 (Int.toNat z454)) 0::cls (el c469 5 (Int.toNat z454)) 0 5 [cell (el c472 1
 (Int.toNat z454)) 0,vI z454])))],[.sl n461 3 c462]])))))) (ckK (room (n459+1) 113) (ckK (okI (z452+1)) (ckK (okI (z454+1)) (om [[cell
 (ent bw 0) 0],[vI z451],[vI (z452+1)],[vI z453],[vI (z454+1)],ent bw 5,[.sl n455 11 c456],cls (ent bw 7) 0 30 [],cls (ent bw
 8) 0 5 [],[.sl n457 31 c458],[.sl (n459+1) 11 (c460++(cls (ent r465 0) 0 3 (cell (el c467 1 (Int.toNat z454)) 0::cls (el c469 5 (Int.toNat
 z454)) 0 5 [vI 0,vI z454])))],[.sl n461 3 c462]]))))))))) (ckK (room (n457+1) 353) (ckK (0<=z453/\z453 < (n455 : Int)) (ckK (0<=z453/\z453 <
 (n455 : Int)) (aa (cell (el c456 11 (Int.toNat z453)) 10) fun z473=>ckK (0<=z473/\z473 < ((1 : Nat) : Int)) (ifK (decide (z473 = ((0 : Nat) :
 Int))) (ckK (room (n461+1) 25) (aa (cell (el c456 11 (Int.toNat z453)) 10) fun z474=>ckK (0<=z474/\z474 < ((1 : Nat) : Int)) (ifK (decide
 (z474 = ((0 : Nat) : Int))) (ckK (okI (z453+1)) (wA [[cell (ent bw 0) 0],[vI z451],[vI z452],[vI (z453+1)],ent bw 5,[.sl n455 11
 c456],cls (ent bw 8) 0 5 [],[.sl (n457+1) 31 (c458++(cls (ent bw 7) 0 8 (.sl n459 11 c460::cls (ent bw 7) 8 22 [])))],[.sl (n461 +
 1) 3 (c462++(cls (ent bw 7) 0 3 []))]])) (False)))) (False)))))))) [[cell (ent dx 0) 0],[vI z438],[vI z439],[vI z440],[vI 0],ent dx
 4,[.sl n441 11 c442],cls (ent r447 0) 0 3 (cell (el c442 11 (Int.toNat z440)) 0::cls (ent r448 0) 0 3 (cell (el c442 11 (Int.toNat z440)) 1 ::
 cls (sub (el c442 11 (Int.toNat z440)) 5 5) 0 5 ([vI 0,vI 0,vI 0,vI 0,vI 0,vI 0,vI 0,vI 0,vI 0,vI 0,vI 0,vI 0,.sl 0 5 [],.sl 0 15 [],
 .sl 0 1 [],vI 0,.sl 0 1 []]))),cls (ent dx 6) 0 5 [],[.sl n443 31 c444],[.sl 0 11 []],[.sl n445 3 c446]])))))) (lA Is K [[vI z439],
 [vI 0],ent dx 4,[.sl 1 6 (cls (ent dx 6) 0 5 [.sl n445 3 c446])],[.sl 1 6 (cls (ent dx 6) 0 5 [.sl n445 3 c446]),cell (ent dx 0) 0,
 vI 24,vI 0,vI 0,vI 0,vI 0,vI 0,vI 0,vI 0],[.sl n443 31 c444]])) [[cell (ent a 0) 0],[vI (1+z2)],[vI ((1+z2)+(n301 : Int))],[vI 0],
 [.sl 0 6 [],.sl 0 31 []],[.sl n301 11 c302],cls (ent r3 0) 0 3 ([cell (el ([vS (ByteArray.mk #[99,111,114,101]),vS (ByteArray.mk #[109,105,
 108,108])]) 1 0) 0,.sl 0 3 []]),[.sl 0 31 []],[.sl 0 3 []]])))))) (caK Is s48 [[cell (ent a 0) 0],[vI (1+z2)]] fun r543=>ah 11 (cell (ent
 r543 0) 0) fun n544 c545=>ckK (okI ((1+z2)+(n544 : Int))) (Lp (fun next546 dS=>aa (cell (ent dS 1) 0) fun z548=>aa (cell (ent
 dS 2) 0) fun z549=>aa (cell (ent dS 3) 0) fun z550=>ah 11 (cell (ent dS 6) 0) fun n551 c552=>ah 31 (cell (ent dS 7) 0) fun
 n553 c554=>ifK (decide (z550 < (n551 : Int))) (ckK (okI (z548+z550)) (caK Is s39 [[vI (z548+z550)]] fun r555=>ckK (0<=z550/\z550 < (n551 :
 Int)) (ckK (0<=z550/\z550 < (n551 : Int)) (caK Is s39 [[cell (el c552 11 (Int.toNat z550)) 10]] fun r556=>ckK (0<=z550/\z550 < (n551 : Int))
 (ckK (0<=z550/\z550 < (n551 : Int)) (Lp (fun oh cr=>aa (cell (ent cr 1) 0) fun z584=>aa (cell (ent cr 2) 0) fun z585=>aa
 (cell (ent cr 3) 0) fun z586=>aa (cell (ent cr 4) 0) fun z587=>ah 11 (cell (ent cr 7) 0) fun n588 c589=>ah 31 (cell (ent cr
 9) 0) fun n590 c591=>ah 11 (cell (ent cr 10) 0) fun n592 c593=>ckK (0<=z586/\z586 < (n588 : Int)) (ah 5 (cell (el c589 11 (Int.toNat
 z586)) 2) fun n594 c595=>ifK (decide (z587 < (n594 : Int))) (caK Is s39 [[vI z585]] fun r596=>ckK (0<=z586/\z586 < (n588 : Int)) (ah 1 (cell
 (el c589 11 (Int.toNat z586)) 3) fun n597 c598=>ckK (0<=z587/\z587 < (n597 : Int)) (ckK (0<=z586/\z586 < (n588 : Int)) (ah 5 (cell (el c589
 11 (Int.toNat z586)) 2) fun n599 c600=>ckK (0<=z587/\z587 < (n599 : Int)) (aa (cell (ent cr 8) 3) fun z601=>ifK (decide (z601 = (4 :
 Int))) (ckK (0<=z586/\z586 < (n588 : Int)) (ah 1 (cell (el c589 11 (Int.toNat z586)) 4) fun n602 c603=>ckK (0<=z587/\z587 < (n602 : Int))
 (ckK (room (n592+1) 113) (ckK (okI (z585+1)) (ckK (okI (z587+1)) (oh [[cell (ent cr 0) 0],[vI z584],[vI (z585+1)],[vI z586],[vI
 (z587+1)],ent cr 5,[cell (ent cr 6) 0],[.sl n588 11 c589],cls (ent cr 8) 0 30 [],[.sl n590 31 c591],[.sl (n592+1) 11 (c593 ++
 (cls (ent r596 0) 0 3 (cell (el c598 1 (Int.toNat z587)) 0::cls (el c600 5 (Int.toNat z587)) 0 5 [cell (el c603 1 (Int.toNat z587)) 0,vI
 z587])))]])))))) (ckK (room (n592+1) 113) (ckK (okI (z585+1)) (ckK (okI (z587+1)) (oh [[cell (ent cr 0) 0],[vI z584],[vI (z585 +
 1)],[vI z586],[vI (z587+1)],ent cr 5,[cell (ent cr 6) 0],[.sl n588 11 c589],cls (ent cr 8) 0 30 [],[.sl n590 31 c591],[.sl (n592
 + 1) 11 (c593++(cls (ent r596 0) 0 3 (cell (el c598 1 (Int.toNat z587)) 0::cls (el c600 5 (Int.toNat z587)) 0 5 [vI 0,vI z587])))]])))))))))
 (ckK (room (n590+1) 353) (ckK (0<=z586/\z586 < (n588 : Int)) (ckK (0<=z586/\z586 < (n588 : Int)) (aa (cell (el c589 11 (Int.toNat z586)) 10)
 fun z604=>ah 6 (cell (ent cr 6) 0) fun n605 c606=>ckK (0<=z604/\z604 < (n605 : Int)) (False))))))) [[cell (ent dS 0) 0],[vI z548],
 [vI z549],[vI z550],[vI 0],ent dS 4,[cell (ent dS 5) 0],[.sl n551 11 c552],cls (ent r555 0) 0 3 (cell (el c552 11 (Int.toNat z550)) 0 ::
 cls (ent r556 0) 0 3 (cell (el c552 11 (Int.toNat z550)) 1::cls (sub (el c552 11 (Int.toNat z550)) 5 5) 0 5 ([vI 0,vI 0,vI 0,vI 0,vI 0,vI 0,
 vI 0,vI 0,vI 0,vI 0,vI 0,vI 0,.sl 0 5 [],.sl 0 15 [],.sl 0 1 [],vI 0,.sl 0 1 []]))),[.sl n553 31 c554],[.sl 0 11 []]])))))) (lA Is
 K [[vI z549],[vI 0],ent dS 4,[cell (ent dS 5) 0],[cell (ent dS 5) 0,cell (ent dS 0) 0,vI 24,vI 0,vI 0,vI 0,vI 0,vI 0,vI 0,
 vI 0],[.sl n553 31 c554]])) [[cell (ent a 0) 0],[vI (1+z2)],[vI ((1+z2)+(n544 : Int))],[vI 0],[.sl 0 6 [],.sl 0 31 []],[.sl 0 6 []],
 [.sl n544 11 c545],[.sl 0 31 []]])))
theorem g19_eq (Is : Sig->St'->St'->Prop) (a : St') (K : St'->Prop) : g19 Is a K = g19c Is a K:=rfl
theorem mw (p : PlanT) (i : Nat) : cell p.enc i = cell [an p.kind,eP p.name,.sl p.types.length 5 (p.types.flatMap Ty.enc),.sl p.names.length 1 (p.names.map eP),.sl p.bases.length 1 (p.bases.map an),an p.result.kind,an p.result.df.shop,an p.result.df.seq,an p.result.df.index,.sl p.result.kids.length 5 (p.result.kids.flatMap Ty.enc),an p.mod] i:=by
 cases p
 rw [PlanT.fO]
 rfl
theorem Dx (p : PlanT) : sub p.enc 5 5 = p.result.enc:=by
 cases p
 rw [PlanT.fO,Ty.ay]
 rfl
def dL (d : DefT) : List D:=[an d.id.shop,an d.id.seq,an d.id.index,an d.kind,an d.mod.shop,an d.mod.seq,an d.mod.index,eP d.name,an d.result.kind,an d.result.df.shop,an d.result.df.seq,an d.result.df.index,.sl d.result.kids.length 5 (d.result.kids.flatMap Ty.enc),
 an d.body.id.shop,an d.body.id.seq,an d.body.id.index,an d.body.kind,an d.body.n,an d.body.ref.shop,an d.body.ref.seq,an d.body.ref.index,an d.body.ty.kind,an d.body.ty.df.shop,an d.body.ty.df.seq,an d.body.ty.df.index,
  .sl d.body.ty.kids.length 5 (d.body.ty.kids.flatMap Ty.enc),.sl d.body.kids.length 15 (d.body.kids.flatMap Ex.enc),.sl d.body.names.length 1 (d.body.names.map eP),an d.place,.sl d.layout.length 1 (d.layout.map eP)]
theorem rQ {p : PlanT} {nx : Int} {k : Nat} (hk : k < p.types.length) (hn : p.types.length<=p.names.length) (hk' : k < (dz p nx).length) : (dz p nx)[k] = ⟨idK (nx+k),p.names[k]'(by omega),p.types[k],if p.kind = 4 then p.bases.getD k 0 else 0,k⟩:=by
 unfold dz
 simp [List.getD_eq_getElem?_getD,List.getElem?_eq_getElem hk,List.getElem?_eq_getElem (show k < p.names.length by omega)]
theorem iI (m : Int) : ∀ (ps : List PlanT) (i : Int),(bI m ps i).length<=ps.length
 | [],_=>Nat.le_refl _
 | p::ps,i=>by
  rw [bI,List.length_append,List.length_cons]
  have:=iI m ps (i+1)
  split <;> simp <;> omega
theorem lz (m : Int) {ps : List PlanT} {k : Nat} (hk : k < ps.length) (i : Int) : bI m (ps.take (k+1)) i = bI m (ps.take k) i++(if ps[k].mod = m then [idK (i+k)] else []):=by
 rw [List.take_succ_eq_append_getElem hk,mN,List.length_take,Nat.min_eq_left (by omega),bI,bI,List.append_nil]
theorem rR {ps : List PlanT} {k : Nat} (hk : k < ps.length) (i nx : Int) : aP (ps.take (k+1)) i nx = aP (ps.take k) i nx++[gV ps[k] (i+k) (nx+dF (ps.take k))]:=by
 rw [List.take_succ_eq_append_getElem hk,jY,List.length_take,Nat.min_eq_left (by omega),aP,aP]
theorem o7 {ps : List PlanT} {k : Nat} (hk : k < ps.length) : dF (ps.take (k+1)) = dF (ps.take k)+ps[k].types.length:=by
 rw [List.take_succ_eq_append_getElem hk,qf,mc]
 rfl
theorem Bf {ps : List PlanT} (h : ∀ p∈ps,p.types.length<=3) : ∀ k,dF (ps.take k)<=3 * k:=by
 intro k
 induction k with
 | zero=>simp [dF]
 | succ k ih =>
  by_cases hk : k < ps.length
  ·rw [o7 hk];have:=h _ (List.getElem_mem hk);omega
  ·rw [List.take_of_length_le (by omega)] at ih ⊢
   omega
theorem prog_is {l : List Int} (hl : ∀ x∈l,InI x) : IS s19 [[aK l]] [(aX l).enc]:=by
 refine w19.is ?_
 rw [g19_eq]
 unfold g19c
 simp only [pmr]
 refine ai (BY (by decide) hl) ?_
 simp only [pmr]
 have h2:=cC l 0 2 (by omega)
 have hM : ax l = 1+atL l 0 2:=rfl
 have hn1 : 1<=ax l:=by omega
 refine ⟨by unfold okI;omega,fun _=>ai (jf (by decide) (by unfold InI;omega)) ?_,fun h=>absurd (show (0 : Int) < 1+atL l 0 2 by omega) h⟩
 simp only [pmr]
 refine ⟨by decide,by unfold room;decide,by unfold okI;decide,fun hw=>?_,fun hw=>?_⟩
 ·refine ai (jf (by decide) (by unfold InI;omega)) ?_
  simp only [pmr]
  refine ⟨by decide,ai (jf (by decide) (by unfold InI;omega)) ⟨by unfold room;decide,by unfold okI;decide,fun h=>absurd h (by omega),fun _=>?_⟩⟩
  have hN : ax l = 2:=by omega
  rw [<-hM]
  refine ai (xR hl (by omega)) ?_
  simp only [pmr]
  have hok:=kY (l:=l) hn1
  have hlen:=gh l (ax l)
  have hpt:=Bf fun p hp=>(hok p hp).t3
  have hb:=F2 l
  have hnm:=rY l
  have hsq:=ng l
  have hfin : (aX l).enc = [.sl (dH l).length 6 ((dH l).flatMap ModT.enc),.sl (gy (aU l).length 0 (bP (dH l) l (aU l).length 0 (aU l) ⟨24,0,0,0⟩).1 (List.replicate (bP (dH l) l (aU l).length 0 (aU l) ⟨24,0,0,0⟩).2.temp.toNat id0) (iH l)).length 31 ((gy (aU l).length 0 (bP (dH l) l (aU l).length 0 (aU l) ⟨24,0,0,0⟩).1 (List.replicate (bP (dH l) l (aU l).length 0 (aU l) ⟨24,0,0,0⟩).2.temp.toNat id0) (iH l)).flatMap DefT.enc)]:=rfl
  rw [hfin]
  have hpm : dH l = [⟨idK 0,qj,[],bI 0 (bp l (ax l)) (ax l)⟩,⟨idK 1,Bl,[idK 0],bI 1 (bp l (ax l)) (ax l)⟩]:=by unfold dH;rw [if_neg (by omega),hN]
  have hds : aU l = aP (bp l (ax l)) (ax l) (ax l+(bp l (ax l)).length):=rfl
  have hnx : iH l = ax l+(bp l (ax l)).length+dF (bp l (ax l)):=rfl
  rw [hds] at hb hnm hsq ⊢
  rw [hnx]
  rw [hpm] at hb hnm ⊢
  clear hfin hds hnx hpm
  generalize bp l (ax l) = ps at hok hlen hpt hb hnm hsq ⊢
  generalize ax l = n at hn1 hN hok hb hnm hsq ⊢
  refine ⟨by unfold okI;omega,?_⟩
  refine cz ps.length (fun i=>[[aK l],[vI n],[vI (n+ps.length+dF (ps.take i))],[vI (i : Nat)],[.sl 0 6 [],.sl 0 31 []],[.sl ps.length 11 (ps.flatMap PlanT.enc)],[an (idK 0).shop,an (idK 0).seq,an (idK 0).index,vS qj,.sl 0 3 [],an (idK 1).shop,an (idK 1).seq,an (idK 1).index,vS Bl],[.sl (aP (ps.take i) n (n+ps.length)).length 31 ((aP (ps.take i) n (n+ps.length)).flatMap DefT.enc)],[.sl (bI 0 (ps.take i) n).length 3 ((bI 0 (ps.take i) n).flatMap IdT.enc)],[.sl 1 3 ((idK 0).enc++[])],[.sl (bI 1 (ps.take i) n).length 3 ((bI 1 (ps.take i) n).flatMap IdT.enc)]]) (fun _=>True) trivial (by rw [List.take_zero];simp only [dF,aP,bI,List.map_nil,List.sum_nil,Int.natCast_zero,Int.add_zero];rfl) fun i next hi _ hnext=>?_
  have h0:=iI 0 (ps.take i) n
  have h1:=iI 1 (ps.take i) n
  rw [List.length_take,Nat.min_eq_left hi] at h0 h1
  simp only [pmr]
  refine ⟨fun h=>?_,fun h=>?_⟩
  ·have hk : i < ps.length:=by omega
   have ok:=hok _ (List.getElem_mem hk)
   have hnx:=hnext hk trivial
   have hpi:=hpt i
   rw [rR hk,o7 hk,lz 0 hk,lz 1 hk] at hnx
   have hep:=el_Pl ps hk
   rw [hep]
   simp only [pmr,mw]
   generalize hnxt : n+(ps.length : Int)+(dF (ps.take i) : Int) = nxt at hnx ⊢
   generalize ps[i] = p at ok hnx hep ⊢
   refine ⟨by unfold okI;omega,ai (jf (by omega) (by unfold InI;omega)) ⟨by omega,by omega,ai (jf ok.mod.1 (by unfold InI;have:=ok.mod;omega)) ⟨by omega,by omega,?_⟩⟩⟩
   have ok3:=ok.t3
   refine cz p.types.length (fun k=>[[aK l],[vI n],[vI (nxt+k)],[vI (i : Nat)],[vI (k : Nat)],[.sl 0 6 [],.sl 0 31 []],[.sl ps.length 11 (ps.flatMap PlanT.enc)],dL (gV p (n+i) nxt),[an (idK 0).shop,an (idK 0).seq,an (idK 0).index,vS qj,.sl 0 3 [],an (idK 1).shop,an (idK 1).seq,an (idK 1).index,vS Bl],[.sl (aP (ps.take i) n (n+ps.length)).length 31 ((aP (ps.take i) n (n+ps.length)).flatMap DefT.enc)],[.sl k 11 (((dz p nxt).take k).flatMap SlotT.enc)],[.sl (bI 0 (ps.take i) n).length 3 ((bI 0 (ps.take i) n).flatMap IdT.enc)],[.sl 1 3 ((idK 0).enc++[])],[.sl (bI 1 (ps.take i) n).length 3 ((bI 1 (ps.take i) n).flatMap IdT.enc)]]) (fun _=>True) trivial (by simp only [pmr,pms,Dx,Int.natCast_zero,Int.add_zero];rfl) fun k x9 hkl _ hn2=>?_
   simp only [pmr,mw]
   rw [hep]
   simp only [pmr,mw]
   have hnames:=ok.names
   have hpsl:=bX p nxt
   refine ⟨by omega,fun h=>?_,fun h=>?_⟩
   ·have hk2 : k < p.types.length:=by omega
    refine ai (jf (by omega) (by unfold InI;omega)) ?_
    rw [pO p.names (show k < p.names.length by omega),oM _ hk2]
    simp only [pmr,dL]
    have hgo:=hn2 hk2 trivial
    rw [List.take_succ_eq_append_getElem (show k < (dz p nxt).length by omega),List.flatMap_append,List.flatMap_cons,List.flatMap_nil,List.append_nil,rQ hk2 hnames] at hgo
    have hkd : (gV p (n+i) nxt).kind = p.kind:=rfl
    have hkk : ((nxt+(k : Int))+1) = nxt+((k+1 : Nat) : Int):=by omega
    refine ⟨by omega,by omega,by omega,by omega,fun h4=>⟨by omega,?_⟩,fun h4=>?_⟩
    ·have hbs:=ok.bases (by rw [<-hkd];exact h4)
     rw [pO p.bases (show k < p.bases.length by omega)]
     simp only [pmr]
     rw [if_pos (show p.kind = 4 by rw [<-hkd];exact h4),List.getD_eq_getElem?_getD,List.getElem?_eq_getElem (show k < p.bases.length by omega)] at hgo
     refine ⟨by omega,by unfold room;omega,by unfold okI;omega,by unfold okI;omega,?_⟩
     rw [hkk]
     exact hgo
    ·rw [if_neg (show ¬ p.kind = 4 by rw [<-hkd];exact h4)] at hgo
     refine ⟨by unfold room;omega,by unfold okI;omega,by unfold okI;omega,?_⟩
     rw [hkk]
     exact hgo
   ·obtain rfl : k = p.types.length:=by omega
    rw [List.take_of_length_le (show (dz p nxt).length<=p.types.length by omega)]
    have hdl2 : (aP (ps.take i) n (n+ps.length)).length = i:=by rw [cx,List.length_take];omega
    have hmod:=ok.mod
    rw [show n+(ps.length : Int)+((dF (ps.take i)+p.types.length : Nat) : Int) = nxt+(p.types.length : Int) by omega,List.flatMap_append,List.flatMap_cons,List.flatMap_nil,List.append_nil] at hnx
    simp only [List.length_append,List.length_cons,List.length_nil] at hnx
    simp only [pmr,dL]
    refine ⟨by unfold room;omega,by omega,by omega,by omega,fun hm0=>⟨by unfold room;omega,by omega,fun _=>⟨by unfold okI;omega,?_⟩,fun h=>absurd hm0 h⟩,fun hm0=>⟨fun hm1=>⟨by unfold room;omega,by omega,fun h=>absurd h hm0,fun _=>⟨fun _=>⟨by unfold okI;omega,?_⟩,fun h=>absurd hm1 h⟩⟩,fun hm1=>by omega⟩⟩
    ·rw [if_pos (show p.mod = 0 from hm0),if_neg (show ¬ p.mod = 1 by omega)] at hnx
     simp only [List.flatMap_append,List.flatMap_cons,List.flatMap_nil,List.append_nil,List.length_append,List.length_cons,List.length_nil,Nat.add_zero] at hnx
     rw [<-hpsl]
     rw [<-hpsl] at hnx
     exact hnx
    ·rw [if_neg (show ¬ p.mod = 0 from hm0),if_pos (show p.mod = 1 from hm1)] at hnx
     simp only [List.flatMap_append,List.flatMap_cons,List.flatMap_nil,List.append_nil,List.length_append,List.length_cons,List.length_nil,Nat.add_zero] at hnx
     rw [<-hpsl]
     rw [<-hpsl] at hnx
     exact hnx
  ·obtain rfl : i = ps.length:=by omega
   rw [List.take_length]
   refine qk hl (by simp) hb hnm (by rw [cx];omega) (by have:=hpt ps.length;rw [List.take_length] at this;omega) hsq ?_
   rfl
 ·have hN : ax l = 1:=by omega
  rw [<-hM]
  refine ai (xR hl (by omega)) ?_
  simp only [pmr]
  have hok:=kY (l:=l) hn1
  have hlen:=gh l (ax l)
  have hpt:=Bf fun p hp=>(hok p hp).t3
  have hb:=F2 l
  have hnm:=rY l
  have hsq:=ng l
  have hfin : (aX l).enc = [.sl (dH l).length 6 ((dH l).flatMap ModT.enc),.sl (gy (aU l).length 0 (bP (dH l) l (aU l).length 0 (aU l) ⟨24,0,0,0⟩).1 (List.replicate (bP (dH l) l (aU l).length 0 (aU l) ⟨24,0,0,0⟩).2.temp.toNat id0) (iH l)).length 31 ((gy (aU l).length 0 (bP (dH l) l (aU l).length 0 (aU l) ⟨24,0,0,0⟩).1 (List.replicate (bP (dH l) l (aU l).length 0 (aU l) ⟨24,0,0,0⟩).2.temp.toNat id0) (iH l)).flatMap DefT.enc)]:=rfl
  rw [hfin]
  have hpm : dH l = [⟨idK 0,qj,[],bI 0 (bp l (ax l)) (ax l)⟩]:=by unfold dH;rw [if_pos hN,hN]
  have hds : aU l = aP (bp l (ax l)) (ax l) (ax l+(bp l (ax l)).length):=rfl
  have hnx : iH l = ax l+(bp l (ax l)).length+dF (bp l (ax l)):=rfl
  rw [hds] at hb hnm hsq ⊢
  rw [hnx]
  rw [hpm] at hb hnm ⊢
  clear hfin hds hnx hpm
  generalize bp l (ax l) = ps at hok hlen hpt hb hnm hsq ⊢
  generalize ax l = n at hn1 hN hok hb hnm hsq ⊢
  refine ⟨by unfold okI;omega,?_⟩
  refine cz ps.length (fun i=>[[aK l],[vI n],[vI (n+ps.length+dF (ps.take i))],[vI (i : Nat)],[.sl 0 6 [],.sl 0 31 []],[.sl ps.length 11 (ps.flatMap PlanT.enc)],[an (idK 0).shop,an (idK 0).seq,an (idK 0).index,vS qj,.sl 0 3 []],[.sl (aP (ps.take i) n (n+ps.length)).length 31 ((aP (ps.take i) n (n+ps.length)).flatMap DefT.enc)],[.sl (bI 0 (ps.take i) n).length 3 ((bI 0 (ps.take i) n).flatMap IdT.enc)]]) (fun _=>True) trivial (by rw [List.take_zero];simp only [dF,aP,bI,List.map_nil,List.sum_nil,Int.natCast_zero,Int.add_zero];rfl) fun i next hi _ hnext=>?_
  have h0:=iI 0 (ps.take i) n
  have h1:=iI 1 (ps.take i) n
  rw [List.length_take,Nat.min_eq_left hi] at h0 h1
  simp only [pmr]
  refine ⟨fun h=>?_,fun h=>?_⟩
  ·have hk : i < ps.length:=by omega
   have ok:=hok _ (List.getElem_mem hk)
   have hnx:=hnext hk trivial
   have hpi:=hpt i
   rw [rR hk,o7 hk,lz 0 hk] at hnx
   have hep:=el_Pl ps hk
   rw [hep]
   simp only [pmr,mw]
   generalize hnxt : n+(ps.length : Int)+(dF (ps.take i) : Int) = nxt at hnx ⊢
   generalize ps[i] = p at ok hnx hep ⊢
   refine ⟨by unfold okI;omega,ai (jf (by omega) (by unfold InI;omega)) ⟨by omega,by omega,ai (jf ok.mod.1 (by unfold InI;have:=ok.mod;omega)) ⟨by omega,by omega,?_⟩⟩⟩
   have ok3:=ok.t3
   refine cz p.types.length (fun k=>[[aK l],[vI n],[vI (nxt+k)],[vI (i : Nat)],[vI (k : Nat)],[.sl 0 6 [],.sl 0 31 []],[.sl ps.length 11 (ps.flatMap PlanT.enc)],dL (gV p (n+i) nxt),[an (idK 0).shop,an (idK 0).seq,an (idK 0).index,vS qj,.sl 0 3 []],[.sl (aP (ps.take i) n (n+ps.length)).length 31 ((aP (ps.take i) n (n+ps.length)).flatMap DefT.enc)],[.sl k 11 (((dz p nxt).take k).flatMap SlotT.enc)],[.sl (bI 0 (ps.take i) n).length 3 ((bI 0 (ps.take i) n).flatMap IdT.enc)]]) (fun _=>True) trivial (by simp only [pmr,pms,Dx,Int.natCast_zero,Int.add_zero];rfl) fun k x9 hkl _ hn2=>?_
   simp only [pmr,mw]
   rw [hep]
   simp only [pmr,mw]
   have hnames:=ok.names
   have hpsl:=bX p nxt
   refine ⟨by omega,fun h=>?_,fun h=>?_⟩
   ·have hk2 : k < p.types.length:=by omega
    refine ai (jf (by omega) (by unfold InI;omega)) ?_
    rw [pO p.names (show k < p.names.length by omega),oM _ hk2]
    simp only [pmr,dL]
    have hgo:=hn2 hk2 trivial
    rw [List.take_succ_eq_append_getElem (show k < (dz p nxt).length by omega),List.flatMap_append,List.flatMap_cons,List.flatMap_nil,List.append_nil,rQ hk2 hnames] at hgo
    have hkd : (gV p (n+i) nxt).kind = p.kind:=rfl
    have hkk : ((nxt+(k : Int))+1) = nxt+((k+1 : Nat) : Int):=by omega
    refine ⟨by omega,by omega,by omega,by omega,fun h4=>⟨by omega,?_⟩,fun h4=>?_⟩
    ·have hbs:=ok.bases (by rw [<-hkd];exact h4)
     rw [pO p.bases (show k < p.bases.length by omega)]
     simp only [pmr]
     rw [if_pos (show p.kind = 4 by rw [<-hkd];exact h4),List.getD_eq_getElem?_getD,List.getElem?_eq_getElem (show k < p.bases.length by omega)] at hgo
     refine ⟨by omega,by unfold room;omega,by unfold okI;omega,by unfold okI;omega,?_⟩
     rw [hkk]
     exact hgo
    ·rw [if_neg (show ¬ p.kind = 4 by rw [<-hkd];exact h4)] at hgo
     refine ⟨by unfold room;omega,by unfold okI;omega,by unfold okI;omega,?_⟩
     rw [hkk]
     exact hgo
   ·obtain rfl : k = p.types.length:=by omega
    rw [List.take_of_length_le (show (dz p nxt).length<=p.types.length by omega)]
    have hdl2 : (aP (ps.take i) n (n+ps.length)).length = i:=by rw [cx,List.length_take];omega
    have hmod:=ok.mod
    rw [show n+(ps.length : Int)+((dF (ps.take i)+p.types.length : Nat) : Int) = nxt+(p.types.length : Int) by omega,List.flatMap_append,List.flatMap_cons,List.flatMap_nil,List.append_nil] at hnx
    simp only [List.length_append,List.length_cons,List.length_nil] at hnx
    simp only [pmr,dL]
    refine ⟨by unfold room;omega,by omega,by omega,by omega,fun hm0=>⟨by unfold room;omega,by omega,fun _=>⟨by unfold okI;omega,?_⟩,fun h=>absurd hm0 h⟩,fun hm0=>by omega⟩
    ·rw [if_pos (show p.mod = 0 from hm0)] at hnx
     simp only [List.flatMap_append,List.flatMap_cons,List.flatMap_nil,List.append_nil,List.length_append,List.length_cons,List.length_nil,Nat.add_zero] at hnx
     rw [<-hpsl]
     rw [<-hpsl] at hnx
     exact hnx
  ·obtain rfl : i = ps.length:=by omega
   rw [List.take_length]
   refine qk hl (by simp) hb hnm (by rw [cx];omega) (by have:=hpt ps.length;rw [List.take_length] at this;omega) hsq ?_
   rfl
end Go.Proofs.YtanbipbiblikbaaDoor

namespace Xe
open Go
theorem kg {α : Type} {l : List α} {k : Nat} {d : α} (h : k < l.length) : l.getD k d = l[k]:=by rw [List.getD_eq_getElem?_getD,List.getElem?_eq_getElem h];rfl
def Made (ms : List ModT) (l : List Int) (ds0 : List DefT) (k : Nat) (d : DefT) (e : Ex) (T T' : Int) : Prop :=
 ∃ c : MkC,c.p.mods = ms/\dG c.p.defs ds0/\c.l = l/\c.own = k/\c.home = d.mod/\0<=T/\Mk c d.result (bR d) T e T'
structure BPn (ms : List ModT) (l : List Int) (ds0 : List DefT) (i : Nat) (ds : List DefT) (s : MkS) : Prop where
 lk : dG ds ds0
 us : 0<=s.pos/\s.pos+(ds0.length - i : Nat) * (2 * 9 ^ 9)<=100000000000/\0<=s.temp/\s.temp+(ds0.length - i : Nat) * (2 * 9 ^ 9)<=100000000000
 made : ∀ k (hk : k < ds.length),k < i->¬ bare ds[k]->∃ T T',T'<=s.temp/\Made ms l ds0 k ds[k] ds[k].body T T'
theorem nM {ms : List ModT} {l : List Int} {ds0 : List DefT} (hb : Base ⟨ms,ds0⟩ 5) (hn : Names ⟨ms,ds0⟩) (hd8 : ds0.length<=8) : ∀ (m i : Nat) (ds : List DefT) (s : MkS),i+m = ds0.length->BPn ms l ds0 i ds s->BPn ms l ds0 ds0.length (bP ms l m i ds s).1 (bP ms l m i ds s).2
 | 0,i,ds,s,h,hp=>by
  rw [bP]
  rw [Nat.add_zero] at h
  rw [<-h]
  rw [h]
  rw [h] at hp
  exact hp
 | m+1,i,ds,s,h,hp=>by
  have hlen:=hp.lk.len
  have hi : i < ds.length:=by omega
  have h9 : (9 : Int) ^ 9 = 387420489:=by decide
  have em : ds0.length - i = m+1:=by omega
  have em' : ds0.length - (i+1) = m:=by omega
  have e1 : ((m+1 : Nat) : Int) * (2 * 9 ^ 9) = m * (2 * 9 ^ 9)+2 * 9 ^ 9:=by rw [Int.natCast_add,Int.add_mul];simp
  have hmn : (0 : Int)<=m * (2 * 9 ^ 9):=Int.mul_nonneg (by omega) (by omega)
  have hus:=hp.us
  rw [em] at hus
  rw [bP,kg hi]
  split
  ·rename_i hbr
   refine nM hb hn hd8 m (i+1) ds s (by omega) ⟨hp.lk,by rw [em'];omega,fun k hk hlt hnb=>?_⟩
   by_cases e : k = i
   ·subst e;exact absurd hbr hnb
   ·exact hp.made k hk (by omega) hnb
  ·rename_i hnb
   have hbd : Base ⟨ms,ds⟩ 5:=hb.like hp.lk
   have hnd : Names ⟨ms,ds⟩:=hn.like hp.lk
   have hu : Us (100000000000 - (m * (2 * 9 ^ 9)+2 * 9 ^ 9)) ⟨s.pos,s.temp,14,0⟩:=by
    have : (m : Int) * (2 * 9 ^ 9)<=8 * (2 * 9 ^ 9):=Int.mul_le_mul_of_nonneg_right (by omega) (by omega)
    unfold Us;dsimp only;omega
   obtain ⟨hu2,T,hT,hmk⟩:=BP (c:=⟨⟨ms,ds⟩,l,i,ds[i].mod⟩) hbd hnd hi rfl rfl hu (by omega)
   generalize iO ⟨⟨ms,ds⟩,l,i,ds[i].mod⟩ ds[i] ⟨s.pos,s.temp,14,0⟩ = r at hu2 hmk ⊢
   dsimp only at hT
   have hlt:=hmk.lt
   unfold Us at hu2
   refine nM hb hn hd8 m (i+1) _ _ (by omega) ⟨hp.lk.set hi _,by rw [em'];omega,fun k hk hlt2 hnb'=>?_⟩
   by_cases e : k = i
   ·subst e
    simp only [List.getElem_set_self]
    exact ⟨T,r.2.temp,Int.le_refl _,_,rfl,hp.lk,rfl,rfl,rfl,by omega,hmk⟩
   ·have hk' : k < ds.length:=by simpa using hk
    have eg : (ds.set i (ds[i].setBody r.1))[k] = ds[k]:=by rw [List.getElem_set_ne (by omega)]
    rw [eg] at hnb' ⊢
    obtain ⟨T1,T2,h1,h2⟩:=hp.made k hk' (by omega) hnb'
    exact ⟨T1,T2,by omega,h2⟩
def Gi (ms : List ModT) (l : List Int) (ds0 : List DefT) (N : Nat) (nx0 : Int) (k : Nat) (d : DefT) : Prop :=
 ∃ (e : Ex) (T T' : Int) (ids : List IdT) (nx : Int),Made ms l ds0 k d e T T'/\T'<=N/\ids.length = N/\nx0<=nx/\nx<=100000000000000/\d.body = eN (bx ids e.post nx) e
structure RPn (ms : List ModT) (l : List Int) (ds0 : List DefT) (N : Nat) (nx0 : Int) (i : Nat) (ds : List DefT) (ids : List IdT) (nx : Int) : Prop where
 lk : dG ds ds0
 len : ids.length = N
 nx : nx0<=nx/\nx+(ds0.length - i : Nat) * 100000000000<=100000000000000
 old : ∀ k (hk : k < ds.length),i<=k->¬ bare ds[k]->∃ (T T' : Int),T'<=N/\Made ms l ds0 k ds[k] ds[k].body T T'
 done : ∀ k (hk : k < ds.length),k < i->¬ bare ds[k]->Gi ms l ds0 N nx0 k ds[k]
theorem vY {ms : List ModT} {l : List Int} {ds0 : List DefT} {N : Nat} (hN : N<=100000000000) {nx0 : Int} : ∀ (m i : Nat) (ds : List DefT) (ids : List IdT) (nx : Int),i+m = ds0.length->RPn ms l ds0 N nx0 i ds ids nx->dG (gy m i ds ids nx) ds0/\∀ k (hk : k < (gy m i ds ids nx).length),¬ bare (gy m i ds ids nx)[k]->Gi ms l ds0 N nx0 k (gy m i ds ids nx)[k]
 | 0,i,ds,ids,nx,h,hp=>by
  have hlen:=hp.lk.len
  have e : gy 0 i ds ids nx = ds:=by rw [gy]
  rw [e]
  exact ⟨hp.lk,fun k hk hnb=>hp.done k hk (by omega) hnb⟩
 | m+1,i,ds,ids,nx,h,hp=>by
  have hlen:=hp.lk.len
  have hi : i < ds.length:=by omega
  have em : ds0.length - i = m+1:=by omega
  have em' : ds0.length - (i+1) = m:=by omega
  have hnx:=hp.nx
  rw [em] at hnx
  by_cases hbr : bare ds[i]
  ·have e : gy (m+1) i ds ids nx = gy m (i+1) ds ids nx:=by rw [gy,kg hi,if_pos hbr]
   rw [e]
   refine vY hN m (i+1) ds ids nx (by omega) ⟨hp.lk,hp.len,by rw [em'];omega,fun k hk hlt=>hp.old k hk (by omega),fun k hk hlt hnb=>?_⟩
   by_cases e : k = i
   ·subst e;exact absurd hbr hnb
   ·exact hp.done k hk (by omega) hnb
  ·have e : gy (m+1) i ds ids nx = gy m (i+1) (ds.set i (ds[i].setBody (eN (bx ids ds[i].body.post nx) ds[i].body))) (bx ids ds[i].body.post nx) (nx+ds[i].body.post.length):=by rw [gy,kg hi,if_neg hbr]
   rw [e]
   obtain ⟨T,T',hT',hmade⟩:=hp.old i hi (Nat.le_refl _) hbr
   have hsz : (ds[i].body.size : Int)<=100000000000:=by
    obtain ⟨c,_,_,_,_,_,h0,hmk⟩:=hmade
    have:=hmk.size
    omega
   have hpl:=Ex.od ds[i].body
   refine vY hN m (i+1) _ _ _ (by omega) ⟨hp.lk.set hi _,by rw [iF];exact hp.len,by rw [em'];omega,fun k hk hlt hnb=>?_,fun k hk hlt hnb=>?_⟩
   ·have hk' : k < ds.length:=by simpa using hk
    have eg : (ds.set i (ds[i].setBody (eN (bx ids ds[i].body.post nx) ds[i].body)))[k] = ds[k]:=by rw [List.getElem_set_ne (by omega)]
    rw [eg] at hnb ⊢
    exact hp.old k hk' (by omega) hnb
   ·by_cases e : k = i
    ·subst e
     simp only [List.getElem_set_self]
     exact ⟨ds[k].body,T,T',ids,nx,hmade,hT',hp.len,by omega,by omega,rfl⟩
    ·have hk' : k < ds.length:=by simpa using hk
     have eg : (ds.set i (ds[i].setBody (eN (bx ids ds[i].body.post nx) ds[i].body)))[k] = ds[k]:=by rw [List.getElem_set_ne (by omega)]
     rw [eg] at hnb ⊢
     exact hp.done k hk' (by omega) hnb
theorem rX (l : List Int) : 0<=iH l/\iH l<=100:=by
 have hn : 1<=ax l/\ax l<=2:=by rcases jv l with h | h <;> omega
 have hok:=kY (l:=l) hn.1
 have hlen:=gh l (ax l)
 have ht : dF (gA l)<=3 * (gA l).length:=by
  have key : ∀ ps : List PlanT,(∀ p∈ps,p.types.length<=3)->dF ps<=3 * ps.length:=fun ps=>by
   induction ps with
   | nil=>intro _;simp [dF]
   | cons p ps ih =>
    intro h
    have h1:=h p (List.mem_cons_self ..)
    have h2:=ih fun q hq=>h q (List.mem_cons_of_mem _ hq)
    rw [mc,List.length_cons]
    omega
  exact key _ fun p hp=>(hok p hp).t3
 unfold iH gA at *
 omega
theorem jV (l : List Int) : ∃ N : Nat,N<=100000000000/\dG (aX l).defs (aU l)/\∀ k (hk : k < (aX l).defs.length),¬ bare (aX l).defs[k]->Gi (dH l) l (aU l) N (iH l) k (aX l).defs[k]:=by
 have hb:=F2 l
 have hn:=rY l
 have hl8 : (aU l).length<=8:=by unfold aU;rw [cx];exact (gh l (ax l)).2
 have h9 : (9 : Int) ^ 9 = 387420489:=by decide
 have hB:=nM (l:=l) hb hn hl8 (aU l).length 0 (aU l) ⟨24,0,0,0⟩ (by omega) ⟨dG.refl _,by dsimp only;omega,fun k _ h=>absurd h (Nat.not_lt_zero _)⟩
 obtain ⟨hlk,hus,hmk⟩:=hB
 have hnx:=rX l
 have hmm : (0 : Int)<=((aU l).length - (aU l).length : Nat) * (2 * 9 ^ 9):=Int.mul_nonneg (by omega) (by omega)
 have hlen : (kC l).1.length = (aU l).length:=hlk.len
 refine ⟨(kC l).2.temp.toNat,by unfold kC;omega,?_⟩
 have ht : ((kC l).2.temp.toNat : Int) = (kC l).2.temp:=by unfold kC;omega
 have hR:=vY (ms:=dH l) (l:=l) (ds0:=aU l) (N:=(kC l).2.temp.toNat) (by unfold kC;omega) (nx0:=iH l) (aU l).length 0 (kC l).1 (List.replicate (kC l).2.temp.toNat id0) (iH l) (by omega)
  ⟨hlk,by simp,by omega,fun k hk _ hnb=>by
   obtain ⟨T,T',h1,h2⟩:=hmk k hk (by rw [<-hlen];exact hk) hnb
   exact ⟨T,T',by rw [ht];exact h1,h2⟩,fun k _ h=>absurd h (Nat.not_lt_zero _)⟩
 exact hR
mutual
def dN (q : IdT->Prop) : Ex->Prop
 | .mk _ k _ r _ l _=>(k = 3->q r)/\cZ q l
def cZ (q : IdT->Prop) : List Ex->Prop
 | []=>True
 | e::es=>dN q e/\cZ q es
end
theorem Db (q : IdT->Prop) (e : Ex) : dN q e↔(e.kind = 3->q e.ref)/\cZ q e.kids:=by cases e;rw [dN];rfl
theorem lK (q : IdT->Prop) : ∀ l : List Ex,cZ q l↔∀ e∈l,dN q e
 | []=>by rw [cZ];simp
 | e::es=>by rw [cZ,lK q es];simp
theorem qu {q q' : IdT->Prop} (h : ∀ r,q r->q' r) : ∀ e : Ex,dN q e->dN q' e
 | .mk i k n r t l s,hc=>by
  rw [dN] at hc ⊢
  exact ⟨fun hk=>h _ (hc.1 hk),go l hc.2⟩
 where go : ∀ l : List Ex,cZ q l->cZ q' l
 | [],_=>by rw [cZ];trivial
 | e::es,hc=>by
  rw [cZ] at hc ⊢
  exact ⟨qu h e hc.1,go es hc.2⟩
theorem tg {q : IdT->Prop} (ids : List IdT) : ∀ e : Ex,dN q e->dN q (eN ids e)
 | .mk i k n r t l s,hc=>by
  rw [dN] at hc
  rw [eN,dN]
  refine ⟨fun hk=>?_,go l hc.2⟩
  unfold iX
  rw [if_neg (by omega)]
  exact hc.1 hk
 where go : ∀ l : List Ex,cZ q l->cZ q (qD ids l)
 | [],_=>by rw [qD,cZ];trivial
 | e::es,hc=>by
  rw [cZ] at hc
  rw [qD,cZ]
  exact ⟨tg ids e hc.1,go es hc.2⟩
theorem bA {q : IdT->Prop} {k n : Int} {l : List Ex} {T : IdT} {r : IdT} {u : Ty} {ns : List ByteArray} (hk : k = 3->q r) (hl : ∀ e∈l,dN q e) : dN q (.mk T k n r u l ns):=by
 rw [dN]
 exact ⟨hk,(lK q l).2 hl⟩
def Gg (ds : List DefT) (j : Int) (r : IdT) : Prop:=∃ k,∃ h : k < ds.length,(k : Int) < j/\ds[k].id = r/\ds[k].kind = 2
theorem Mk.calls {c : MkC} {t : Ty} {env : List Bnd} {T T' : Int} {e : Ex} (h : Mk c t env T e T') : dN (Gg c.p.defs c.own) e:=by
 induction h with
 | int _=>exact bA (k:=0) (l:=[]) (fun h=>absurd h (by decide)) (fun _ h=>by cases h)
 | bool _=>exact bA (k:=1) (l:=[]) (fun h=>absurd h (by decide)) (fun _ h=>by cases h)
 | var _=>exact bA (k:=2) (l:=[]) (fun h=>absurd h (by decide)) (fun _ h=>by cases h)
 | @list env T kids Ts _ h0 _ ih =>
  refine bA (k:=11) (l:=kids) (fun h=>absurd h (by decide)) fun x hx=>?_
  obtain ⟨i,hi,rfl⟩:=List.mem_iff_getElem.1 hx
  exact ih i hi
 | @kase env T T1 d k e _ _ _ hm ih =>
  refine bA (k:=9) (l:=[e]) (fun h=>absurd h (by decide)) fun x hx=>?_
  rw [List.mem_singleton.1 hx];exact ih
 | @recd env T d kids _ _ Ts _ h0 hm ih =>
  refine bA (k:=7) (l:=kids) (fun h=>absurd h (by decide)) fun x hx=>?_
  obtain ⟨i,hi,rfl⟩:=List.mem_iff_getElem.1 hx
  exact ih i hi
 | @len env T T1 a hm ih =>
  refine bA (k:=4) (l:=[a]) (fun h=>absurd h (by decide)) fun x hx=>?_
  rw [List.mem_singleton.1 hx];exact ih
 | @not env T T1 a hm ih =>
  refine bA (k:=4) (l:=[a]) (fun h=>absurd h (by decide)) fun x hx=>?_
  rw [List.mem_singleton.1 hx];exact ih
 | @both t u env T T1 T2 n a b _ ha hb ih1 ih2 =>
  refine bA (k:=4) (l:=[a,b]) (fun h=>absurd h (by decide)) fun x hx=>?_
  simp only [List.mem_cons,List.not_mem_nil,or_false] at hx
  rcases hx with rfl | rfl
  ·exact ih1
  ·exact ih2
 | @ife t env T T1 T2 T3 a b e ha hb he ih1 ih2 ih3 =>
  refine bA (k:=5) (l:=[a,b,e]) (fun h=>absurd h (by decide)) fun x hx=>?_
  simp only [List.mem_cons,List.not_mem_nil,or_false] at hx
  rcases hx with rfl | rfl | rfl
  ·exact ih1
  ·exact ih2
  ·exact ih3
 | @lete t u env T T1 T2 a b m ha hb ih1 ih2 =>
  refine bA (k:=6) (l:=[a,b]) (fun h=>absurd h (by decide)) fun x hx=>?_
  simp only [List.mem_cons,List.not_mem_nil,or_false] at hx
  rcases hx with rfl | rfl
  ·exact ih1
  ·exact ih2
 | @fold t env T T1 T2 T3 a b e m m2 ha hb he ih1 ih2 ih3 =>
  refine bA (k:=12) (l:=[a,b,e]) (fun h=>absurd h (by decide)) fun x hx=>?_
  simp only [List.mem_cons,List.not_mem_nil,or_false] at hx
  rcases hx with rfl | rfl | rfl
  ·exact ih1
  ·exact ih2
  ·exact ih3
 | @mat t env T T1 d a kids ms _ _ Ts _ _ ha h0 hm ih1 ih =>
  refine bA (k:=10) (l:=a::kids) (fun h=>absurd h (by decide)) fun x hx=>?_
  rcases List.mem_cons.1 hx with rfl | hx
  ·exact ih1
  ·obtain ⟨i,hi,rfl⟩:=List.mem_iff_getElem.1 hx
   exact ih i hi
 | @field env T T1 d j a _ _ _ hm ih =>
  refine bA (k:=8) (l:=[a]) (fun h=>absurd h (by decide)) fun x hx=>?_
  rw [List.mem_singleton.1 hx];exact ih
 | @call env T k kids hd hk hv Ts _ h0 hm ih =>
  refine bA (k:=3) (l:=kids) (fun _=>⟨k,hd,hv.1,rfl,hk⟩) fun x hx=>?_
  obtain ⟨i,hi,rfl⟩:=List.mem_iff_getElem.1 hx
  exact ih i hi
theorem Gg.like {a b : List DefT} (h : dG a b) {j : Int} {r : IdT} (hp : Gg a j r) : Gg b j r:=by
 obtain ⟨k,hk,h1,h2,h3⟩:=hp
 have hk' : k < b.length:=by rw [<-h.len];exact hk
 have hs:=cL (h.get hk hk')
 exact ⟨k,hk',h1,by rw [<-hs.1];exact h2,by rw [<-hs.2.1];exact h3⟩
theorem ux (ids : List IdT) : ∀ e : Ex,(eN ids e).size = e.size
 | .mk i k n r t l s=>by rw [eN,Ex.size,Ex.size,go l]
 where go : ∀ l : List Ex,Ex.sizes (qD ids l) = Ex.sizes l
 | []=>by rw [qD]
 | e::es=>by rw [qD,Ex.sizes,Ex.sizes,ux ids e,go es]
structure CallsP (p : ProgT) : Prop where
 nm : Names p
 len : p.defs.length<=8
 calls : ∀ k (hk : k < p.defs.length),¬ bare p.defs[k]->dN (Gg p.defs k) p.defs[k].body/\p.defs[k].body.size<=100000000000
theorem nr (l : List Int) : CallsP (aX l):=by
 obtain ⟨N,hN,hlk,h⟩:=jV l
 have hlen : (aU l).length<=8:=by unfold aU;rw [cx];exact (gh l (ax l)).2
 refine ⟨(rY l).like hlk,by rw [hlk.len];exact hlen,fun k hk hnb=>?_⟩
 obtain ⟨e,T,T',ids,nx,⟨c,_,hcl,_,hco,_,h0,hmk⟩,hT',_,_,_,hbody⟩:=h k hk hnb
 rw [hbody,ux]
 have hc:=hmk.calls
 rw [hco] at hc
 exact ⟨qu (fun r hr=>(hr.like hcl).like hlk.symm) _ (tg _ _ hc),by have:=hmk.size;omega⟩
mutual
def hO (M : IdT->Int) : Ex->Int
 | .mk _ k _ r _ l _=>if k = 12 then -1 else match jF M k l 0 1 0 with
  | none=>-1
  | some (a,b)=>if (if k = 3 then M r else b) < 0 then -1 else fP (a+(if k = 3 then M r else b))
def jF (M : IdT->Int) (k : Int) : List Ex->Nat->Int->Int->Option (Int×Int)
 | [],_,a,b=>some (a,b)
 | e::es,i,a,b=>if hO M e < 0 then none else if 0 < i/\(k = 5\/k = 10) then jF M k es (i+1) a (max b (hO M e)) else jF M k es (i+1) (fP (a+hO M e)) b
end
theorem bndE_eq (M : IdT->Int) (e : Ex) : hO M e = if e.kind = 12 then -1 else match jF M e.kind e.kids 0 1 0 with
  | none=>-1
  | some (a,b)=>if (if e.kind = 3 then M e.ref else b) < 0 then -1 else fP (a+(if e.kind = 3 then M e.ref else b)):=by cases e;rw [hO];rfl
def qA (z : Int) : Prop:=z = -1\/0<=z/\z<=1099511627776
theorem tc {z : Int} (h : 0<=z) : 0<=fP z/\fP z<=1099511627776:=by unfold fP;omega
section
variable {M : IdT->Int} (hM : ∀ r,qA (M r))
theorem w5 (hM : ∀ r,qA (M r)) : ∀ e : Ex,qA (hO M e)
 | .mk i k n r t l s=>by
  rw [hO]
  split
  ·exact .inl rfl
  ·split
   ·exact .inl rfl
   ·rename_i a b hl
    have:=go k l 0 1 0 ⟨by omega,by omega⟩ ⟨by omega,by omega⟩ hl
    generalize (if k = 3 then M r else b) = z
    split
    ·exact .inl rfl
    ·rename_i hb
     exact .inr (tc (by omega))
 where go (k : Int) : ∀ (l : List Ex) (i : Nat) (a b : Int) {a' b' : Int},(0<=a/\a<=1099511627776)->(0<=b/\b<=1099511627776)->jF M k l i a b = some (a',b')->(0<=a'/\a'<=1099511627776)/\(0<=b'/\b'<=1099511627776)
 | [],i,a,b,a',b',ha,hb,h=>by
  rw [jF] at h
  simp only [Option.some.injEq,Prod.mk.injEq] at h
  rw [<-h.1,<-h.2]
  exact ⟨ha,hb⟩
 | e::es,i,a,b,a',b',ha,hb,h=>by
  have he:=w5 hM e
  unfold qA at he
  rw [jF] at h
  split at h
  ·cases h
  ·split at h
   ·exact go k es (i+1) _ _ ha (by omega) h
   ·exact go k es (i+1) _ _ (tc (by omega)) hb h
end
theorem nN {M M' : IdT->Int} {q : IdT->Prop} (h : ∀ r,q r->M r = M' r) : ∀ e : Ex,dN q e->hO M e = hO M' e
 | .mk i k n r t l s,hc=>by
  rw [dN] at hc
  rw [hO,hO,go k l hc.2 0 1 0]
  by_cases hk : k = 3
  ·rw [h r (hc.1 hk)]
  ·simp only [if_neg hk]
 where go (k : Int) : ∀ (l : List Ex),cZ q l->∀ (i : Nat) (a b : Int),jF M k l i a b = jF M' k l i a b
 | [],_,i,a,b=>by rw [jF,jF]
 | e::es,hc,i,a,b=>by
  rw [cZ] at hc
  rw [jF,jF,nN h e hc.1,go k es hc.2,go k es hc.2]
def lu (p : ProgT) : Nat->IdT->Int
 | 0,_=>-1
 | n+1,i=>if cT p i/\¬ bare (aj p i) then hO (lu p n) (aj p i).body else -1
def dV (p : ProgT) (i : IdT) : Int:=lu p p.defs.length i
theorem yb (p : ProgT) : ∀ (n : Nat) (i : IdT),qA (lu p n i)
 | 0,_=>.inl rfl
 | n+1,i=>by
  rw [lu]
  split
  ·exact w5 (yb p n) _
  ·exact .inl rfl
theorem ot {p : ProgT} (h : CallsP p) : ∀ (j : Nat) (hj : j < p.defs.length) (n : Nat),j < n->lu p n p.defs[j].id = lu p (j+1) p.defs[j].id:=by
 intro j
 induction j using Nat.strongRecOn with
 | _ j ih =>
  intro hj n hn
  obtain ⟨m,rfl⟩ : ∃ m,n = m+1:=⟨n - 1,by omega⟩
  rw [lu,lu,h.nm.the (List.getElem_mem hj)]
  split
  ·rename_i hc
   refine nN ?_ _ (h.calls j hj hc.2).1
   rintro r ⟨k,hk,hkj,rfl,_⟩
   rw [ih k (by omega) hk m (by omega),ih k (by omega) hk j (by omega)]
  ·rfl
theorem CF {p : ProgT} (h : CallsP p) {j : Nat} (hj : j < p.defs.length) (hb : ¬ bare p.defs[j]) : dV p p.defs[j].id = hO (dV p) p.defs[j].body:=by
 have e : ∃ m,p.defs.length = m+1:=⟨p.defs.length - 1,by omega⟩
 obtain ⟨m,hm⟩:=e
 have hmem:=List.getElem_mem hj
 have h1 : dV p p.defs[j].id = hO (lu p m) p.defs[j].body:=by
  unfold dV
  rw [hm,lu,h.nm.the hmem,if_pos ⟨Names.has hmem,hb⟩]
 rw [h1]
 refine nN ?_ _ (h.calls j hj hb).1
 rintro r ⟨k,hk,hkj,rfl,_⟩
 unfold dV
 rw [ot h k hk m (by omega),ot h k hk _ hk]
theorem rZ {p : ProgT} {i : IdT} (h : ¬ (cT p i/\¬ bare (aj p i))) : dV p i = -1:=by
 unfold dV
 cases p.defs.length with
 | zero=>rfl
 | succ n=>rw [lu,if_neg h]
abbrev TEnv:=List (IdT×Int×Ty)
def mO (G : TEnv) (r : IdT) (n : Int) : Option Ty:=(G.find? fun x=>decide (x.1 = r/\x.2.1 = n)).map (·.2.2)
inductive WTy (p : ProgT) : TEnv->Ex->Ty->Prop
 | int {G : TEnv} {i r : IdT} {n : Int} {t : Ty} {s : List ByteArray} : InR n->WTy p G (.mk i 0 n r t [] s) ty0
 | bool {G : TEnv} {i r : IdT} {n : Int} {t : Ty} {s : List ByteArray} : 0<=n/\n<=1->WTy p G (.mk i 1 n r t [] s) tyL
 | var {G : TEnv} {i r : IdT} {n : Int} {t u : Ty} {s : List ByteArray} : mO G r n = some u->WTy p G (.mk i 2 n r t [] s) u
 | list {G : TEnv} {i r : IdT} {n : Int} {t : Ty} {s : List ByteArray} {kids : List Ex} : kids.length<=2->(∀ j (h : j < kids.length),WTy p G kids[j] ty0)->WTy p G (.mk i 11 n r t kids s) (bF ty0)
 | kase {G : TEnv} {i : IdT} {t : Ty} {s : List ByteArray} {d : DefT} {k : Nat} {e : Ex} (hd : d∈p.defs) (hk : d.kind = 1) (h : k < d.slots.length) : WTy p G e d.slots[k].ty->WTy p G (.mk i 9 k d.id t [e] s) (ofT d.id)
 | recd {G : TEnv} {i : IdT} {n : Int} {t : Ty} {s : List ByteArray} {d : DefT} {kids : List Ex} (hd : d∈p.defs) (hk : d.kind = 0) (hl : kids.length = d.slots.length) : (∀ j (h : j < kids.length),WTy p G kids[j] (d.slots[j]'(by omega)).ty)->WTy p G (.mk i 7 n d.id t kids s) (ofT d.id)
 | len {G : TEnv} {i r : IdT} {t : Ty} {s : List ByteArray} {a : Ex} : WTy p G a (bF ty0)->WTy p G (.mk i 4 11 r t [a] s) ty0
 | not {G : TEnv} {i r : IdT} {t : Ty} {s : List ByteArray} {a : Ex} : WTy p G a tyL->WTy p G (.mk i 4 9 r t [a] s) tyL
 | both {G : TEnv} {i r : IdT} {n : Int} {t u v : Ty} {s : List ByteArray} {a b : Ex} : opTy n u v->WTy p G a u->WTy p G b u->WTy p G (.mk i 4 n r t [a,b] s) v
 | ife {G : TEnv} {i r : IdT} {n : Int} {t v : Ty} {s : List ByteArray} {a b e : Ex} : WTy p G a tyL->WTy p G b v->WTy p G e v->WTy p G (.mk i 5 n r t [a,b,e] s) v
 | lete {G : TEnv} {i r : IdT} {n : Int} {t u v : Ty} {s : List ByteArray} {a b : Ex} : WTy p G a u->WTy p ((i,0,u)::G) b v->WTy p G (.mk i 6 n r t [a,b] s) v
 | fold {G : TEnv} {i r : IdT} {n : Int} {t v : Ty} {s : List ByteArray} {a b e : Ex} : WTy p G a (bF ty0)->WTy p G b v->WTy p ((i,1,v)::(i,0,ty0)::G) e v->WTy p G (.mk i 12 n r t [a,b,e] s) v
 | mat {G : TEnv} {i r : IdT} {n : Int} {t v : Ty} {s : List ByteArray} {d : DefT} {a : Ex} {kids : List Ex} (hd : d∈p.defs) (hk : d.kind = 1) (hl : kids.length = d.slots.length) : WTy p G a (ofT d.id) ->
   (∀ j (h : j < kids.length),WTy p ((i,(j : Int),(d.slots[j]'(by omega)).ty)::G) kids[j] v)->WTy p G (.mk i 10 n r t (a::kids) s) v
 | field {G : TEnv} {i r : IdT} {t : Ty} {s : List ByteArray} {d : DefT} {j : Nat} {a : Ex} (hd : d∈p.defs) (hk : d.kind = 0) (h : j < d.slots.length) : WTy p G a (ofT d.id)->WTy p G (.mk i 8 j r t [a] s) d.slots[j].ty
 | call {G : TEnv} {i : IdT} {n : Int} {t : Ty} {s : List ByteArray} {d : DefT} {kids : List Ex} (hd : d∈p.defs) (hk : ¬ bare d) (hl : kids.length = d.slots.length) : (∀ j (h : j < kids.length),WTy p G kids[j] (d.slots[j]'(by omega)).ty)->WTy p G (.mk i 3 n d.id t kids s) d.result
def qG (p : ProgT) : TEnv->Env->Prop
 | [],[]=>True
 | x::G,y::E=>(y.1 = x.1/\y.2.1 = x.2.1/\aH p y.2.2 x.2.2 = true/\y.2.2.size<=256)/\qG p G E
 | _,_=>False
theorem qG.find {p : ProgT} {r : IdT} {n : Int} {u : Ty} : ∀ {G : TEnv} {E : Env},qG p G E->mO G r n = some u->aH p (dM E r n) u = true/\(dM E r n).size<=256
 | [],[],_,h=>by simp [mO] at h
 | x::G,y::E,h,hl=>by
  obtain ⟨⟨h1,h2,h3⟩,h4⟩:=h
  unfold mO at hl
  unfold dM
  rw [List.find?_cons] at hl ⊢
  rw [h1,h2]
  by_cases hc : x.1 = r/\x.2.1 = n
  ·rw [decide_eq_true hc] at hl ⊢
   simp only [Option.map_some,Option.some.injEq] at hl
   rw [<-hl]
   exact h3
  ·rw [decide_eq_false hc] at hl ⊢
   exact qG.find h4 hl
 | [],_::_,h,_=>h.elim
 | _::_,[],h,_=>h.elim
theorem ok0 (p : ProgT) : bg p ty0:=by unfold bg;exact (fB (by decide) (by decide)).2 ⟨rfl,rfl,.inl rfl⟩
theorem okL (p : ProgT) : bg p tyL:=by unfold bg;exact (fB (by decide) (by decide)).2 ⟨rfl,rfl,.inr rfl⟩
theorem Es (p : ProgT) : bg p (bF ty0):=by unfold bg;exact (jL rfl).2 ⟨rfl,ty0,rfl,(fB (by decide) (by decide)).2 ⟨rfl,rfl,.inl rfl⟩⟩
theorem okOf {p : ProgT} {i : IdT} (h : g9 p i) : bg p (ofT i):=by unfold bg;exact (kP rfl).2 ⟨h,rfl⟩
theorem fits_int {p : ProgT} {v : Val} : aH p v ty0 = true↔v.kind = 0/\v.kids = []/\InR v.n:=by
 rw [dB,if_pos (show ty0.kind = 0 from rfl)]
 simp [ok0,InR,and_assoc]
theorem fits_bool {p : ProgT} {v : Val} : aH p v tyL = true↔v.kind = 1/\v.kids = []/\(v.n = 0\/v.n = 1):=by
 rw [dB,if_neg (show ¬ tyL.kind = 0 by decide),if_pos (show tyL.kind = 1 from rfl)]
 simp [okL,and_assoc]
theorem jx {p : ProgT} {v : Val} : aH p v (bF ty0) = true↔v.kind = 4/\v.n = 0/\∀ x∈v.kids,aH p x ty0 = true:=by
 rw [dB,if_neg (show ¬ (bF ty0).kind = 0 by decide),if_neg (show ¬ (bF ty0).kind = 1 by decide),if_pos (show (bF ty0).kind = 2 from rfl)]
 simp only [Es,decide_true,Bool.true_and,Bool.and_eq_true,decide_eq_true_eq,mm,and_assoc]
 refine and_congr_right fun _=>and_congr_right fun _=>⟨fun h x hx=>?_,fun h j hj=>h _ (List.getElem_mem _)⟩
 obtain ⟨j,hj,rfl⟩:=List.mem_iff_getElem.1 hx
 exact h j hj
theorem uX {p : ProgT} {v : Val} {i : IdT} (ht : g9 p i) (hk : (aj p i).kind = 1) : aH p v (ofT i) = true↔v.kind = 3/\∃ k : Nat,∃ h : k < (aj p i).slots.length,v.n = k/\∃ x,v.kids = [x]/\aH p x (aj p i).slots[k].ty = true:=by
 rw [dB,if_neg (show ¬ (ofT i).kind = 0 from (by decide : ¬ (3 : Int) = 0)),if_neg (show ¬ (ofT i).kind = 1 from (by decide : ¬ (3 : Int) = 1)),if_neg (show ¬ (ofT i).kind = 2 from (by decide : ¬ (3 : Int) = 2)),if_pos (show (aj p (ofT i).df).kind = 1 from hk)]
 simp only [okOf ht,decide_true,Bool.true_and,Bool.and_eq_true,decide_eq_true_eq,mm,and_assoc,List.length_eq_one_iff]
 refine and_congr_right fun _=>⟨fun ⟨h0,h1,⟨x,hx⟩,h2⟩=>?_,fun ⟨k,h,hn,x,hx,h2⟩=>?_⟩
 ·refine ⟨v.n.toNat,by have : (ofT i).df = i:=rfl;rw [this] at h1;omega,by omega,x,hx,?_⟩
  have:=h2 0 (by rw [hx];simp)
  simp only [hx,List.getElem_cons_zero] at this
  rw [List.getD_eq_getElem?_getD,List.getElem?_map,List.getElem?_eq_getElem (by have : (ofT i).df = i:=rfl;rw [this] at h1 ⊢;omega)] at this
  exact this
 ·refine ⟨by omega,by show v.n < ((aj p i).slots.length : Int);omega,⟨x,hx⟩,fun j hj=>?_⟩
  simp only [hx,List.length_singleton] at hj
  obtain rfl : j = 0:=by omega
  simp only [hx,List.getElem_cons_zero]
  rw [hn,Int.toNat_natCast,List.getD_eq_getElem?_getD,List.getElem?_map]
  show aH p x ((Option.map SlotT.ty (aj p i).slots[k]?).getD ty0) = true
  rw [List.getElem?_eq_getElem h]
  exact h2
theorem yx {p : ProgT} {v : Val} {i : IdT} (ht : g9 p i) (hk : (aj p i).kind = 0) : aH p v (ofT i) = true↔v.kind = 2/\v.n = 0/\∃ hl : v.kids.length = (aj p i).slots.length,∀ j (h : j < v.kids.length),aH p v.kids[j] ((aj p i).slots[j]'(by omega)).ty = true:=by
 rw [dB,if_neg (show ¬ (ofT i).kind = 0 from (by decide : ¬ (3 : Int) = 0)),if_neg (show ¬ (ofT i).kind = 1 from (by decide : ¬ (3 : Int) = 1)),if_neg (show ¬ (ofT i).kind = 2 from (by decide : ¬ (3 : Int) = 2)),if_neg (show ¬ (aj p (ofT i).df).kind = 1 by show ¬ (aj p i).kind = 1;omega)]
 simp only [okOf ht,decide_true,Bool.true_and,Bool.and_eq_true,decide_eq_true_eq,and_assoc]
 refine and_congr_right fun _=>and_congr_right fun _=>⟨fun ⟨hl,h⟩=>⟨hl,fun j hj=>?_⟩,fun ⟨hl,h⟩=>⟨hl,?_⟩⟩
 ·have hl' : v.kids.length = (aj p i).slots.length:=hl
  have:=(mj (by rw [List.length_map];exact hl)).1 h j hj (by rw [List.length_map];show j < (aj p i).slots.length;omega)
  rw [List.getElem_map] at this
  exact this
 ·refine (mj (by rw [List.length_map];exact hl)).2 fun j hj hj2=>?_
  have:=h j hj
  rw [List.getElem_map]
  exact this
def uo (d : DefT) : TEnv:=(d.slots.map fun s=>(s.id,(0 : Int),s.ty)).reverse
structure TyP (p : ProgT) : Prop where
 body : ∀ d∈p.defs,¬ bare d->WTy p (uo d) d.body d.result
 the : ∀ d∈p.defs,aj p d.id = d
 few : ∀ d∈p.defs,d.slots.length<=1000
def kB (p : ProgT) (t : Ty) (B : Nat) (s : Int) : EO->Prop
 | .ok v s'=>aH p v t = true/\v.size<=B/\s<=s'
 | .err k=>k = 18\/k = 4
 | .bad=>False
def OutA (p : ProgT) (ts : Nat->Ty) (n : Nat) (s : Int) : AE->Prop
 | .ok l s'=>l.length = n/\(∀ j (h : j < l.length),aH p l[j] (ts j) = true/\l[j].size<=256)/\s<=s'
 | .err k=>k = 18\/k = 4
 | .bad=>False
theorem kB.le {p : ProgT} {t : Ty} {B B' : Nat} {s s0 : Int} {r : EO} (h : kB p t B s r) (hB : B<=B') (hs : s0<=s) : kB p t B' s0 r:=by
 cases r with
 | ok v s'=>exact ⟨h.1,Nat.le_trans h.2.1 hB,Int.le_trans hs h.2.2⟩
 | err k=>exact h
 | bad=>exact h
theorem kB.bind {p : ProgT} {t u : Ty} {B C : Nat} {s s0 : Int} {r : EO} {k : Val->Int->EO} (h : kB p t B s r) (hk : ∀ v s',aH p v t = true->v.size<=B->s<=s'->kB p u C s0 (k v s')) : kB p u C s0 (r.bind k):=by
 cases r with
 | ok v s'=>exact hk v s' h.1 h.2.1 h.2.2
 | err k=>exact h
 | bad=>exact h.elim
theorem OutA.bind {p : ProgT} {ts : Nat->Ty} {n : Nat} {u : Ty} {C : Nat} {s s0 : Int} {r : AE} {k : List Val->Int->EO} (h : OutA p ts n s r) (hk : ∀ l s',l.length = n->(∀ j (h : j < l.length),aH p l[j] (ts j) = true/\l[j].size<=256)->s<=s'->kB p u C s0 (k l s')) : kB p u C s0 (r.bind k):=by
 cases r with
 | ok v s'=>exact hk v s' h.1 h.2.1 h.2.2
 | err k=>exact h
 | bad=>exact h.elim
theorem kB.chk {p : ProgT} {t : Ty} {s : Int} {v : Val} {s' : Int} (h : aH p v t = true) (hB : v.size<=1152921504606846976) (hs : s<=s') : kB p t 256 s (pS v s'):=by
 by_cases hc : 256 < v.size\/24 < v.depth
 ·rw [td hB hc];exact .inr rfl
 ·rw [BK hc];exact ⟨h,by omega,hs⟩
theorem y5 {p : ProgT} {g : Ex->Int->EO} {F : Int} {m : Nat} : ∀ {l : List Ex} {ts : Nat->Ty} {s : Int},(∀ j (h : j < l.length) s',s<=s'->kB p (ts j) 256 s' (g l[j] s'))->OutA p ts l.length s (fU g l s)
 | [],ts,s,_=>by rw [fU];exact ⟨rfl,fun j h=>absurd h (Nat.not_lt_zero _),Int.le_refl _⟩
 | e::es,ts,s,h=>by
  rw [fU]
  have h0:=h 0 (by simp) s (Int.le_refl _)
  simp only [List.getElem_cons_zero] at h0
  cases he : g e s with
  | bad=>rw [he] at h0;exact h0.elim
  | err k=>rw [he] at h0;exact h0
  | ok v s1 =>
   rw [he] at h0
   have h1:=y5 (F:=F) (m:=m) (l:=es) (ts:=fun j=>ts (j+1)) (s:=s1) fun j hj s' hs=>by
    have:=h (j+1) (by simpa using hj) s' (Int.le_trans h0.2.2 hs)
    simpa using this
   dsimp only
   cases ha : fU g es s1 with
   | bad=>rw [ha] at h1;exact h1.elim
   | err k=>rw [ha] at h1;exact h1
   | ok l s2 =>
    rw [ha] at h1
    refine ⟨by simp [h1.1],fun j hj=>?_,Int.le_trans h0.2.2 h1.2.2⟩
    cases j with
    | zero=>exact ⟨h0.1,h0.2.1⟩
    | succ j=>exact h1.2.1 j (by simpa using hj)
theorem cA {p : ProgT} (c : Prop) [Decidable c] : aH p (fL c) tyL = true/\(fL c).size = 1:=by
 unfold fL
 split
 ·exact ⟨fits_bool.2 ⟨rfl,rfl,.inr rfl⟩,rfl⟩
 ·exact ⟨fits_bool.2 ⟨rfl,rfl,.inl rfl⟩,rfl⟩
theorem rest_in {a b : Int} (hb : InR b) : InR (kX a b):=by
 by_cases h0 : b = 0
 ·unfold kX;rw [if_pos h0];unfold InR;omega
 ·have:=Ch (a:=a) h0
  unfold InR at *
  omega
theorem op2_out {p : ProgT} {n : Int} {u t : Ty} {x y : Val} (h : opTy n u t) (hx : aH p x u = true) (hy : aH p y u = true) (h1 : x.size<=256) (h2 : y.size<=256) : ∃ v,opV n [x,y] = some v/\aH p v t = true/\v.size<=1000:=by
 show ∃ v,iS n x y = some v/\_
 unfold iS
 rcases h with ⟨h0,h4,rfl,rfl⟩ | ⟨rfl,rfl,rfl⟩ | ⟨rfl,rfl⟩ | ⟨h,rfl,rfl⟩ | ⟨rfl,rfl,rfl⟩
 ·have hx:=(fits_int.1 hx).2.2
  have hy:=(fits_int.1 hy).2.2
  rw [if_pos (by omega),if_pos ⟨hx,hy⟩]
  refine ⟨_,rfl,fits_int.2 ⟨rfl,rfl,?_⟩,by rw [Val.size_eq];show 1+0<=1000;omega⟩
  show InR (Eu n x.n y.n)
  unfold Eu
  split
  ·exact wZ _
  ·split
   ·exact wZ _
   ·split
    ·exact xC _ _
    ·split
     ·exact div_in hx
     ·exact rest_in hy
 ·rw [if_neg (by omega),if_pos rfl]
  exact ⟨_,rfl,(cA _).1,by rw [(cA (p:=p) _).2];omega⟩
 ·rw [if_neg (by omega),if_neg (by omega),if_pos rfl]
  exact ⟨_,rfl,(cA _).1,by rw [(cA (p:=p) _).2];omega⟩
 ·rw [if_neg (by omega),if_neg (by omega),if_neg (by omega)]
  rcases h with rfl | rfl
  ·rw [if_pos rfl]
   exact ⟨_,rfl,(cA _).1,by rw [(cA (p:=p) _).2];omega⟩
  ·rw [if_neg (by omega),if_pos rfl]
   exact ⟨_,rfl,(cA _).1,by rw [(cA (p:=p) _).2];omega⟩
 ·rw [if_neg (by omega),if_neg (by omega),if_neg (by omega),if_neg (by omega),if_neg (by omega),if_pos rfl]
  refine ⟨_,rfl,jx.2 ⟨rfl,rfl,fun z hz=>?_⟩,?_⟩
  ·rcases List.mem_append.1 hz with hz | hz
   ·exact (jx.1 hx).2.2 z hz
   ·exact (jx.1 hy).2.2 z hz
  ·rw [Val.size_eq] at h1 h2 ⊢
   show 1+Val.sizes (x.kids++y.kids)<=1000
   rw [Val.eM]
   omega
section
variable {p : ProgT} {g : Ex->Env->Int->EO} {i r : IdT} {n : Int} {t : Ty} {l : List Ex} {ns : List ByteArray} {env : Env} {s : Int}
theorem vF0 : bH p g (.mk i 0 n r t l ns) env s = .ok (.mk 0 n []) s:=rfl
theorem vF1 : bH p g (.mk i 1 n r t l ns) env s = .ok (fL (n ≠ 0)) s:=rfl
theorem vF2 : bH p g (.mk i 2 n r t l ns) env s = .ok (dM env r n) s:=rfl
theorem vF3 : bH p g (.mk i 3 n r t l ns) env s = (iT (fun x s=>g x env s) l s).bind fun l s1=>(match dg (aj p r).slots l [] with
  | some env2=>g (aj p r).body env2 s1
  | none=>.bad):=rfl
theorem vF4 : bH p g (.mk i 4 n r t l ns) env s = (iT (fun x s=>g x env s) l s).bind fun l s1=>rT (opV n l) s1:=rfl
theorem vF7 : bH p g (.mk i 7 n r t l ns) env s = (iT (fun x s=>g x env s) l s).bind fun l s1=>.ok (.mk 2 0 l) s1:=rfl
theorem vF9 : bH p g (.mk i 9 n r t l ns) env s = (iT (fun x s=>g x env s) l s).bind fun l s1=>.ok (.mk 3 n l) s1:=rfl
theorem vF11 : bH p g (.mk i 11 n r t l ns) env s = (iT (fun x s=>g x env s) l s).bind fun l s1=>.ok (.mk 4 0 l) s1:=rfl
theorem vF5 {a b e : Ex} : bH p g (.mk i 5 n r t [a,b,e] ns) env s = (g a env s).bind fun v s1=>if v.n ≠ 0 then g b env s1 else g e env s1:=rfl
theorem vF6 {a b : Ex} : bH p g (.mk i 6 n r t [a,b] ns) env s = (g a env s).bind fun v s1=>g b ((i,0,v)::env) s1:=rfl
theorem vF8 {a : Ex} : bH p g (.mk i 8 n r t [a] ns) env s = (g a env s).bind fun v s1=>if 0<=n then rT v.kids[n.toNat]? s1 else .bad:=rfl
theorem vF10 {a : Ex} : bH p g (.mk i 10 n r t (a::l) ns) env s = (g a env s).bind fun v s1=>match v.kids[0]? with
  | some x=>if -4611686018427387904<=v.n/\v.n<=4611686018427387904 then kf g (a::l) (1+v.n) ((i,v.n,x)::env) s1 else .bad
  | none=>.bad:=rfl
theorem vF12 {a b e : Ex} : bH p g (.mk i 12 n r t [a,b,e] ns) env s = (g a env s).bind fun v s1=>(g b env s1).bind fun acc s2=>fZ (fun x a s3=>g e ((i,1,a)::(i,0,x)::env) s3) v.kids acc s2:=rfl
end
theorem iQ {p : ProgT} {g : Ex->Int->EO} {l : List Ex} {ts : Nat->Ty} {s : Int} (hl : l.length<=1000) (h : ∀ j (h : j < l.length) s',s<=s'->kB p (ts j) 256 s' (g l[j] s')) : OutA p ts l.length s (iT g l s):=by
 unfold iT
 rw [if_neg (by omega)]
 exact y5 (F:=0) (m:=0) h
theorem ur {l : List Val} (h : ∀ j (h : j < l.length),l[j].size<=256) : Val.sizes l<=256 * l.length:=by
 induction l with
 | nil=>simp [Val.sizes]
 | cons x xs ih =>
  have h0:=h 0 (by simp)
  have h1:=ih fun j hj=>by have:=h (j+1) (by simpa using hj);simpa using this
  simp only [List.getElem_cons_zero] at h0
  rw [Val.sizes,List.length_cons]
  omega
theorem ef : ∀ l : List Val,l.length<=Val.sizes l
 | []=>by simp
 | x::xs=>by have:=ef xs;have:=Val.size_pos x;rw [Val.sizes,List.length_cons];omega
theorem sA {v x : Val} (h : x∈v.kids) : x.size<=v.size:=by
 have:=Val.bW h
 rw [Val.size_eq v]
 omega
theorem vz {p : ProgT} : ∀ {ss : List SlotT} {al : List Val} {G : TEnv} {E : Env},al.length = ss.length->(∀ j (h : j < al.length) (h2 : j < ss.length),aH p al[j] ss[j].ty = true/\al[j].size<=256)->qG p G E->∃ E2,dg ss al E = some E2/\qG p ((ss.map fun s=>(s.id,(0 : Int),s.ty)).reverse++G) E2
 | [],[],G,E,_,_,h=>⟨E,rfl,h⟩
 | x::ss,a::al,G,E,hl,ha,h=>by
  have h0:=ha 0 (by simp) (by simp)
  obtain ⟨E2,h1,h2⟩:=vz (p:=p) (ss:=ss) (al:=al) (G:=(x.id,0,x.ty)::G) (E:=(x.id,0,a)::E) (by simpa using hl) (fun j hj hj2=>by have:=ha (j+1) (by simpa using hj) (by simpa using hj2);simpa using this) ⟨⟨rfl,rfl,h0.1,h0.2⟩,h⟩
  refine ⟨E2,h1,?_⟩
  simp only [List.map_cons,List.reverse_cons,List.append_assoc,List.singleton_append]
  exact h2
theorem xF {p : ProgT} {d : DefT} {al : List Val} (hl : al.length = d.slots.length) (ha : ∀ j (h : j < al.length),aH p al[j] (d.slots[j]'(by omega)).ty = true/\al[j].size<=256) : ∃ E,dg d.slots al [] = some E/\qG p (uo d) E:=by
 obtain ⟨E,h1,h2⟩:=vz (p:=p) (ss:=d.slots) (al:=al) (G:=[]) (E:=[]) hl (fun j h _=>ha j h) trivial
 rw [List.append_nil] at h2
 exact ⟨E,h1,h2⟩
theorem uU {p : ProgT} {g : Val->Val->Int->EO} {t : Ty} : ∀ {l : List Val} {acc : Val} {s : Int},aH p acc t = true->acc.size<=256->(∀ x∈l,∀ a s',s<=s'->aH p a t = true->a.size<=256->kB p t 256 s' (g x a s'))->kB p t 256 s (fZ g l acc s)
 | [],acc,s,h1,h2,_=>by rw [fZ];exact ⟨h1,h2,Int.le_refl _⟩
 | x::xs,acc,s,h1,h2,h=>by
  rw [fZ]
  exact (h x (List.mem_cons_self ..) acc s (Int.le_refl _) h1 h2).bind fun v s' k1 k2 k3=>(uU k1 k2 fun y hy a s2 hs=>h y (List.mem_cons_of_mem _ hy) a s2 (Int.le_trans k3 hs)).le (Nat.le_refl _) k3
theorem zb {p : ProgT} (hp : TyP p) {g : Ex->Env->Int->EO} {s : Int} (ih : ∀ {e : Ex} {G : TEnv} {E : Env} {t : Ty} {s' : Int},WTy p G e t->qG p G E->s<=s'->kB p t 256 s' (g e E s')) {e : Ex} {G : TEnv} {E : Env} {t : Ty} (h : WTy p G e t) (hE : qG p G E) : kB p t 1000000 s (bH p g e E s):=by
 have tyd : ∀ {d : DefT},d∈p.defs->d.kind = 0\/d.kind = 1->g9 p d.id:=fun {d} hd hk=>⟨⟨d,hd,rfl⟩,by rw [hp.the d hd];exact hk⟩
 cases h with
 | int hn=>rw [vF0];exact ⟨fits_int.2 ⟨rfl,rfl,hn⟩,by rw [Val.size_eq];show 1+0<=_;omega,Int.le_refl _⟩
 | bool hn=>rw [vF1];exact ⟨(cA _).1,by rw [(cA (p:=p) _).2];omega,Int.le_refl _⟩
 | var hl=>rw [vF2];have:=hE.find hl;exact ⟨this.1,by omega,Int.le_refl _⟩
 | list hl hk =>
  rw [vF11]
  refine (iQ (by omega) fun j hj s' hs=>ih (hk j hj) hE hs).bind fun l s' h1 h2 hs=>⟨jx.2 ⟨rfl,rfl,fun x hx=>?_⟩,?_,hs⟩
  ·obtain ⟨j,hj,rfl⟩:=List.mem_iff_getElem.1 hx
   exact (h2 j hj).1
  ·have:=ur fun j hj=>(h2 j hj).2
   rw [Val.size_eq];show 1+Val.sizes l<=_;omega
 | @kase _ _ _ _ d k a hd hk hlt ha =>
  rw [vF9]
  refine (iQ (l:=[a]) (ts:=fun _=>d.slots[k].ty) (by simp) fun j hj s' hs=>?_).bind fun l s' h1 h2 hs=>?_
  ·simp only [List.length_singleton] at hj
   obtain rfl : j = 0:=by omega
   exact ih ha hE hs
  ·obtain ⟨x,rfl⟩:=List.length_eq_one_iff.1 h1
   have h0:=h2 0 (by simp)
   have htd:=tyd hd (.inr hk)
   have hth:=hp.the d hd
   refine ⟨(uX htd (by rw [hth];exact hk)).2 ⟨rfl,k,by rw [hth];exact hlt,rfl,x,rfl,?_⟩,?_,hs⟩
   ·simp only [hth];exact h0.1
   ·rw [Val.size_eq];show 1+(x.size+0)<=_;have:=h0.2;simp only [List.getElem_cons_zero] at this;omega
 | @recd _ _ _ _ _ d kids hd hk hl hm =>
  rw [vF7]
  have hf:=hp.few d hd
  refine (iQ (ts:=fun j=>(d.slots.getD j default).ty) (by omega) fun j hj s' hs=>?_).bind fun l s' h1 h2 hs=>?_
  ·rw [List.getD_eq_getElem?_getD,List.getElem?_eq_getElem (show j < d.slots.length by omega)]
   exact ih (hm j hj) hE hs
  ·have htd:=tyd hd (.inl hk)
   have hth:=hp.the d hd
   refine ⟨(yx htd (by rw [hth];exact hk)).2 ⟨rfl,rfl,by rw [hth];show l.length = _;omega,fun j hj=>?_⟩,?_,hs⟩
   ·have:=(h2 j hj).1
    rw [List.getD_eq_getElem?_getD,List.getElem?_eq_getElem (show j < d.slots.length by have : j < l.length:=hj;omega)] at this
    simp only [hth]
    exact this
   ·have:=ur fun j hj=>(h2 j hj).2
    rw [Val.size_eq];show 1+Val.sizes l<=_;omega
 | @len _ _ _ _ _ a ha =>
  rw [vF4]
  refine (iQ (l:=[a]) (ts:=fun _=>bF ty0) (by simp) fun j hj s' hs=>?_).bind fun l s' h1 h2 hs=>?_
  ·simp only [List.length_singleton] at hj
   obtain rfl : j = 0:=by omega
   exact ih ha hE hs
  ·obtain ⟨x,rfl⟩:=List.length_eq_one_iff.1 h1
   have h0:=h2 0 (by simp)
   refine ⟨fits_int.2 ⟨rfl,rfl,?_⟩,by rw [Val.size_eq];show 1+0<=_;omega,hs⟩
   have hx : x.size<=256:=h0.2
   have : x.kids.length<=Val.sizes x.kids:=ef _
   rw [Val.size_eq] at hx
   show InR (x.kids.length : Int)
   unfold InR;omega
 | @not _ _ _ _ _ a ha =>
  rw [vF4]
  refine (iQ (l:=[a]) (ts:=fun _=>tyL) (by simp) fun j hj s' hs=>?_).bind fun l s' h1 h2 hs=>?_
  ·simp only [List.length_singleton] at hj
   obtain rfl : j = 0:=by omega
   exact ih ha hE hs
  ·obtain ⟨x,rfl⟩:=List.length_eq_one_iff.1 h1
   exact ⟨(cA _).1,by show (fL _).size<=_;rw [(cA (p:=p) _).2];omega,hs⟩
 | @both _ _ _ _ _ u _ _ a b ho ha hb =>
  rw [vF4]
  refine (iQ (l:=[a,b]) (ts:=fun _=>u) (by simp) fun j hj s' hs=>?_).bind fun l s' h1 h2 hs=>?_
  ·match j,hj with
   | 0,_=>exact ih ha hE hs
   | 1,_=>exact ih hb hE hs
  ·obtain ⟨x,y,rfl⟩ : ∃ x y,l = [x,y]:=by
    match l,h1 with
    | [x,y],_=>exact ⟨x,y,rfl⟩
   have h0:=h2 0 (by simp)
   have h1:=h2 1 (by simp)
   obtain ⟨v,k1,k2,k3⟩:=op2_out (x:=x) (y:=y) ho h0.1 h1.1 h0.2 h1.2
   rw [k1]
   exact ⟨k2,by omega,hs⟩
 | ife ha hb he =>
  rw [vF5]
  refine (ih ha hE (Int.le_refl _)).bind fun v s' _ _ hs=>?_
  split
  ·exact (ih hb hE hs).le (by omega) hs
  ·exact (ih he hE hs).le (by omega) hs
 | lete ha hb =>
  rw [vF6]
  refine (ih ha hE (Int.le_refl _)).bind fun v s' h1 h2 hs=>(ih (E:=(_,0,v)::E) hb ⟨⟨rfl,rfl,h1,h2⟩,hE⟩ hs).le (by omega) hs
 | fold ha hb he =>
  rw [vF12]
  refine (ih ha hE (Int.le_refl _)).bind fun v s' h1 h2 hs=>(ih hb hE hs).bind fun acc s2 k1 k2 k3=>?_
  have hs2:=Int.le_trans hs k3
  refine (uU k1 k2 fun x hx a s3 h3 h4 h5=>?_).le (by omega) hs2
  have hxs:=sA hx
  exact ih (E:=(_,1,a)::(_,0,x)::E) he ⟨⟨rfl,rfl,h4,h5⟩,⟨rfl,rfl,(jx.1 h1).2.2 x hx,Nat.le_trans hxs h2⟩,hE⟩ (by omega)
 | @mat _ _ _ _ _ _ _ d a kids hd hk hl ha hm =>
  rw [vF10]
  refine (ih ha hE (Int.le_refl _)).bind fun v s' h1 h2 hs=>?_
  have hth:=hp.the d hd
  obtain ⟨_,k,hlt,hn,x,hx,hf⟩:=(uX (tyd hd (.inr hk)) (by rw [hth];exact hk)).1 h1
  have hf':=hp.few d hd
  simp only [hth] at hlt hf
  have hk' : k < kids.length:=by omega
  rw [hx]
  dsimp only [List.getElem?_cons_zero]
  rw [hn,if_pos (by omega),kf,if_pos (by omega),show (1+(k : Int)).toNat = k+1 by omega,List.getElem?_cons_succ,List.getElem?_eq_getElem hk']
  have hxs:=sA (v:=v) (x:=x) (by rw [hx];simp)
  exact (ih (E:=(_,(k : Int),x)::E) (hm k hk') ⟨⟨rfl,rfl,hf,Nat.le_trans hxs h2⟩,hE⟩ hs).le (by omega) hs
 | @field _ _ _ _ _ d j a hd hk hlt ha =>
  rw [vF8]
  refine (ih ha hE (Int.le_refl _)).bind fun v s' h1 h2 hs=>?_
  have hth:=hp.the d hd
  obtain ⟨_,_,hl,hf⟩:=(yx (tyd hd (.inl hk)) (by rw [hth];exact hk)).1 h1
  simp only [hth] at hl hf
  rw [if_pos (by omega),Int.toNat_natCast,List.getElem?_eq_getElem (by omega)]
  have:=sA (v:=v) (x:=v.kids[j]'(by omega)) (List.getElem_mem _)
  exact ⟨hf j (by omega),by omega,hs⟩
 | @call _ _ _ _ _ d kids hd hb hl hm =>
  rw [vF3]
  have hf:=hp.few d hd
  refine (iQ (ts:=fun j=>(d.slots.getD j default).ty) (by omega) fun j hj s' hs=>?_).bind fun l s' h1 h2 hs=>?_
  ·rw [List.getD_eq_getElem?_getD,List.getElem?_eq_getElem (show j < d.slots.length by omega)]
   exact ih (hm j hj) hE hs
  ·rw [hp.the d hd]
   obtain ⟨E2,h3,h4⟩:=xF (p:=p) (d:=d) (al:=l) (by omega) fun j hj=>by
    have:=h2 j hj
    rw [List.getD_eq_getElem?_getD,List.getElem?_eq_getElem (show j < d.slots.length by omega)] at this
    exact this
   rw [h3]
   exact (ih (hp.body d hd hb) h4 hs).le (by omega) hs
theorem pL {p : ProgT} (hp : TyP p) {F : Int} : ∀ (g : Nat) {e : Ex} {G : TEnv} {E : Env} {t : Ty} {s : Int},WTy p G e t->qG p G E->F<=s+g->kB p t 256 s (aI p F g e E s)
 | 0,e,G,E,t,s,_,_,h=>by rw [aI,if_pos (by omega)];exact .inl rfl
 | g+1,e,G,E,t,s,hw,hE,h=>by
  rw [aI]
  split
  ·exact .inl rfl
  ·exact (zb hp (s:=s+1) (fun hw hE hs=>pL hp g hw hE (by omega)) hw hE).bind fun v s' h1 h2 hs=>kB.chk h1 (by omega) (by omega)
def Rng (a b : Int) (l : List Int) : Prop:=l.Nodup/\∀ x∈l,a<=x/\x < b
theorem Rng.nil {a b : Int} : Rng a b []:=⟨List.nodup_nil,fun x h=>by simp at h⟩
theorem Rng.app {a b c : Int} {l m : List Int} (h : Rng a b l) (k : Rng b c m) (h1 : a<=b) (h2 : b<=c) : Rng a c (l++m):=by
 refine ⟨List.nodup_append.2 ⟨h.1,k.1,fun x hx y hy e=>?_⟩,fun x hx=>?_⟩
 ·have:=h.2 x hx;have:=k.2 y hy;omega
 ·rcases List.mem_append.1 hx with hx | hx
  ·have:=h.2 x hx;omega
  ·have:=k.2 x hx;omega
theorem Rng.one {a : Int} : Rng a (a+1) [a]:=⟨by simp,fun x h=>by simp at h;omega⟩
theorem Rng.mono {a b c d : Int} {l : List Int} (h : Rng b c l) (h1 : a<=b) (h2 : c<=d) : Rng a d l:=⟨h.1,fun x hx=>by have:=h.2 x hx;omega⟩
theorem uC {Ts : Nat->Int} : ∀ (l : List Ex) (k : Nat),(∀ i (h : i < l.length),Rng (Ts (k+i)) (Ts (k+i+1)) l[i].post/\Ts (k+i) < Ts (k+i+1))->Rng (Ts k) (Ts (k+l.length)) (Ex.cS l)/\Ts k<=Ts (k+l.length)
 | [],k,_=>by rw [Ex.cS];exact ⟨Rng.nil,by simp⟩
 | e::es,k,h=>by
  have h0:=h 0 (by simp)
  have h1:=uC es (k+1) fun i hi=>by
   have:=h (i+1) (by simpa using hi)
   rw [show k+1+i = k+(i+1) by omega]
   simpa using this
  simp only [List.getElem_cons_zero,Nat.add_zero] at h0
  rw [Ex.cS,List.length_cons,show k+(es.length+1) = k+1+es.length by omega]
  exact ⟨h0.1.app h1.1 (by omega) h1.2,by omega⟩
theorem Mk.cS {c : MkC} {t : Ty} {env : List Bnd} {T T' : Int} {e : Ex} (h : Mk c t env T e T') : Rng T T' e.post:=by
 have row : ∀ {l : List Ex} {Ts : Nat->Int},(∀ i (h : i < l.length),Rng (Ts i) (Ts (i+1)) l[i].post/\Ts i < Ts (i+1))->Rng (Ts 0) (Ts l.length) (Ex.cS l)/\Ts 0<=Ts l.length:=fun {l Ts} h=>by
  have:=uC (Ts:=Ts) l 0 fun i hi=>by rw [Nat.zero_add];exact h i hi
  rwa [Nat.zero_add] at this
 induction h with
 | int _=>exact Rng.one
 | bool _=>exact Rng.one
 | var _=>exact Rng.one
 | @list env T kids Ts _ h0 hm ih =>
  have:=row fun i hi=>⟨ih i hi,(hm i hi).lt⟩
  rw [Ex.dJ,<-h0]
  exact this.1.app Rng.one this.2 (by omega)
 | @kase env T T1 d k e _ _ _ hm ih =>
  rw [Ex.dJ]
  have:=hm.lt
  show Rng _ _ (e.post++[]++[T1])
  rw [List.append_nil]
  exact ih.app Rng.one (by omega) (by omega)
 | @recd env T d kids _ _ Ts _ h0 hm ih =>
  have:=row fun i hi=>⟨ih i hi,(hm i hi).lt⟩
  rw [Ex.dJ,<-h0]
  exact this.1.app Rng.one this.2 (by omega)
 | @len env T T1 a hm ih =>
  rw [Ex.dJ]
  have:=hm.lt
  show Rng _ _ (a.post++[]++[T1])
  rw [List.append_nil]
  exact ih.app Rng.one (by omega) (by omega)
 | @not env T T1 a hm ih =>
  rw [Ex.dJ]
  have:=hm.lt
  show Rng _ _ (a.post++[]++[T1])
  rw [List.append_nil]
  exact ih.app Rng.one (by omega) (by omega)
 | @both t u env T T1 T2 n a b _ ha hb ih1 ih2 =>
  rw [Ex.dJ]
  have:=ha.lt
  have:=hb.lt
  show Rng _ _ (a.post++(b.post++[])++[T2])
  rw [List.append_nil]
  exact (ih1.app ih2 (by omega) (by omega)).app Rng.one (by omega) (by omega)
 | @ife t env T T1 T2 T3 a b e ha hb he ih1 ih2 ih3 =>
  rw [Ex.dJ]
  have:=ha.lt
  have:=hb.lt
  have:=he.lt
  show Rng _ _ (a.post++(b.post++(e.post++[]))++[T3])
  rw [List.append_nil]
  exact (ih1.app (ih2.app ih3 (by omega) (by omega)) (by omega) (by omega)).app Rng.one (by omega) (by omega)
 | @lete t u env T T1 T2 a b m ha hb ih1 ih2 =>
  rw [Ex.dJ]
  have:=ha.lt
  have:=hb.lt
  show Rng _ _ (a.post++(b.post++[])++[T1])
  rw [List.append_nil]
  refine ⟨List.nodup_append.2 ⟨(ih1.app (ih2.mono (show T1<=T1+1 by omega) (Int.le_refl _)) (by omega) (by omega)).1,by simp,fun x hx y hy e=>?_⟩,fun x hx=>?_⟩
  ·simp only [List.mem_singleton] at hy
   rcases List.mem_append.1 hx with hx | hx
   ·have:=ih1.2 x hx;omega
   ·have:=ih2.2 x hx;omega
  ·rcases List.mem_append.1 hx with hx | hx
   ·rcases List.mem_append.1 hx with hx | hx
    ·have:=ih1.2 x hx;omega
    ·have:=ih2.2 x hx;omega
   ·simp only [List.mem_singleton] at hx;omega
 | @fold t env T T1 T2 T3 a b e m m2 ha hb he ih1 ih2 ih3 =>
  rw [Ex.dJ]
  have:=ha.lt
  have:=hb.lt
  have:=he.lt
  show Rng _ _ (a.post++(b.post++(e.post++[]))++[T2])
  rw [List.append_nil]
  refine ⟨List.nodup_append.2 ⟨(ih1.app (ih2.app (ih3.mono (show T2<=T2+1 by omega) (Int.le_refl _)) (by omega) (by omega)) (by omega) (by omega)).1,by simp,fun x hx y hy e=>?_⟩,fun x hx=>?_⟩
  ·simp only [List.mem_singleton] at hy
   rcases List.mem_append.1 hx with hx | hx
   ·have:=ih1.2 x hx;omega
   ·rcases List.mem_append.1 hx with hx | hx
    ·have:=ih2.2 x hx;omega
    ·have:=ih3.2 x hx;omega
  ·rcases List.mem_append.1 hx with hx | hx
   ·rcases List.mem_append.1 hx with hx | hx
    ·have:=ih1.2 x hx;omega
    ·rcases List.mem_append.1 hx with hx | hx
     ·have:=ih2.2 x hx;omega
     ·have:=ih3.2 x hx;omega
   ·simp only [List.mem_singleton] at hx;omega
 | @mat t env T T1 d a kids ms _ _ Ts _ _ ha h0 hm ih1 ih =>
  rw [Ex.dJ]
  have hr:=row fun i hi=>⟨ih i hi,(hm i hi).lt⟩
  rw [h0] at hr
  have:=ha.lt
  show Rng _ _ (a.post++Ex.cS kids++[T1])
  refine ⟨List.nodup_append.2 ⟨(ih1.app (hr.1.mono (show T1<=T1+1 by omega) (Int.le_refl _)) (by omega) (by omega)).1,by simp,fun x hx y hy e=>?_⟩,fun x hx=>?_⟩
  ·simp only [List.mem_singleton] at hy
   rcases List.mem_append.1 hx with hx | hx
   ·have:=ih1.2 x hx;omega
   ·have:=hr.1.2 x hx;omega
  ·rcases List.mem_append.1 hx with hx | hx
   ·rcases List.mem_append.1 hx with hx | hx
    ·have:=ih1.2 x hx;omega
    ·have:=hr.1.2 x hx;omega
   ·simp only [List.mem_singleton] at hx;omega
 | @field env T T1 d j a _ _ _ hm ih =>
  rw [Ex.dJ]
  have:=hm.lt
  show Rng _ _ (a.post++[]++[T1])
  rw [List.append_nil]
  exact ih.app Rng.one (by omega) (by omega)
 | @call env T k kids _ _ _ Ts _ h0 hm ih =>
  have:=row fun i hi=>⟨ih i hi,(hm i hi).lt⟩
  rw [Ex.dJ,<-h0]
  exact this.1.app Rng.one this.2 (by omega)
theorem oa : ∀ {ks : List Int} {ids : List IdT} {nx x : Int},0<=x->(∀ k∈ks,0<=k)->x ∉ ks->gE (bx ids ks nx) x = gE ids x
 | [],ids,nx,x,_,_,_=>by rw [bx]
 | k::ks,ids,nx,x,h0,hk,hx=>by
  have hk0:=hk k (List.mem_cons_self ..)
  have hne : x ≠ k:=fun e=>hx (by rw [e];exact List.mem_cons_self ..)
  rw [bx,oa h0 (fun j hj=>hk j (List.mem_cons_of_mem _ hj)) (fun h=>hx (List.mem_cons_of_mem _ h))]
  unfold gE
  rw [List.getD_eq_getElem?_getD,List.getD_eq_getElem?_getD,List.getElem?_set_ne (by omega)]
theorem jU : ∀ {ks : List Int} {ids : List IdT} {nx : Int},(∀ k∈ks,0<=k/\k < ids.length)->ks.Nodup->∀ j (h : j < ks.length),gE (bx ids ks nx) ks[j] = idK (nx+j)
 | k::ks,ids,nx,hk,hn,0,_=>by
  have hk0:=hk k (List.mem_cons_self ..)
  have hn:=List.nodup_cons.1 hn
  rw [List.getElem_cons_zero,bx,oa hk0.1 (fun j hj=>(hk j (List.mem_cons_of_mem _ hj)).1) hn.1]
  unfold gE
  rw [List.getD_eq_getElem?_getD,List.getElem?_set_self (by omega)]
  simp
 | k::ks,ids,nx,hk,hn,j+1,h=>by
  have hn:=List.nodup_cons.1 hn
  rw [List.getElem_cons_succ,bx,jU (fun i hi=>by rw [List.length_set];exact hk i (List.mem_cons_of_mem _ hi)) hn.2 j (by simpa using h)]
  congr 1
  push_cast
  omega
theorem zB {ks : List Int} {ids : List IdT} {nx : Int} (hk : ∀ k∈ks,0<=k/\k < ids.length) (hn : ks.Nodup) (h0 : 0<=nx) {x y : Int} (hx : x∈ks) (hy : y∈ks) (h : gE (bx ids ks nx) x = gE (bx ids ks nx) y) : x = y:=by
 obtain ⟨i,hi,rfl⟩:=List.mem_iff_getElem.1 hx
 obtain ⟨j,hj,rfl⟩:=List.mem_iff_getElem.1 hy
 rw [jU hk hn i hi,jU hk hn j hj] at h
 have : i = j:=by
  by_cases e : (nx+i : Int) = nx+j
  ·omega
  ·exact absurd h (pq (by omega) (by omega) e)
 subst this
 rfl
def sg (ids : List IdT) (i : IdT) : IdT:=if i.seq = 0 then gE ids i.index else i
def gOf (ids : List IdT) (env : List Bnd) : TEnv:=(env.map fun b=>(sg ids b.id,b.n,b.ty)).reverse
theorem oF (ids : List IdT) (env : List Bnd) (b : Bnd) : gOf ids (env++[b]) = (sg ids b.id,b.n,b.ty)::gOf ids env:=by unfold gOf;simp
structure Nm (ids : List IdT) (S : List Int) (Q : IdT->Prop) : Prop where
 inj : ∀ x y,x∈S->y∈S->gE ids x = gE ids y->x = y
 sep : ∀ x∈S,∀ q,Q q->q ≠ gE ids x
structure EnvI (ids : List IdT) (S : List Int) (Q : IdT->Prop) (env : List Bnd) (T : Int) : Prop where
 is : ∀ b∈env,(b.id.seq = 0/\b.id.index∈S/\b.id.index < T)\/(b.id.seq ≠ 0/\Q b.id)
 look : ∀ b∈env,mO (gOf ids env) (sg ids b.id) b.n = some b.ty
variable {ids : List IdT} {S : List Int} {Q : IdT->Prop} {env : List Bnd} {T T1 : Int}
theorem EnvI.mono (h : EnvI ids S Q env T) (hT : T<=T1) : EnvI ids S Q env T1:=⟨fun b hb=>(h.is b hb).imp (fun k=>⟨k.1,k.2.1,by omega⟩) id,h.look⟩
theorem EnvI.fresh (h : EnvI ids S Q env T) (hn : Nm ids S Q) (hT : T<=T1) (hS : T1∈S) : ∀ b∈env,sg ids b.id ≠ gE ids T1:=fun b hb e=>by
 unfold sg at e
 rcases h.is b hb with ⟨h1,h2,h3⟩ | ⟨h1,h2⟩
 ·rw [if_pos h1] at e
  have:=hn.inj _ _ h2 hS e
  omega
 ·rw [if_neg h1] at e
  exact hn.sep _ hS _ h2 e
theorem EnvI.add (h : EnvI ids S Q env T) {k : Int} {u : Ty} {T2 : Int} (hT : T<=T2) (hS : T1∈S) (h2 : T1 < T2) (hne : ∀ b∈env,¬ (sg ids b.id = gE ids T1/\b.n = k)) : EnvI ids S Q (env++[⟨⟨0,0,T1⟩,k,u⟩]) T2:=by
 refine ⟨fun b hb=>?_,fun b hb=>?_⟩
 ·rcases List.mem_append.1 hb with hb | hb
  ·exact (h.mono hT).is b hb
  ·simp only [List.mem_singleton] at hb
   subst hb
   exact .inl ⟨rfl,hS,h2⟩
 ·rw [oF]
  have e : sg ids (⟨⟨0,0,T1⟩,k,u⟩ : Bnd).id = gE ids T1:=rfl
  rcases List.mem_append.1 hb with hb | hb
  ·unfold mO
   have hc : ¬ (sg ids (⟨⟨0,0,T1⟩,k,u⟩ : Bnd).id = sg ids b.id/\k = b.n):=fun hc=>hne b hb ⟨hc.1.symm.trans e,hc.2.symm⟩
   rw [List.find?_cons,decide_eq_false hc]
   exact h.look b hb
  ·simp only [List.mem_singleton] at hb
   subst hb
   unfold mO
   rw [List.find?_cons,decide_eq_true ⟨rfl,rfl⟩]
   rfl
end Xe

namespace Xe
open Go
theorem rK {ids : List IdT} {k : Int} {r : IdT} (h : k ≠ 2) : iX ids k r = r:=by unfold iX;rw [if_neg (fun c=>h c.1)]
theorem Cj (ids : List IdT) (r : IdT) : iX ids 2 r = sg ids r:=by
 unfold iX sg
 by_cases h : r.seq = 0
 ·rw [if_pos ⟨rfl,h⟩,if_pos h]
 ·rw [if_neg (fun c=>h c.2),if_neg h]
theorem fk (ids : List IdT) (i : IdT) (k n : Int) (r : IdT) (t : Ty) (l : List Ex) (s : List ByteArray) : eN ids (.mk i k n r t l s) = .mk (gE ids i.index) k n (iX ids k r) t (l.map (eN ids)) s:=by rw [eN,rJ]
theorem uD : ∀ {l : List Ex} {e : Ex} {x : Int},e∈l->x∈e.post->x∈Ex.cS l
 | a::l,e,x,he,hx=>by
  rw [Ex.cS]
  rcases List.mem_cons.1 he with rfl | he
  ·exact List.mem_append_left _ hx
  ·exact List.mem_append_right _ (uD he hx)
theorem bY {e k : Ex} {x : Int} (hk : k∈e.kids) (hx : x∈k.post) : x∈e.post:=by rw [Ex.dJ];exact List.mem_append_left _ (uD hk hx)
theorem rS (e : Ex) : e.id.index∈e.post:=by rw [Ex.dJ];simp
theorem lC {a : List DefT} {p : ProgT} (hl : dG a p.defs) {d : DefT} (hd : d∈a) : ∃ d'∈p.defs,d.id = d'.id/\d.kind = d'.kind/\d.slots = d'.slots/\d.result = d'.result:=by
 obtain ⟨e,he,hs⟩:=hl.mem hd
 have:=cL hs
 exact ⟨e,he,this.1,this.2.1,this.2.2.2.2.1,this.2.2.2.2.2.1⟩
theorem Mk.wty {c : MkC} {p : ProgT} (hl : dG c.p.defs p.defs) {ids : List IdT} {S : List Int} {Q : IdT->Prop} (hn : Nm ids S Q) {t : Ty} {env : List Bnd} {T T' : Int} {e : Ex} (h : Mk c t env T e T') : (∀ x∈e.post,x∈S)->EnvI ids S Q env T->WTy p (gOf ids env) (eN ids e) t:=by
 induction h with
 | int hi=>intro _ _;rw [cM,fk];exact WTy.int hi
 | bool hi=>intro _ _;rw [cM,fk];exact WTy.bool hi
 | @var env T b hb=>intro _ hE;show WTy _ _ (eN ids (.mk _ 2 _ _ _ [] _)) _;rw [fk,Cj];exact WTy.var (hE.look b hb)
 | @list env T kids Ts hk h0 hm ih =>
  intro hS hE
  show WTy _ _ (eN ids (.mk _ 11 _ _ _ kids _)) _
  rw [fk]
  refine WTy.list (by simpa using hk) fun j hj=>?_
  rw [List.length_map] at hj
  rw [List.getElem_map]
  refine ih j hj (fun x hx=>hS x (bY (e:=.mk _ 11 _ _ _ kids _) (List.getElem_mem hj) hx)) (hE.mono ?_)
  ·rw [<-h0];exact (cY (Ts:=Ts) _ (fun i hi=>(hm i hi).lt) j (by omega)).1
 | @kase env T T1 d k e hd hk hlt hm ih =>
  intro hS hE
  obtain ⟨d',hd',e1,e2,e3,e4⟩:=lC hl hd
  show WTy _ _ (eN ids (.mk _ 9 _ _ _ [e] _)) _
  rw [fk,rK (by decide),e1]
  refine WTy.kase hd' (by omega) (by rw [<-e3];exact hlt) ?_
  simp only [<-e3]
  exact ih (fun x hx=>hS x (bY (k:=e) (List.mem_cons_self ..) hx)) hE
 | @recd env T d kids hd hk Ts hkl h0 hm ih =>
  intro hS hE
  obtain ⟨d',hd',e1,e2,e3,e4⟩:=lC hl hd
  show WTy _ _ (eN ids (.mk _ 7 _ _ _ kids _)) _
  rw [fk,rK (by decide),e1]
  refine WTy.recd hd' (by omega) (by rw [List.length_map,<-e3];exact hkl) fun j hj=>?_
  rw [List.length_map] at hj
  rw [List.getElem_map]
  simp only [<-e3]
  refine ih j hj (fun x hx=>hS x (bY (e:=.mk _ 7 _ _ _ kids _) (List.getElem_mem hj) hx)) (hE.mono ?_)
  rw [<-h0];exact (cY (Ts:=Ts) _ (fun i hi=>(hm i hi).lt) j (by omega)).1
 | @len env T T1 a hm ih =>
  intro hS hE
  show WTy _ _ (eN ids (.mk _ 4 _ _ _ [a] _)) _
  rw [fk]
  exact WTy.len (ih (fun x hx=>hS x (bY (k:=a) (List.mem_cons_self ..) hx)) hE)
 | @not env T T1 a hm ih =>
  intro hS hE
  show WTy _ _ (eN ids (.mk _ 4 _ _ _ [a] _)) _
  rw [fk]
  exact WTy.not (ih (fun x hx=>hS x (bY (k:=a) (List.mem_cons_self ..) hx)) hE)
 | @both t u env T T1 T2 n a b ho ha hb ih1 ih2 =>
  intro hS hE
  show WTy _ _ (eN ids (.mk _ 4 _ _ _ [a,b] _)) _
  rw [fk]
  exact WTy.both ho (ih1 (fun x hx=>hS x (bY (k:=a) (by simp [cM,Ex.kids]) hx)) hE) (ih2 (fun x hx=>hS x (bY (k:=b) (by simp [cM,Ex.kids]) hx)) (hE.mono (by have:=ha.lt;omega)))
 | @ife t env T T1 T2 T3 a b e ha hb he ih1 ih2 ih3 =>
  intro hS hE
  have:=ha.lt
  have:=hb.lt
  show WTy _ _ (eN ids (.mk _ 5 _ _ _ [a,b,e] _)) _
  rw [fk]
  exact WTy.ife (ih1 (fun x hx=>hS x (bY (k:=a) (by simp [cM,Ex.kids]) hx)) hE) (ih2 (fun x hx=>hS x (bY (k:=b) (by simp [cM,Ex.kids]) hx)) (hE.mono (by omega))) (ih3 (fun x hx=>hS x (bY (k:=e) (by simp [cM,Ex.kids]) hx)) (hE.mono (by omega)))
 | @lete t u env T T1 T2 a b m ha hb ih1 ih2 =>
  intro hS hE
  have:=ha.lt
  have hT1 : T1∈S:=hS T1 (rS ((cM 6 0 [] T1).cQ [a,b] [m]))
  show WTy _ _ (eN ids (.mk ⟨0,0,T1⟩ 6 _ _ _ [a,b] _)) _
  rw [fk]
  have h2:=ih2 (fun x hx=>hS x (bY (k:=b) (by simp [cM,Ex.cQ,Ex.kids]) hx)) (hE.add (by omega) hT1 (by omega) fun b hb hc=>hE.fresh hn (by omega) hT1 b hb hc.1)
  rw [oF] at h2
  exact WTy.lete (ih1 (fun x hx=>hS x (bY (k:=a) (by simp [cM,Ex.cQ,Ex.kids]) hx)) hE) h2
 | @fold t env T T1 T2 T3 a b e m m2 ha hb he ih1 ih2 ih3 =>
  intro hS hE
  have:=ha.lt
  have:=hb.lt
  have hT2 : T2∈S:=hS T2 (rS ((cM 12 0 [] T2).cQ [a,b,e] [m,m2]))
  show WTy _ _ (eN ids (.mk ⟨0,0,T2⟩ 12 _ _ _ [a,b,e] _)) _
  rw [fk]
  have hf:=hE.fresh hn (show T<=T2 by omega) hT2
  have hE1:=hE.add (k:=0) (u:=ty0) (show T<=T2+1 by omega) hT2 (by omega) fun b hb hc=>hf b hb hc.1
  have hE2:=hE1.add (k:=1) (u:=t) (show T2+1<=T2+1 by omega) hT2 (by omega) fun b hb hc=>by
   rcases List.mem_append.1 hb with hb | hb
   ·exact hf b hb hc.1
   ·simp only [List.mem_singleton] at hb
    subst hb
    exact absurd hc.2 (show ¬ (0 : Int) = 1 by decide)
  have h3:=ih3 (fun x hx=>hS x (bY (k:=e) (by simp [cM,Ex.cQ,Ex.kids]) hx)) hE2
  rw [oF,oF] at h3
  exact WTy.fold (ih1 (fun x hx=>hS x (bY (k:=a) (by simp [cM,Ex.cQ,Ex.kids]) hx)) hE) (ih2 (fun x hx=>hS x (bY (k:=b) (by simp [cM,Ex.cQ,Ex.kids]) hx)) (hE.mono (by omega))) h3
 | @mat t env T T1 d a kids ms hd hk Ts hkl hml ha h0 hm ih1 ih =>
  intro hS hE
  obtain ⟨d',hd',e1,e2,e3,e4⟩:=lC hl hd
  have:=ha.lt
  have hT1 : T1∈S:=hS T1 (rS (((cM 10 0 [] T1).setRef d.id).cQ (a::kids) ms))
  show WTy _ _ (eN ids (.mk ⟨0,0,T1⟩ 10 _ _ _ (a::kids) _)) _
  rw [fk,List.map_cons]
  refine WTy.mat hd' (by omega) (by rw [List.length_map,<-e3];exact hkl) (by rw [<-e1];exact ih1 (fun x hx=>hS x (bY (k:=a) (List.mem_cons_self ..) hx)) hE) fun j hj=>?_
  rw [List.length_map] at hj
  rw [List.getElem_map]
  simp only [<-e3]
  have hstep:=(cY (Ts:=Ts) _ (fun i hi=>(hm i hi).lt) j (by omega)).1
  have h2:=ih j hj (fun x hx=>hS x (bY (e:=((cM 10 0 [] T1).setRef d.id).cQ (a::kids) ms) (List.mem_cons_of_mem _ (List.getElem_mem hj)) hx)) (hE.add (by omega) hT1 (by omega) fun b hb hc=>hE.fresh hn (by omega) hT1 b hb hc.1)
  rw [oF] at h2
  exact h2
 | @field env T T1 d j a hd hk hlt hm ih =>
  intro hS hE
  obtain ⟨d',hd',e1,e2,e3,e4⟩:=lC hl hd
  show WTy _ _ (eN ids (.mk _ 8 _ _ _ [a] _)) _
  rw [fk]
  have:=WTy.field (i:=gE ids T1) (r:=iX ids 8 d.id) (t:=ty0) (s:=[]) hd' (by omega) (show j < d'.slots.length by rw [<-e3];exact hlt) (by rw [<-e1];exact ih (fun x hx=>hS x (bY (k:=a) (List.mem_cons_self ..) hx)) hE)
  simp only [<-e3] at this
  exact this
 | @call env T k kids hd hk hv Ts hkl h0 hm ih =>
  intro hS hE
  obtain ⟨d',hd',e1,e2,e3,e4⟩:=lC hl (List.getElem_mem hd)
  show WTy _ _ (eN ids (.mk _ 3 _ _ _ kids _)) _
  rw [fk,rK (by decide),e1,e4]
  refine WTy.call hd' (by unfold bare;omega) (by rw [List.length_map,<-e3];exact hkl) fun j hj=>?_
  rw [List.length_map] at hj
  rw [List.getElem_map]
  simp only [<-e3]
  refine ih j hj (fun x hx=>hS x (bY (e:=.mk _ 3 _ _ _ kids _) (List.getElem_mem hj) hx)) (hE.mono ?_)
  rw [<-h0];exact (cY (Ts:=Ts) _ (fun i hi=>(hm i hi).lt) j (by omega)).1
theorem Cu (ps : List PlanT) {j : Nat} (hj : j < ps.length) : dF (ps.take j)+ps[j].types.length<=dF ps:=by
 have e : ps = ps.take j++(ps[j]::ps.drop (j+1)):=by rw [<-List.drop_eq_getElem_cons hj,List.take_append_drop]
 have:=congrArg dF e
 rw [qf,mc] at this
 omega
theorem Cw (q : PlanT) (nx : Int) (k : Nat) (hk : k < (dz q nx).length) : (dz q nx)[k].id = idK (nx+k):=by
 simp [dz]
theorem uj (l : List Int) : ∀ d∈aU l,∃ m : Int,0<=m/\m+d.slots.length<=iH l/\∀ j (h : j < d.slots.length),d.slots[j].id = idK (m+j):=by
 intro d hd
 have hn : 1<=ax l:=by rcases jv l with h | h <;> omega
 obtain ⟨j,hj,rfl⟩:=List.mem_iff_getElem.1 hd
 unfold aU at hj ⊢
 rw [cx] at hj
 rw [cV _ _ _ hj]
 refine ⟨ax l+(gA l).length+dF ((gA l).take j),by omega,?_,fun k hk=>?_⟩
 ·have:=Cu (gA l) hj
  show _+((dz _ _).length : Int)<=_
  rw [bX]
  unfold iH
  omega
 ·exact Cw _ _ _ hk
theorem few0 (l : List Int) : ∀ d∈aU l,(d.slots.length : Int)<=100:=fun d hd=>by
 obtain ⟨m,h0,h1,_⟩:=uj l d hd
 have:=rX l
 omega
theorem zQ {ids : List IdT} {m : Int} : ∀ (ss : List SlotT),(∀ s∈ss,s.id.seq ≠ 0)->(∀ i j (hi : i < ss.length) (hj : j < ss.length),ss[i].id = ss[j].id->i = j)->∀ s∈ss,mO (gOf ids (ss.map fun x=>⟨x.id,0,x.ty⟩)) s.id 0 = some s.ty:=by
 intro ss hq hi s hs
 unfold mO
 obtain ⟨k,hk,rfl⟩:=List.mem_iff_getElem.1 hs
 have hg : gOf ids (ss.map fun x=>(⟨x.id,0,x.ty⟩ : Bnd)) = (ss.map fun x=>(x.id,(0 : Int),x.ty)).reverse:=by
  unfold gOf
  rw [List.map_map]
  congr 1
  refine List.map_congr_left fun x hx=>?_
  show (sg ids x.id,(0 : Int),x.ty) = _
  unfold sg
  rw [if_neg (hq x hx)]
 rw [hg]
 have : ((ss.map fun x=>(x.id,(0 : Int),x.ty)).reverse.find? fun x=>decide (x.1 = ss[k].id/\x.2.1 = 0)) = some (ss[k].id,0,ss[k].ty):=by
  rw [List.find?_eq_some_iff_getElem]
  refine ⟨by simp,ss.length - 1 - k,by simp;omega,?_,fun j hj=>?_⟩
  ·rw [List.getElem_reverse,List.getElem_map]
   simp only [List.length_map,show ss.length - 1 - (ss.length - 1 - k) = k by omega]
  ·rw [List.getElem_reverse,List.getElem_map]
   simp only [List.length_map,Bool.not_eq_true',decide_eq_false_iff_not,and_true]
   intro e
   have:=hi _ _ (by omega) hk e
   omega
 rw [this]
 rfl
theorem nq (l : List Int) : TyP (aX l):=by
 obtain ⟨N,hN,hlk,hnm⟩:=jV l
 have hb0 : Names (aX l):=(rY l).like hlk
 have hget : ∀ d∈(aX l).defs,∃ e∈aU l,d.slots = e.slots:=fun d hd=>by
  obtain ⟨e,he,hs⟩:=hlk.mem hd
  exact ⟨e,he,(cL hs).2.2.2.2.1⟩
 have hn0:=rX l
 refine ⟨fun d hd hnb=>?_,fun d hd=>hb0.the hd,fun d hd=>?_⟩
 ·obtain ⟨k,hk,rfl⟩:=List.mem_iff_getElem.1 hd
  obtain ⟨e,T,T',ids,nx,⟨c,hc1,hc2,hc3,hc4,hc5,hT,hmk⟩,hTN,hlen,hnx,hnx2,hbody⟩:=hnm k hk hnb
  obtain ⟨d0,hd0,hsl⟩:=hget _ hd
  obtain ⟨m,hm0,hm1,hm2⟩:=uj l d0 hd0
  have hseq:=ng l d0 hd0
  rw [<-hsl] at hm1 hm2 hseq
  generalize (aX l).defs[k] = d at hm1 hm2 hseq hbody hmk hnb
  have hp:=hmk.cS
  have hks : ∀ x∈e.post,0<=x/\x < ids.length:=fun x hx=>by have:=hp.2 x hx;omega
  have hN' : Nm (bx ids e.post nx) e.post (fun q=>∃ s∈d.slots,s.id = q):=by
   refine ⟨fun x y hx hy h=>zB hks hp.1 (by omega) hx hy h,?_⟩
   rintro x hx _ ⟨s,hs,rfl⟩ h
   obtain ⟨j,hj,rfl⟩:=List.mem_iff_getElem.1 hs
   obtain ⟨i,hi,rfl⟩:=List.mem_iff_getElem.1 hx
   rw [jU hks hp.1 i hi,hm2 j hj] at h
   exact pq (by omega) (by omega) (by omega) h
  have hinj : ∀ i j (hi : i < d.slots.length) (hj : j < d.slots.length),d.slots[i].id = d.slots[j].id->i = j:=fun i j hi hj h=>by
   rw [hm2 i hi,hm2 j hj] at h
   by_cases hij : (m+i : Int) = m+j
   ·omega
   ·exact absurd h (pq (by omega) (by omega) hij)
  have hE : EnvI (bx ids e.post nx) e.post (fun q=>∃ s∈d.slots,s.id = q) (bR d) T:=by
   refine ⟨fun b hb=>?_,fun b hb=>?_⟩ <;> obtain ⟨s,hs,rfl⟩:=ie hb
   ·exact .inr ⟨hseq s hs,s,hs,rfl⟩
   ·have:=zQ (ids:=bx ids e.post nx) (m:=0) d.slots hseq hinj s hs
    show mO _ (sg _ s.id) 0 = _
    unfold sg
    rw [if_neg (hseq s hs)]
    exact this
  have hw:=hmk.wty (p:=aX l) (hc2.trans hlk.symm) hN' (fun x hx=>hx) hE
  rw [hbody]
  have hg : gOf (bx ids e.post nx) (bR d) = uo d:=by
   unfold gOf bR uo
   rw [List.map_map]
   congr 1
   refine List.map_congr_left fun x hx=>?_
   show (sg _ x.id,(0 : Int),x.ty) = _
   unfold sg
   rw [if_neg (hseq x hx)]
  rw [<-hg]
  exact hw
 ·obtain ⟨e,he,hs⟩:=hget d hd
  rw [hs]
  have:=few0 l e he
  omega
end Xe

namespace Go.Proofs.YtanbipbiblikbaaDoor
open Xe Pm
def varD (x : IdT×Int×Val) : List D:=[an x.1.shop,an x.1.seq,an x.1.index,an x.2.1,an x.2.2.kind,an x.2.2.n,.sl x.2.2.kids.length 3 (x.2.2.kids.flatMap Val.enc)]
def bK (E : Env) : D:=.sl E.length 7 (E.reverse.flatMap varD)
mutual
theorem sY : ∀ v : Val,v.depth<=v.size
 | .mk k n l=>by rw [Val.depth,Val.size];have:=jC l;omega
theorem jC : ∀ l : List Val,Val.aV l<=Val.sizes l
 | []=>by simp [Val.aV]
 | v::vs=>by rw [Val.aV,Val.sizes];have:=sY v;have:=jC vs;omega
end
theorem DN (v : Val) : v.size<=1000000000000000->IS s44 [v.enc] [[vI (v.size : Int)]]:=by
 refine Val.vZ (p:=fun v=>v.size<=1000000000000000->IS s44 [v.enc] [[vI (v.size : Int)]]) (fun v ih hv=>?_) v
 refine w44.is ?_
 unfold g44
 rw [Val.ay]
 have he:=Val.size_eq v
 refine cz v.kids.length (fun j=>[[vI (1+(Val.sizes (v.kids.take j) : Int))],[vI (j : Int)],[an v.kind,an v.n,.sl v.kids.length 3 (v.kids.flatMap Val.enc)]]) (fun _=>True) trivial (by simp [Val.sizes];rfl) fun j next hj _ hn=>?_
 simp only [pmr]
 refine ⟨fun h=>⟨by omega,?_⟩,fun h=>?_⟩
 ·have hlt : j < v.kids.length:=by omega
  have hm:=Val.bW (List.getElem_mem hlt)
  have h1:=Val.iA v.kids j hlt
  have h2:=Val.fe v.kids (j+1)
  have h3:=ef v.kids
  rw [kD _ hlt]
  refine ai (ih _ (List.getElem_mem hlt) (by omega)) ?_
  simp only [pmr]
  unfold okI
  refine ⟨by omega,by omega,?_⟩
  have:=hn hlt trivial
  rw [h1] at this
  push_cast at this
  rw [<-Int.add_assoc] at this
  exact this
 ·have : j = v.kids.length:=by omega
  subst this
  rw [List.take_length,he]
  push_cast
  rfl
theorem Ck (v : Val) : v.size<=1000000000000000->IS s45 [v.enc] [[vI (v.depth : Int)]]:=by
 refine Val.vZ (p:=fun v=>v.size<=1000000000000000->IS s45 [v.enc] [[vI (v.depth : Int)]]) (fun v ih hv=>?_) v
 refine w45.is ?_
 unfold g45
 rw [Val.ay]
 have he:=Val.size_eq v
 have hd:=Val.sZ v
 have hds : Val.aV v.kids<=Val.sizes v.kids:=jC v.kids
 refine cz v.kids.length (fun j=>[[vI (Val.aV (v.kids.take j) : Int)],[vI (j : Int)],[an v.kind,an v.n,.sl v.kids.length 3 (v.kids.flatMap Val.enc)]]) (fun _=>True) trivial (by simp [Val.aV];rfl) fun j next hj _ hn=>?_
 simp only [pmr]
 refine ⟨fun h=>⟨by omega,?_⟩,fun h=>?_⟩
 ·have hlt : j < v.kids.length:=by omega
  have hm:=Val.bW (List.getElem_mem hlt)
  have h1:=Val.qp v.kids j hlt
  have h3:=ef v.kids
  rw [kD _ hlt]
  refine ai (ih _ (List.getElem_mem hlt) (by omega)) ?_
  simp only [pmr]
  unfold okI
  refine ⟨by omega,?_⟩
  have:=hn hlt trivial
  rw [h1] at this
  rw [show max ((Val.aV (v.kids.take j) : Nat) : Int) ((v.kids[j].depth : Nat) : Int) = ((max (Val.aV (v.kids.take j)) v.kids[j].depth : Nat) : Int) by omega]
  exact this
 ·have : j = v.kids.length:=by omega
  subst this
  rw [List.take_length,hd]
  unfold okI
  exact ⟨by omega,rfl⟩
theorem wV {a b : Int} (h : a < b) : eS a b = -1:=by unfold eS;rw [if_pos h]
theorem wX {a b : Int} (h : b < a) : eS a b = 1:=by unfold eS;rw [if_neg (by omega),if_pos h]
theorem wY {a b : Int} (h : ¬ a < b) (h2 : ¬ b < a) : eS a b = 0:=by unfold eS;rw [if_neg h,if_neg h2]
theorem el1 {x y z : D} : el [x,y,z] 1 0 = [x]/\el [x,y,z] 1 1 = [y]/\el [x,y,z] 1 2 = [z]:=⟨rfl,rfl,rfl⟩
theorem rcmp_is (a : Val) : ∀ b : Val,a.size<=1000000000000000->IS s30 [a.enc,b.enc] [[vI (jD a b)]]:=by
 refine Val.vZ (p:=fun a=>∀ b : Val,a.size<=1000000000000000->IS s30 [a.enc,b.enc] [[vI (jD a b)]]) (fun a ih b ha=>?_) a
 refine w30.is ?_
 unfold g30
 have hc:=wU a b
 rw [Val.ay a,Val.ay b]
 simp only [pmr]
 refine cz 3 (fun j=>[[vI (j : Int)],[an a.kind,an a.n,.sl a.kids.length 3 (a.kids.flatMap Val.enc)],[an b.kind,an b.n,.sl b.kids.length 3 (b.kids.flatMap Val.enc)],[.sl 3 1 [an a.kind,an a.n,vI (a.kids.length : Int)]],[.sl 3 1 [an b.kind,an b.n,vI (b.kids.length : Int)]]])
  (fun j=>(0 < j->eS a.kind b.kind = 0)/\(1 < j->eS a.n b.n = 0)/\(2 < j->eS a.kids.length b.kids.length = 0)) ⟨fun h=>by omega,fun h=>by omega,fun h=>by omega⟩ rfl fun j next hj hI hn=>?_
 simp only [pmr]
 refine ⟨fun h=>⟨by omega,by omega,?_⟩,fun h=>?_⟩
 ·have : j = 0\/j = 1\/j = 2:=by omega
  rcases this with rfl | rfl | rfl
  ·simp only [el1,pmr]
   refine ⟨fun h1=>?_,fun h1=>⟨by omega,by omega,fun h2=>?_,fun h2=>⟨by unfold okI;omega,hn (by omega) ⟨fun _=>wY h1 h2,fun h=>by omega,fun h=>by omega⟩⟩⟩⟩
   ·rw [hc,wV h1,if_pos (by decide)]
   ·rw [hc,wX h2,if_pos (by decide)]
  ·simp only [el1,pmr]
   refine ⟨fun h1=>?_,fun h1=>⟨by omega,by omega,fun h2=>?_,fun h2=>⟨by unfold okI;omega,hn (by omega) ⟨fun _=>hI.1 (by omega),fun _=>wY h1 h2,fun h=>by omega⟩⟩⟩⟩
   ·rw [hc,hI.1 (by omega),if_neg (by decide),wV h1,if_pos (by decide)]
   ·rw [hc,hI.1 (by omega),if_neg (by decide),wX h2,if_pos (by decide)]
  ·simp only [el1,pmr]
   refine ⟨fun h1=>?_,fun h1=>⟨by omega,by omega,fun h2=>?_,fun h2=>⟨by unfold okI;omega,hn (by omega) ⟨fun _=>hI.1 (by omega),fun _=>hI.2.1 (by omega),fun _=>wY h1 h2⟩⟩⟩⟩
   ·rw [hc,hI.1 (by omega),if_neg (by decide),hI.2.1 (by omega),if_neg (by decide),wV h1,if_pos (by decide)]
   ·rw [hc,hI.1 (by omega),if_neg (by decide),hI.2.1 (by omega),if_neg (by decide),wX h2,if_pos (by decide)]
 ·obtain ⟨h1,h2,h3⟩:=hI
  have hl : a.kids.length = b.kids.length:=by
   have:=h3 (by omega)
   unfold eS at this
   split at this
   ·omega
   ·split at this <;> omega
  rw [h1 (by omega),h2 (by omega),h3 (by omega),if_neg (by decide),if_neg (by decide),if_neg (by decide)] at hc
  have hls:=ef a.kids
  have hse:=Val.size_eq a
  refine cz a.kids.length (fun j=>[[vI (j : Int)],[an a.kind,an a.n,.sl a.kids.length 3 (a.kids.flatMap Val.enc)],[an b.kind,an b.n,.sl b.kids.length 3 (b.kids.flatMap Val.enc)]]) (fun j=>∀ i (h : i < a.kids.length) (h' : i < b.kids.length),i < j->jD a.kids[i] b.kids[i] = 0) (fun i _ _ h=>by omega) rfl fun j next hj hI hn=>?_
  simp only [pmr]
  refine ⟨fun h=>?_,fun h=>?_⟩
  ·have hlt : j < a.kids.length:=by omega
   have hlt' : j < b.kids.length:=by omega
   have hm:=Val.bW (List.getElem_mem hlt)
   refine ⟨by omega,by omega,?_⟩
   rw [kD _ hlt,kD _ hlt']
   refine ai (ih _ (List.getElem_mem hlt) _ (by omega)) ?_
   simp only [pmr,pms]
   refine ⟨fun h0=>⟨by unfold okI;omega,hn hlt fun i h1 h2 h3=>?_⟩,fun h0=>?_⟩
   ·by_cases e : i = j
    ·subst e;exact h0
    ·exact hI i h1 h2 (by omega)
   ·rw [hc,pR hlt hlt' (fun i h1 h2 h3=>hI i h1 h2 h3) h0]
  ·rw [hc,nK hl fun i h1 h2=>hI i h1 h2 (by omega)]
theorem same_is (a b : Val) (ha : a.size<=1000000000000000) : IS s11 [a.enc,b.enc] [[vB (decide (jD a b = 0))]]:=by
 refine w11.is ?_
 unfold g11
 refine ai (rcmp_is a b ha) ?_
 simp only [pmr]
abbrev pgL (p : ProgT) : List D:=[.sl p.mods.length 6 (p.mods.flatMap ModT.enc),.sl p.defs.length 31 (p.defs.flatMap DefT.enc)]
theorem rDef_is (p : ProgT) (i : IdT) (hs : p.defs.length<=1000000000000) : IS A4 [pgL p,i.enc] [(aj p i).enc,[vB (decide (cT p i))]]:=by
 refine w58_1.is ?_
 unfold g58_1
 simp only [pmr]
 refine ja ?_
 refine cz p.defs.length (fun k=>[[vI (k : Int)],pgL p,i.enc,ku.enc]) (fun k=>∀ j (hj : j < p.defs.length),j < k->p.defs[j].id ≠ i) (fun _ _ h=>absurd h (Nat.not_lt_zero _)) rfl fun k next hi hI hn=>?_
 simp only [pmr,pms]
 refine ⟨fun h=>?_,fun h=>?_⟩
 ·have hk : k < p.defs.length:=by omega
  rw [iL _ hk]
  simp only [pmr,pms]
  refine ⟨by omega,fun e=>⟨by omega,?_⟩,fun e=>⟨by unfold okI;omega,hn hk fun j hj h=>?_⟩⟩
  ·obtain ⟨h1,h2⟩:=gd hk hI e
   rw [h2,decide_eq_true h1]
  ·by_cases e' : j = k
   ·subst e'
    exact e
   ·exact hI j hj (by omega)
 ·obtain rfl : k = p.defs.length:=by omega
  obtain ⟨h1,h2⟩:=iU fun j hj=>hI j hj hj
  rw [h2,decide_eq_false h1]
  rfl
theorem sC (d : DefT) (hk : 0<=d.kind/\d.kind<=5) : IS s59 [d.enc] [[vB (decide (¬ bare d))]]:=by
 refine w59.is ?_
 unfold g59
 have e : ∀ b : Bool,(b = decide (¬ bare d))->([[vB b]] : St') = [[vB (decide (¬ bare d))]]:=fun b h=>by rw [h]
 simp only [pmr,pms]
 unfold bare at e ⊢
 refine ⟨fun h=>e _ (decide_eq_true (by omega)).symm,fun h2=>⟨fun h=>e _ (decide_eq_true (by omega)).symm,fun h3=>⟨fun h=>e _ (decide_eq_true (by omega)).symm,fun h4=>e _ (decide_eq_decide.2 (by omega))⟩⟩⟩
theorem FX (M : IdT->Int) (k : Int) (l : List Ex) (i : Nat) (hi : i < l.length) (a b : Int) : jF M k (l.drop i) i a b = if hO M l[i] < 0 then none else if 0 < i/\(k = 5\/k = 10) then jF M k (l.drop (i+1)) (i+1) a (max b (hO M l[i])) else jF M k (l.drop (i+1)) (i+1) (fP (a+hO M l[i])) b:=by
 rw [List.drop_eq_getElem_cons hi,jF]
section
variable {p : ProgT} {q : IdT->Prop}
end
section
variable (p : ProgT) (F : Int)
def vlD (l : List Val) : D:=.sl l.length 3 (l.flatMap Val.enc)
end
section
variable {p : ProgT} {F : Int}
end
end Go.Proofs.YtanbipbiblikbaaDoor

namespace Xe
open Go
def Fu (F' s : Int) (r r' : EO) : Prop:=∀ x s',r = .ok x s'->s<=s'/\(s<=F'->(s'<=F'->r' = .ok x s')/\(F' < s'->r' = .err 18))
def FuA (F' s : Int) (r r' : AE) : Prop:=∀ x s',r = .ok x s'->s<=s'/\(s<=F'->(s'<=F'->r' = .ok x s')/\(F' < s'->r' = .err 18))
section
variable {F' s : Int}
theorem Fu.ok (v : Val) : Fu F' s (.ok v s) (.ok v s):=fun x s' h=>by
 injection h with h1 h2
 subst h1 h2
 exact ⟨Int.le_refl _,fun h=>⟨fun _=>rfl,fun h2=>absurd h2 (by omega)⟩⟩
theorem Fu.bad (r : EO) : Fu F' s .bad r:=fun _ _ h=>by cases h
theorem Fu.bind {a a' : EO} {k k' : Val->Int->EO} (h : Fu F' s a a') (hk : ∀ v s1,Fu F' s1 (k v s1) (k' v s1)) : Fu F' s (a.bind k) (a'.bind k'):=fun x s' e=>by
 cases a with
 | err z=>cases e
 | bad=>cases e
 | ok v s1 =>
  obtain ⟨h1,h2⟩:=h v s1 rfl
  obtain ⟨h3,h4⟩:=hk v s1 x s' e
  refine ⟨by omega,fun h0=>⟨fun hf=>?_,fun hf=>?_⟩⟩
  ·rw [(h2 h0).1 (by omega)];exact (h4 (by omega)).1 hf
  ·by_cases h5 : s1<=F'
   ·rw [(h2 h0).1 h5];exact (h4 h5).2 hf
   ·rw [(h2 h0).2 (by omega)];rfl
theorem FuA.bind {a a' : AE} {k k' : List Val->Int->EO} (h : FuA F' s a a') (hk : ∀ v s1,Fu F' s1 (k v s1) (k' v s1)) : Fu F' s (a.bind k) (a'.bind k'):=fun x s' e=>by
 cases a with
 | err z=>cases e
 | bad=>cases e
 | ok v s1 =>
  obtain ⟨h1,h2⟩:=h v s1 rfl
  obtain ⟨h3,h4⟩:=hk v s1 x s' e
  refine ⟨by omega,fun h0=>⟨fun hf=>?_,fun hf=>?_⟩⟩
  ·rw [(h2 h0).1 (by omega)];exact (h4 (by omega)).1 hf
  ·by_cases h5 : s1<=F'
   ·rw [(h2 h0).1 h5];exact (h4 h5).2 hf
   ·rw [(h2 h0).2 (by omega)];rfl
end
theorem BU {F' : Int} {g g' : Ex->Int->EO} (h : ∀ e s,Fu F' s (g e s) (g' e s)) : ∀ (l : List Ex) (s : Int),FuA F' s (fU g l s) (fU g' l s)
 | [],s=>fun x s' e=>by
  rw [fU] at e ⊢
  injection e with h1 h2
  subst h1 h2
  exact ⟨Int.le_refl _,fun h=>⟨fun _=>rfl,fun h2=>absurd h2 (by omega)⟩⟩
 | e::es,s=>fun x s' he=>by
  rw [fU] at he ⊢
  have h1:=h e s
  cases hv : g e s with
  | err z=>rw [hv] at he;cases he
  | bad=>rw [hv] at he;cases he
  | ok v s1 =>
   obtain ⟨h2,h3⟩:=h1 v s1 hv
   rw [hv] at he
   dsimp only at he
   cases hl : fU g es s1 with
   | err z=>rw [hl] at he;cases he
   | bad=>rw [hl] at he;cases he
   | ok l s2 =>
    rw [hl] at he
    injection he with e1 e2
    subst e1 e2
    obtain ⟨h4,h5⟩:=BU h es s1 l s2 hl
    refine ⟨by omega,fun h0=>⟨fun hf=>?_,fun hf=>?_⟩⟩
    ·rw [(h3 h0).1 (by omega)];dsimp only;rw [(h5 (by omega)).1 hf]
    ·by_cases h6 : s1<=F'
     ·rw [(h3 h0).1 h6];dsimp only;rw [(h5 h6).2 hf]
     ·rw [(h3 h0).2 (by omega)]
theorem allK_fu {F' : Int} {g g' : Ex->Int->EO} (h : ∀ e s,Fu F' s (g e s) (g' e s)) (l : List Ex) (s : Int) : FuA F' s (iT g l s) (iT g' l s):=by
 unfold iT
 split
 ·exact fun _ _ h=>by cases h
 ·exact BU h l s
theorem yu {F' : Int} {g g' : Val->Val->Int->EO} (h : ∀ x a s,Fu F' s (g x a s) (g' x a s)) : ∀ (l : List Val) (acc : Val) (s : Int),Fu F' s (fZ g l acc s) (fZ g' l acc s)
 | [],acc,s=>by rw [fZ,fZ];exact Fu.ok acc
 | x::xs,acc,s=>by rw [fZ,fZ];exact (h x acc s).bind fun a s1=>yu h xs a s1
section
variable {F' : Int} {g g' : Ex->Env->Int->EO} (h : ∀ e env s,Fu F' s (g e env s) (g' e env s))
theorem j8 (h : ∀ e env s,Fu F' s (g e env s) (g' e env s)) (l : List Ex) (k : Int) (env : Env) (s : Int) : Fu F' s (kf g l k env s) (kf g' l k env s):=by
 unfold kf
 split
 ·split
  ·exact h _ _ _
  ·exact Fu.bad _
 ·exact Fu.bad _
theorem xY (o : Option Val) (s : Int) : Fu F' s (rT o s) (rT o s):=by
 cases o
 ·exact Fu.bad _
 ·exact Fu.ok _
theorem AA (h : ∀ e env s,Fu F' s (g e env s) (g' e env s)) (e : Ex) (env : Env) (v : Val) (s : Int) : Fu F' s (gv g e env v s) (gv g' e env v s):=by
 unfold gv
 split
 ·split
  ·exact j8 h _ _ _ _
  ·exact j8 h _ _ _ _
 ·split
  ·exact j8 h _ _ _ _
  ·split
   ·split
    ·exact xY _ _
    ·exact Fu.bad _
   ·split
    ·split
     ·split
      ·exact j8 h _ _ _ _
      ·exact Fu.bad _
     ·exact Fu.bad _
    ·exact (j8 h _ _ _ _).bind fun acc s1=>yu (fun x a s2=>j8 h _ _ _ _) _ _ _
theorem tV (p : ProgT) (h : ∀ e env s,Fu F' s (g e env s) (g' e env s)) (e : Ex) (env : Env) (s : Int) : Fu F' s (bH p g e env s) (bH p g' e env s):=by
 unfold bH
 have ha:=fun l s=>allK_fu (F':=F') (g:=fun x s=>g x env s) (g':=fun x s=>g' x env s) (fun e s=>h e env s) l s
 split
 ·exact Fu.ok _
 ·split
  ·exact Fu.ok _
  ·split
   ·exact Fu.ok _
   ·split
    ·refine (ha _ _).bind fun l s1=>?_
     split
     ·exact h _ _ _
     ·exact Fu.bad _
    ·split
     ·exact (ha _ _).bind fun l s1=>xY _ _
     ·split
      ·exact (ha _ _).bind fun l s1=>Fu.ok _
      ·split
       ·exact (ha _ _).bind fun l s1=>Fu.ok _
       ·split
        ·exact (ha _ _).bind fun l s1=>Fu.ok _
        ·exact (j8 h _ _ _ _).bind fun v s1=>AA h _ _ _ _
end
theorem BL {F' : Int} (v : Val) (s : Int) : Fu F' s (pS v s) (pS v s):=by
 unfold pS
 split
 ·exact Fu.bad _
 ·split
  ·exact fun _ _ h=>by cases h
  ·exact Fu.ok _
theorem sS (p : ProgT) (F F' : Int) : ∀ (g : Nat) (e : Ex) (env : Env) (s : Int),Fu F' s (aI p F g e env s) (aI p F' g e env s)
 | 0,e,env,s=>by
  rw [aI]
  split
  ·exact fun _ _ h=>by cases h
  ·exact Fu.bad _
 | g+1,e,env,s=>by
  rw [aI,aI]
  split
  ·exact fun _ _ h=>by cases h
  ·intro x s' he
   have h1:=((tV p (fun e env s=>sS p F F' g e env s) e env (s+1)).bind fun v s1=>BL v s1) x s' he
   refine ⟨by omega,fun h0=>?_⟩
   split
   ·exact ⟨fun h2=>absurd h2 (by omega),fun _=>rfl⟩
   ·exact h1.2 (by omega)
theorem yH {p : ProgT} {F : Int} : ∀ {g : Nat} {e : Ex} {env : Env} {s : Int} {x : Val} {s' : Int},aI p F g e env s = .ok x s'->s < s'/\s'<=F:=by
 intro g e env s x s' h
 have h1:=sS p F F g e env s x s' h
 have h3 : ¬ F<=s:=fun hc=>by rw [sR hc] at h;cases h
 constructor
 ·cases g with
  | zero=>rw [aI,if_neg h3] at h;cases h
  | succ g =>
   rw [aI,if_neg h3] at h
   have:=((tV p (fun e env s=>sS p F F g e env s) e env (s+1)).bind fun v s1=>BL v s1) x s' h
   omega
 ·by_cases hc : s'<=F
  ·exact hc
  ·have:=(h1.2 (by omega)).2 (by omega)
   rw [h] at this
   cases this
theorem CS {p : ProgT} (hn : Names p) {t : Ty} (h : gTy p t) : bg p t:=by
 rcases h with rfl | rfl | rfl | ⟨d,hd,hk,rfl⟩
 ·exact ok0 p
 ·exact okL p
 ·exact Es p
 ·exact okOf ⟨⟨d,hd,rfl⟩,by rw [hn.the hd];exact hk⟩
theorem Ab {p : ProgT} (hn : Names p) : ∀ (n : Nat) {t : Ty},wfT p n t->gTy p t->vdT p n t
 | 0,t,h,_=>h.elim
 | n+1,t,h,hg=>by
  refine ⟨CS hn hg,fun h2=>?_,fun h3=>?_⟩
  ·have hw:=(fJ h h2).2
   rcases hg with rfl | rfl | rfl | ⟨d,hd,hk,rfl⟩
   ·cases h2
   ·cases h2
   ·exact Ab hn n hw (.inl rfl)
   ·cases h2
  ·have hw:=(eY h (by omega) (by omega) (by omega)).2.2
   rcases hg with rfl | rfl | rfl | ⟨d,hd,hk,rfl⟩
   ·cases h3
   ·cases h3
   ·cases h3
   ·intro s hs
    have hs' : s∈d.slots:=by rw [show (ofT d.id).df = d.id from rfl,hn.the hd] at hs;exact hs
    exact Ab hn n (hw s hs) (hn.gs d hd s hs')
theorem xQ (l : List Int) : ∀ d∈(aX l).defs,∀ s∈d.slots,wfT (aX l) 4 s.ty/\vdT (aX l) 4 s.ty:=fun d hd s hs=>by
 obtain ⟨N,hN,hlk,_⟩:=jV l
 have hnm:=(nr l).nm
 obtain ⟨e,he,hsh⟩:=hlk.mem hd
 have hs' : s∈e.slots:=by rw [<-(cL hsh).2.2.2.2.1];exact hs
 have h1:=(F0 l).2 e he s hs'
 have h2 : wfT ⟨(aX l).mods,(aX l).defs⟩ 4 s.ty:=hlk.wf 4 _ h1
 have h3 : wfT (aX l) 4 s.ty:=h2
 exact ⟨h3,Ab hnm 4 h3 (hnm.gs d hd s hs)⟩
theorem oX {p : ProgT} {t : Ty} (h : wfT p 4 t) (l : List Int) (d : Int) : (mkF p l 4 t 0 d).1.size<=256/\(mkF p l 4 t 0 d).1.depth<=4:=by
 have h1:=(qR 4 t 0 d (l:=l) h).2
 have h2:=EJ 4 t 0 d (l:=l) h
 have h3 : (4 : Int) ^ 4 = 256:=by decide
 exact ⟨by omega,CG 4 t 0 d h⟩
theorem B3 {p : ProgT} {t : Ty} (h : wfT p 4 t) (hv : vdT p 4 t) (l : List Int) (d : Int) : gI p t (mkF p l 4 t 0 d).1 :=
 (jm _ _ _).2 ⟨(oX h l d).1,by have:=(oX h l d).2;omega,EK 4 t 0 d h hv⟩
def tA (p : ProgT) (id : IdT) : Prop:=cT p id/\¬ bare (aj p id)
instance (p : ProgT) (id : IdT) : Decidable (tA p id):=by unfold tA;exact inferInstance
def fT (p : ProgT) (d : DefT) (args : List Val) : Prop:=args.length = d.slots.length/\∀ x∈List.zip d.slots args,gI p x.1.ty x.2
instance (p : ProgT) (d : DefT) (args : List Val) : Decidable (fT p d args):=by unfold fT;exact inferInstance
theorem kA {p : ProgT} {d : DefT} {args : List Val} (h : fT p d args) : ∀ j (hj : j < args.length),gI p (d.slots[j]'(by have:=h.1;omega)).ty args[j]:=fun j hj=>by
 have h1:=h.1
 refine h.2 (d.slots[j],args[j]) ?_
 have : (List.zip d.slots args)[j]'(by simp;omega) = (d.slots[j],args[j]):=by simp
 rw [<-this]
 exact List.getElem_mem _
theorem tC {p : ProgT} {d : DefT} {args : List Val} (h1 : args.length = d.slots.length) (h : ∀ j (hj : j < args.length),gI p (d.slots[j]'(by omega)).ty args[j]) : fT p d args:=⟨h1,fun x hx=>by
 obtain ⟨j,hj,rfl⟩:=List.mem_iff_getElem.1 hx
 simp only [List.getElem_zip]
 exact h j (by simp at hj;omega)⟩
theorem Fs {p : ProgT} {d : DefT} {args : List Val} (h : fT p d args) : ∀ v∈args,v.size<=256:=fun v hv=>by
 obtain ⟨j,hj,rfl⟩:=List.mem_iff_getElem.1 hv
 exact ((jm _ _ _).1 (kA h j hj)).1
def nB : EO->Val×Int×Int
 | .ok x s=>(x,s,0)
 | .err k=>(v0,0,k)
 | .bad=>(v0,0,0)
def dj (p : ProgT) (g : Nat) (id : IdT) (args : List Val) (fuel : Int) : EO :=
 if tA p id then (if fT p (aj p id) args then BO p (max fuel 0) g (aj p id) args 0 else .err 1) else .err 6
theorem tj {p : ProgT} {d : DefT} {args : List Val} (h : fT p d args) : ∃ E,dg d.slots args [] = some E/\qG p (uo d) E :=
 xF h.1 fun j hj=>by
  have:=(jm _ _ _).1 (kA h j hj)
  exact ⟨this.2.2,this.1⟩
theorem FR {p : ProgT} {g : Nat} {d : DefT} (hp : TyP p) (hd : d∈p.defs) (hb : ¬ bare d) {args : List Val} (h : fT p d args) : ∃ E,dg d.slots args [] = some E/\qG p (uo d) E/\∀ fuel,dj p g d.id args fuel = aI p (max fuel 0) g d.body E 0:=by
 obtain ⟨E,h1,h2⟩:=tj h
 refine ⟨E,h1,h2,fun fuel=>?_⟩
 have ht:=hp.the d hd
 unfold dj
 rw [if_pos (show tA p d.id from ⟨⟨d,hd,rfl⟩,by rw [ht];exact hb⟩),ht,if_pos h]
 unfold BO
 rw [h1]
theorem FQ {p : ProgT} (hp : TyP p) {g : Nat} {id : IdT} {args : List Val} {fuel : Int} (hg : max fuel 0<=g) : dj p g id args fuel ≠ .bad:=by
 unfold dj
 split
 ·rename_i hb
  split
  ·rename_i hf
   obtain ⟨d,hd,hid⟩ : ∃ d∈p.defs,d.id = id:=hb.1
   have ht : aj p id = d:=by rw [<-hid];exact hp.the d hd
   obtain ⟨E,h1,h2⟩:=tj hf
   unfold BO
   rw [h1]
   dsimp only
   have hbd:=hp.body d hd (by rw [<-ht];exact hb.2)
   rw [ht] at h2 ⊢
   have:=pL hp (F:=max fuel 0) g hbd h2 (s:=0) (by omega)
   intro hc
   rw [hc] at this
   exact this
  ·exact fun h=>by cases h
 ·exact fun h=>by cases h
theorem yQ {p : ProgT} {g : Nat} {d : DefT} (hp : TyP p) (hd : d∈p.defs) (hb : ¬ bare d) {args : List Val} (h : fT p d args) {fuel : Int} (hg : max fuel 0<=g) : (∃ v n,dj p g d.id args fuel = .ok v n/\gI p d.result v/\0 < n/\n<=max fuel 0)\/∃ k,dj p g d.id args fuel = .err k/\(k = 18\/k = 4):=by
 obtain ⟨E,h1,h2,h3⟩:=FR (g:=g) hp hd hb h
 rw [h3]
 have ho:=pL hp (F:=max fuel 0) g (hp.body d hd hb) h2 (s:=0) (by omega)
 cases he : aI p (max fuel 0) g d.body E 0 with
 | ok v n =>
  rw [he] at ho
  have hs:=yH he
  have hm:=jc he
  exact .inl ⟨v,n,rfl,(jm _ _ _).2 ⟨hm.1,hm.2,ho.1⟩,hs⟩
 | err k=>rw [he] at ho;exact .inr ⟨k,rfl,ho⟩
 | bad=>rw [he] at ho;exact ho.elim
end Xe

namespace Go.Proofs.YtanbipbiblikbaaDoor
open Xe Pm
section
variable {p : ProgT} {l : List Int}
def mkO (r : MR) : St':=[[vI r.1.kind,vI r.1.n],[vI r.2],[vlD r.1.kids]]
def MkIs (p : ProgT) (l : List Int) (n : Nat) (t : Ty) (pos d : Int) : Prop:=IS s43 [pgL p,t.enc,[aK l],[vI pos],[vI d]] (mkO (mkF p l n t pos d))
theorem vL (v : Val) : [vI v.kind,vI v.n,vlD v.kids] = v.enc:=by rw [Val.ay];rfl
theorem vJ (dn : List Val) (v : Val) : D.sl (dn.length+1) 3 (dn.flatMap Val.enc++[vI v.kind,vI v.n,vlD v.kids]) = vlD (dn++[v]):=by
 rw [vL]
 unfold vlD
 simp
theorem make_is (hp : p.defs.length<=1000000) (hl : ∀ x∈l,InI x) : ∀ (n : Nat) (t : Ty) (pos d : Int),wfT p n t->0<=pos->pos+4 ^ n<=1000000000000->0<=d->d+n<=1000000->MkIs p l n t pos d:=by
 intro n
 induction n with
 | zero=>intro t pos d h;exact h.elim
 | succ n ih =>
  intro t pos d h h0 hb hd0 hdb
  have hpw : (1 : Int)<=4 ^ n:=Int.pow_pos (n:=4) (m:=n) (by decide)
  have hs4 : (4 : Int) ^ (n+1) = 4 ^ n * 4:=Int.pow_succ 4 n
  unfold MkIs
  have ht:=qR (l:=l) (n+1) t pos d h
  rw [mkF] at ht ⊢
  have hz:=cC l pos 1048576 (by omega)
  refine w43.is ?_
  unfold g43
  simp only [pmr,pms]
  refine ai (BY (by omega) hl) ?_
  simp only [pmr]
  generalize hz4 : atL l pos 1048576 = z4 at hz ht ⊢
  have d16 : z4.tdiv 16 = z4 / 16:=iw hz.1
  have m3 : (z4.tdiv 16).tmod 3 = (z4 / 16) % 3:=by rw [d16];exact bV (by omega)
  have m9 : (z4.tdiv 16).tmod 9 = (z4 / 16) % 9:=by rw [d16];exact bV (by omega)
  refine ⟨by unfold okI;omega,fun k0=>?_,fun k0=>⟨fun k1=>?_,fun k1=>⟨fun k2=>?_,fun k2=>?_⟩⟩⟩
  ·rw [if_pos k0]
   refine ⟨by decide,fun c=>⟨⟨by decide,by unfold okI;omega⟩,by decide,by unfold okI;omega,?_⟩,fun c=>⟨by decide,fun c2=>⟨⟨by decide,by unfold okI;omega⟩,by decide,by unfold okI;omega,?_⟩,fun c2=>⟨⟨by decide,by unfold okI;omega⟩,by decide,by unfold okI;omega,?_⟩⟩⟩
   ·rw [if_pos c];rfl
   ·rw [if_neg c,if_pos c2];rfl
   ·rw [if_neg c,if_neg c2];rfl
  ·rw [if_neg k0,if_pos k1]
   exact ⟨by decide,rfl⟩
  ·rw [if_neg k0,if_neg k1,if_pos k2]
   obtain ⟨w1,w2⟩:=fJ h k2
   rw [sB w1] at w2
   have w3 : t.kids.headD ty0 = t.kids[0]:=sB w1
   rw [w3]
   refine ⟨by decide,?_⟩
   generalize hm : (if 3 < d then 0 else (z4.tmod 3).toNat) = m
   have hm3 : m<=2:=by
    have : z4.tmod 3 = z4 % 3:=bV hz.1
    rw [<-hm];split <;> omega
   refine di [[aK l],[vI (pos+1)],[vI d],[vI (m : Int)],pgL p,t.enc,[vI 0,vI 0,.sl 0 3 []],[vI 4,vI 0],[.sl 0 3 []]] ?_ ?_
   ·have : z4.tmod 3 = z4 % 3:=bV hz.1
    refine ⟨fun c=>by rw [<-hm,if_pos c];rfl,fun c=>?_⟩
    rw [<-hm,if_neg c,Int.toNat_of_nonneg (by omega)]
   ·simp only [pmr]
    generalize hg : (fun u q=>mkF p l n u q (d+1)) = gg
    generalize hr : mkS gg (List.replicate m t.kids[0]) (pos+1) = r
    refine lT (σ:=Nat×List Val×Int) (fun x=>[[aK l],[vI x.2.2],[vI d],[vI (m : Int)],[vI (x.1 : Int)],pgL p,t.enc,[vI 0,vI 0,.sl 0 3 []],[vI 4,vI 0],[vlD x.2.1]]) (fun x=>m - x.1)
     (fun x=>x.1<=m/\x.2.1.length = x.1/\0<=x.2.2/\x.2.2<=pos+1+x.1 * 4 ^ n/\r = mJ x.2.1 (mkS gg ((List.replicate m t.kids[0]).drop x.1) x.2.2)) (0,[],pos+1) ⟨Nat.zero_le _,rfl,by show 0<=pos+1;omega,by show pos+1<=_;simp,by rw [<-hr];rfl⟩ rfl ?_
    rintro ⟨j,dn,q⟩ next ⟨h1,h2,h3,h4,h5⟩ hn
    dsimp only at h1 h2 h3 h4 h5 hn
    have hmul : (j : Int) * 4 ^ n<=2 * 4 ^ n:=Int.mul_le_mul_of_nonneg_right (by omega) (by omega)
    unfold vlD at hn ⊢
    simp only [pmr]
    refine ⟨fun hj=>?_,fun hj=>?_⟩
    ·have hlt : j < m:=by omega
     have hpos:=qR (l:=l) n t.kids[0] q (d+1) w2
     have e0 : el (t.kids.flatMap Ty.enc) 5 0 = t.kids[0].enc:=oM t.kids (k:=0) w1
     rw [e0]
     have hj2 : ((j+1 : Nat) : Int) * 4 ^ n = j * 4 ^ n+4 ^ n:=by rw [Int.natCast_add,Int.add_mul];simp
     have hlast : (j : Int) * 4 ^ n<=1 * 4 ^ n:=Int.mul_le_mul_of_nonneg_right (by omega) (by omega)
     refine ⟨⟨by decide,by omega⟩,by unfold okI;omega,ai (ih t.kids[0] q (d+1) w2 h3 (by omega) (by omega) (by omega)) ?_⟩
     unfold mkO vlD
     simp only [pmr]
     have hstep:=Bm (k:=j) (by rw [List.length_replicate];exact hlt) h5
     rw [List.getElem_replicate,<-hg] at hstep
     refine ⟨by unfold room;omega,by unfold okI;omega,?_⟩
     have:=hn (j+1,dn++[(mkF p l n t.kids[0] q (d+1)).1],(mkF p l n t.kids[0] q (d+1)).2) (by show m - (j+1) < m - j;omega) ⟨by show j+1<=m;omega,by simp [h2],by show 0<=(mkF p l n t.kids[0] q (d+1)).2;omega,by show (mkF p l n t.kids[0] q (d+1)).2<=pos+1+((j+1 : Nat) : Int) * 4 ^ n;omega,by rw [<-hg];exact hstep⟩
     have e:=vJ dn (mkF p l n t.kids[0] q (d+1)).1
     unfold vlD at e
     dsimp only at this
     rw [<-e] at this
     exact this
    ·obtain rfl : j = m:=by omega
     rw [EP (by simp) h5]
     rfl
  ·rw [if_neg k0,if_neg k1,if_neg k2]
   obtain ⟨w1,w2,w3⟩:=eY h k0 k1 k2
   refine ai (rDef_is p t.df (by omega)) ?_
   simp only [pmr,pms]
   generalize hdd : aj p t.df = dd at w1 w2 w3 ht ⊢
   refine ⟨fun kc=>?_,fun kc=>?_⟩
   ·rw [if_pos kc]
    have w2:=w2 kc
    have hm : z4.tmod dd.slots.length = z4 % dd.slots.length:=bV hz.1
    have hm0:=Int.emod_nonneg z4 (show (dd.slots.length : Int) ≠ 0 by omega)
    have hm1:=Int.emod_lt_of_pos z4 (show (0 : Int) < dd.slots.length by omega)
    rw [<-hm] at hm0 hm1
    generalize hi : z4.tmod dd.slots.length = iz at hm0 hm1 ht ⊢
    have hlt : iz.toNat < dd.slots.length:=by omega
    rw [lJ _ hlt]
    simp only [pms]
    have hty : (dd.slots.map SlotT.ty).getD iz.toNat ty0 = dd.slots[iz.toNat].ty:=by rw [List.getD_eq_getElem?_getD,List.getElem?_eq_getElem (by simpa using hlt)];simp
    rw [hty]
    refine ⟨by omega,⟨hm0,hm1⟩,by unfold okI;omega,ai (ih _ (pos+1) (d+1) (w3 _ (List.getElem_mem hlt)) (by omega) (by omega) (by omega) (by omega)) ?_⟩
    unfold mkO
    have e:=vL (mkF p l n dd.slots[iz.toNat].ty (pos+1) (d+1)).1
    unfold vlD at e ⊢
    simp only [pmr]
    rw [e]
    simp [Val.kids,Val.kind,Val.n]
   ·rw [if_neg kc]
    generalize hg : (fun u q=>mkF p l n u q (d+1)) = gg
    generalize hr : mkS gg (dd.slots.map SlotT.ty) (pos+1) = r
    refine di [[vI r.2],[vI 0,vI 0,.sl 0 3 []],[vI 2,vI 0],[vlD r.1]] ?_ ?_
    ·refine lT (σ:=Nat×List Val×Int) (fun x=>[[aK l],[vI x.2.2],[vI d],[vI (x.1 : Int)],pgL p,[vI 0,vI 0,.sl 0 3 []],[vI 2,vI 0],dd.enc,[vlD x.2.1]]) (fun x=>dd.slots.length - x.1)
      (fun x=>x.1<=dd.slots.length/\x.2.1.length = x.1/\0<=x.2.2/\x.2.2<=pos+1+x.1 * 4 ^ n/\r = mJ x.2.1 (mkS gg ((dd.slots.map SlotT.ty).drop x.1) x.2.2)) (0,[],pos+1) ⟨Nat.zero_le _,rfl,by show 0<=pos+1;omega,by show pos+1<=_;simp,by rw [<-hr];rfl⟩ rfl ?_
     rintro ⟨j,dn,q⟩ next ⟨h1,h2,h3,h4,h5⟩ hn
     dsimp only at h1 h2 h3 h4 h5 hn
     unfold vlD at hn ⊢
     simp only [pmr,pms]
     refine ⟨fun hj=>?_,fun hj=>?_⟩
     ·have hlt : j < dd.slots.length:=by omega
      have hw:=w3 _ (List.getElem_mem hlt)
      have hpos:=qR (l:=l) n dd.slots[j].ty q (d+1) hw
      rw [lJ _ hlt]
      simp only [pms]
      have hj2 : ((j+1 : Nat) : Int) * 4 ^ n = j * 4 ^ n+4 ^ n:=by rw [Int.natCast_add,Int.add_mul];simp
      have hlast : (j : Int) * 4 ^ n<=2 * 4 ^ n:=Int.mul_le_mul_of_nonneg_right (by omega) (by omega)
      refine ⟨⟨by omega,by omega⟩,by unfold okI;omega,ai (ih _ q (d+1) hw h3 (by omega) (by omega) (by omega)) ?_⟩
      unfold mkO vlD
      simp only [pmr]
      have hstep:=Bm (k:=j) (by rw [List.length_map];exact hlt) h5
      rw [List.getElem_map,<-hg] at hstep
      refine ⟨by unfold room;omega,by unfold okI;omega,?_⟩
      have:=hn (j+1,dn++[(mkF p l n dd.slots[j].ty q (d+1)).1],(mkF p l n dd.slots[j].ty q (d+1)).2) (by show dd.slots.length - (j+1) < dd.slots.length - j;omega) ⟨by show j+1<=_;omega,by simp [h2],by show 0<=(mkF p l n dd.slots[j].ty q (d+1)).2;omega,by show (mkF p l n dd.slots[j].ty q (d+1)).2<=pos+1+((j+1 : Nat) : Int) * 4 ^ n;omega,by rw [<-hg];exact hstep⟩
      have e:=vJ dn (mkF p l n dd.slots[j].ty q (d+1)).1
      unfold vlD at e
      dsimp only at this
      rw [<-e] at this
      exact this
     ·obtain rfl : j = dd.slots.length:=by omega
      rw [EP (by simp) h5]
    ·unfold vlD
     simp only [pmr]
     rfl
theorem Dp (hp : p.defs.length<=1000000) (hl : ∀ x∈l,InI x) {t : Ty} (h : wfT p 4 t) : IS s17 [pgL p,t.enc,[aK l]] [[vI (mkF p l 4 t 0 1).1.kind,vI (mkF p l 4 t 0 1).1.n],[vlD (mkF p l 4 t 0 1).1.kids]]:=by
 refine w17.is ?_
 unfold g17
 simp only [pmr]
 obtain ⟨h1,h2⟩:=oX h l 1
 have e:=vL (mkF p l 4 t 0 1).1
 refine ai (make_is hp hl 4 t 0 1 h (by omega) (by decide) (by omega) (by omega)) ?_
 unfold mkO vlD at *
 simp only [pmr]
 rw [e]
 refine ai (DN _ (by omega)) ?_
 simp only [pmr]
 refine ⟨fun c=>absurd c (by omega),fun _=>ai (Ck _ (by omega)) ?_⟩
 simp only [pmr]
 exact ⟨fun c=>absurd c (by omega),fun _=>trivial⟩
end
end Go.Proofs.YtanbipbiblikbaaDoor

namespace Xe
open Go
def eu (p : ProgT) : List DefT:=p.defs.filter fun d=>decide (¬ bare d)
def rB (p : ProgT) (n : Int) : DefT:=(eu p).getD (around n (eu p).length).toNat ku
def mR (p : ProgT) (d : DefT) (m : List Int) : List Val:=d.slots.mapIdx fun j s=>(mkF p (m.drop (7 * j)) 4 s.ty 0 1).1
theorem pW (p : ProgT) (d : DefT) (m : List Int) : (mR p d m).length = d.slots.length:=by unfold mR;simp
theorem vw (p : ProgT) (d : DefT) (m : List Int) {j : Nat} (h : j < d.slots.length) (h2 : j < (mR p d m).length) : (mR p d m)[j] = (mkF p (m.drop (7 * j)) 4 d.slots[j].ty 0 1).1:=List.getElem_mapIdx
theorem Cn (l : List Int) : ∃ d∈(aX l).defs,¬ bare d:=by
 obtain ⟨N,hN,hlk,_⟩:=jV l
 have hm : pF l (ax l)∈gA l:=by unfold gA bp eF;simp
 obtain ⟨j,hj,he⟩:=List.mem_iff_getElem.1 hm
 have hj0 : j < (aU l).length:=by unfold aU;rw [cx];exact hj
 have hj1 : j < (aX l).defs.length:=by rw [hlk.len];exact hj0
 refine ⟨_,List.getElem_mem hj1,?_⟩
 have h1:=(cL (hlk.get hj1 hj0)).2.1
 have h2 : (aU l)[j] = gV (gA l)[j] _ _:=cV _ _ _ hj hj0
 rw [h2,he] at h1
 unfold bare
 rw [h1]
 show ¬ ((2 : Int) = 0\/(2 : Int) = 1)
 decide
theorem tB (l : List Int) : 0 < (eu (aX l)).length:=by
 obtain ⟨d,hd,hb⟩:=Cn l
 exact List.length_pos_of_mem (List.mem_filter.2 ⟨hd,decide_eq_true hb⟩)
theorem some_ok {l : List Int} (n : Int) : rB (aX l) n∈(aX l).defs/\¬ bare (rB (aX l) n):=by
 have h0:=tB l
 have h1:=ig n (eu (aX l)).length (by omega)
 have hlt : (around n (eu (aX l)).length).toNat < (eu (aX l)).length:=by omega
 have hm : rB (aX l) n∈eu (aX l):=by
  unfold rB
  rw [kg hlt]
  exact List.getElem_mem hlt
 obtain ⟨h2,h3⟩:=List.mem_filter.1 hm
 exact ⟨h2,of_decide_eq_true h3⟩
theorem F5 {l : List Int} {d : DefT} (hd : d∈(aX l).defs) (m : List Int) : fT (aX l) d (mR (aX l) d m) :=
 tC (pW _ _ _) fun j hj=>by
  have hj' : j < d.slots.length:=by rw [pW] at hj;exact hj
  have h:=xQ l d hd _ (List.getElem_mem hj')
  rw [vw _ _ _ hj' hj]
  exact B3 h.1 h.2 _ _
end Xe

namespace Go.Proofs.YtanbipbiblikbaaDoor
open Xe Pm
theorem some_is {p : ProgT} {n : Int} (hn : InI n) (hp : p.defs.length<=1000000) (hk : ∀ d∈p.defs,0<=d.kind/\d.kind<=5) (h0 : 0 < (eu p).length) : IS s22 [pgL p,[vI n]] [(rB p n).enc]:=by
 refine w22.is ?_
 unfold g22
 simp only [pmr,pms]
 have hbl : (eu p).length<=p.defs.length:=List.length_filter_le _ _
 refine di [[vI n],[vI 0,vI 0,vI 0,vI 0,vI 0,vI 0,vI 0,.v (.string (ByteArray.mk #[])),.sl 0 11 [],vI 0,vI 0,vI 0,vI 0,.sl 0 5 [],vI 0,vI 0,vI 0,vI 0,vI 0,vI 0,vI 0,vI 0,vI 0,vI 0,vI 0,vI 0,.sl 0 5 [],.sl 0 15 [],.sl 0 1 [],vI 0,.sl 0 1 []],[.sl (eu p).length 31 ((eu p).flatMap DefT.enc)]] ?_ ?_
 ·refine cz p.defs.length (fun j=>[[vI n],[vI (j : Int)],pgL p,[vI 0,vI 0,vI 0,vI 0,vI 0,vI 0,vI 0,.v (.string (ByteArray.mk #[])),.sl 0 11 [],vI 0,vI 0,vI 0,vI 0,.sl 0 5 [],vI 0,vI 0,vI 0,vI 0,vI 0,vI 0,vI 0,vI 0,vI 0,vI 0,vI 0,vI 0,.sl 0 5 [],.sl 0 15 [],.sl 0 1 [],vI 0,.sl 0 1 []],
   [.sl ((p.defs.take j).filter fun d=>decide (¬ bare d)).length 31 (((p.defs.take j).filter fun d=>decide (¬ bare d)).flatMap DefT.enc)]]) (fun _=>True) trivial rfl fun j next hj _ hn=>?_
  simp only [pmr]
  refine ⟨fun h=>?_,fun h=>?_⟩
  ·have hlt : j < p.defs.length:=by omega
   have hfl : ((p.defs.take j).filter fun d=>decide (¬ bare d)).length<=p.defs.length:=Nat.le_trans (List.length_filter_le _ _) (by simp;omega)
   rw [iL _ hlt]
   have hnx:=hn hlt trivial
   rw [List.take_succ_eq_append_getElem hlt,List.filter_append] at hnx
   by_cases hb : bare p.defs[j]
   ·refine di [[vI n],[vI (j : Int)],pgL p,[vI 0,vI 0,vI 0,vI 0,vI 0,vI 0,vI 0,.v (.string (ByteArray.mk #[])),.sl 0 11 [],vI 0,vI 0,vI 0,vI 0,.sl 0 5 [],vI 0,vI 0,vI 0,vI 0,vI 0,vI 0,vI 0,vI 0,vI 0,vI 0,vI 0,vI 0,.sl 0 5 [],.sl 0 15 [],.sl 0 1 [],vI 0,.sl 0 1 []],[.sl ((p.defs.take j).filter fun d=>decide (¬ bare d)).length 31 (((p.defs.take j).filter fun d=>decide (¬ bare d)).flatMap DefT.enc)]] ?_ ?_
    ·refine ⟨by omega,ai (sC _ (hk _ (List.getElem_mem hlt))) ?_⟩
     simp only [pmr,pms]
     exact ⟨fun c=>absurd hb c,fun _=>trivial⟩
    ·simp only [pmr]
     refine ⟨by unfold okI;omega,?_⟩
     rw [List.filter_cons_of_neg (by simpa using hb),List.filter_nil,List.append_nil] at hnx
     exact hnx
   ·refine di [[vI n],[vI (j : Int)],pgL p,[vI 0,vI 0,vI 0,vI 0,vI 0,vI 0,vI 0,.v (.string (ByteArray.mk #[])),.sl 0 11 [],vI 0,vI 0,vI 0,vI 0,.sl 0 5 [],vI 0,vI 0,vI 0,vI 0,vI 0,vI 0,vI 0,vI 0,vI 0,vI 0,vI 0,vI 0,.sl 0 5 [],.sl 0 15 [],.sl 0 1 [],vI 0,.sl 0 1 []],[.sl (((p.defs.take j).filter fun d=>decide (¬ bare d)).length+1) 31 (((p.defs.take j).filter fun d=>decide (¬ bare d)).flatMap DefT.enc++(p.defs[j].enc++[]))]] ?_ ?_
    ·refine ⟨by omega,ai (sC _ (hk _ (List.getElem_mem hlt))) ?_⟩
     simp only [pmr,pms]
     exact ⟨fun _=>⟨by omega,by unfold room;omega,trivial⟩,fun c=>absurd hb c⟩
    ·simp only [pmr]
     refine ⟨by unfold okI;omega,?_⟩
     rw [List.filter_cons_of_pos (by simpa using hb),List.filter_nil,List.length_append,List.flatMap_append] at hnx
     exact hnx
  ·obtain rfl : j = p.defs.length:=by omega
   rw [List.take_length]
   rfl
 ·simp only [pmr]
  have h1:=ig n (eu p).length (by omega)
  have hlt : (around n (eu p).length).toNat < (eu p).length:=by omega
  refine ⟨fun c=>absurd c (by omega),fun _=>ai (mB (by omega) hn) ?_⟩
  simp only [pmr]
  rw [iL _ hlt]
  refine ⟨h1,?_⟩
  unfold rB
  rw [kg hlt]
theorem Dw (m : List Int) (k : Nat) : sub (m.map an) (k * 1) ((m.length - k) * 1) = (m.drop k).map an:=by
 unfold sub
 rw [Nat.mul_one,Nat.mul_one,<-List.map_drop,List.take_of_length_le (by simp)]
theorem args_is {l : List Int} {d : DefT} (hd : d∈(aX l).defs) {m : List Int} (hm : ∀ x∈m,InI x) (hml : m.length<=1000000000000000) : IS s23 [pgL (aX l),d.enc,[aK m]] [[vlD (mR (aX l) d m)]]:=by
 have hpc:=nr l
 have hpl:=hpc.len
 have hfew:=(nq l).few d hd
 have hlen:=pW (aX l) d m
 refine w23.is ?_
 unfold g23
 refine cz d.slots.length (fun j=>[[aK m],[vI (j : Int)],pgL (aX l),d.enc,[vlD ((mR (aX l) d m).take j)]]) (fun _=>True) trivial rfl fun j next hj _ hn=>?_
 unfold vlD aK at hn ⊢
 simp only [pmr,pms]
 refine ⟨fun h=>?_,fun h=>?_⟩
 ·have hlt : j < d.slots.length:=by omega
  rw [lJ _ hlt]
  simp only [pms]
  refine ⟨by omega,by unfold okI;omega,by omega,?_⟩
  have e7 : (min (7 * (j : Int)) (m.length : Int)).toNat = min (7 * j) m.length:=by omega
  rw [e7,Dw]
  have edr : m.drop (min (7 * j) m.length) = m.drop (7 * j):=by
   by_cases hc : 7 * j<=m.length
   ·rw [Nat.min_eq_left hc]
   ·rw [Nat.min_eq_right (by omega),List.drop_length,List.drop_of_length_le (by omega)]
  have eln : m.length - min (7 * j) m.length = (m.drop (7 * j)).length:=by rw [List.length_drop];omega
  rw [edr,eln]
  have hw:=xQ l d hd _ (List.getElem_mem hlt)
  refine ai (Dp (p:=aX l) (l:=m.drop (7 * j)) (by omega) (fun x hx=>hm x (List.mem_of_mem_drop hx)) hw.1) ?_
  have hal : j < (mR (aX l) d m).length:=by omega
  have hnx:=hn hlt trivial
  rw [List.take_succ_eq_append_getElem hal,vw _ _ _ hlt] at hnx
  have e:=vJ ((mR (aX l) d m).take j) (mkF (aX l) (m.drop (7 * j)) 4 d.slots[j].ty 0 1).1
  unfold vlD at e ⊢
  rw [<-e] at hnx
  simp only [pmr]
  refine ⟨by unfold room;simp;omega,by unfold okI;omega,hnx⟩
 ·obtain rfl : j = d.slots.length:=by omega
  rw [<-hlen,List.take_length]
open Xe
theorem mix : Tryd.prog.follows .mixedOrders = true:=by kernel_rfl
theorem cE : eL Tryd.prog 3 = true:=by kernel_rfl
theorem fm : eL Tryd.prog 24 = true:=by kernel_rfl
theorem Fl : eL Tryd.prog 30 = true:=by kernel_rfl
theorem flat40 : eL Tryd.prog 40 = true:=by kernel_rfl
theorem Af : eL Tryd.prog 46 = true:=by kernel_rfl
theorem gj : eL Tryd.prog 47 = true:=by kernel_rfl
theorem flat60 : eL Tryd.prog 60 = true:=by kernel_rfl
theorem flat133 : eL Tryd.prog 133 = true:=by kernel_rfl
theorem aE : fX Tryd.prog 26 3 = true:=by kernel_rfl
theorem tE : fX Tryd.prog 32 2 = true:=by kernel_rfl
theorem kE : fX Tryd.prog 35 3 = true:=by kernel_rfl
theorem agg38 : fX Tryd.prog 38 5 = true:=by kernel_rfl
theorem jG : fX Tryd.prog 50 15 = true:=by kernel_rfl
theorem lP : fX Tryd.prog 52 31 = true:=by kernel_rfl
theorem agg68 : fX Tryd.prog 68 11 = true:=by kernel_rfl
theorem Gc : fX Tryd.prog 144 4 = true:=by kernel_rfl
theorem qd : eV Tryd.prog 3 1 = true:=by kernel_rfl
theorem DI : eV Tryd.prog 24 1 = true:=by kernel_rfl
theorem aB : eV Tryd.prog 26 3 = true:=by kernel_rfl
theorem size50 : eV Tryd.prog 50 15 = true:=by kernel_rfl
theorem jR : eV Tryd.prog 52 31 = true:=by kernel_rfl
theorem DH : eV Tryd.prog 60 1 = true:=by kernel_rfl
theorem DG : eV Tryd.prog 68 11 = true:=by kernel_rfl
theorem en : sliceB Tryd.prog 24 26 3 = true:=by kernel_rfl
theorem A1 : sliceB Tryd.prog 30 52 31 = true:=by kernel_rfl
theorem A0 : sliceB Tryd.prog 46 68 11 = true:=by kernel_rfl
theorem iW : sliceB Tryd.prog 47 50 15 = true:=by kernel_rfl
theorem AZ : sliceB Tryd.prog 56 24 1 = true:=by kernel_rfl
theorem bM : cB Tryd.prog 26 1 1 = true:=by kernel_rfl
theorem cX : cB Tryd.prog 26 2 2 = true:=by kernel_rfl
theorem ve : cB Tryd.prog 32 1 1 = true:=by kernel_rfl
theorem mo : cB Tryd.prog 50 0 0 = true:=by kernel_rfl
theorem vc : cB Tryd.prog 50 1 3 = true:=by kernel_rfl
theorem ic : cB Tryd.prog 50 2 4 = true:=by kernel_rfl
theorem vb : cB Tryd.prog 50 3 5 = true:=by kernel_rfl
theorem cI : cB Tryd.prog 50 5 13 = true:=by kernel_rfl
theorem C4 : cB Tryd.prog 52 0 0 = true:=by kernel_rfl
theorem u9 : cB Tryd.prog 52 1 3 = true:=by kernel_rfl
theorem pK : cB Tryd.prog 52 4 8 = true:=by kernel_rfl
theorem C3 : cB Tryd.prog 52 6 14 = true:=by kernel_rfl
theorem C2 : cB Tryd.prog 68 0 0 = true:=by kernel_rfl
theorem C1 : cB Tryd.prog 68 2 4 = true:=by kernel_rfl
theorem Ao : cB Tryd.prog 131 0 0 = true:=by kernel_rfl
theorem An : cB Tryd.prog 131 1 2 = true:=by kernel_rfl
theorem kq : cB Tryd.prog 131 2 3 = true:=by kernel_rfl
theorem Am : cB Tryd.prog 146 0 0 = true:=by kernel_rfl
theorem Al : cB Tryd.prog 146 1 4 = true:=by kernel_rfl
theorem Ak : cB Tryd.prog 146 2 7 = true:=by kernel_rfl
theorem func12 : bC Tryd.prog 12 = true:=by kernel_rfl
theorem func28 : bC Tryd.prog 28 = true:=by kernel_rfl
theorem func31 : bC Tryd.prog 31 = true:=by kernel_rfl
theorem func32 : bC Tryd.prog 32 = true:=by kernel_rfl
theorem func33 : bC Tryd.prog 33 = true:=by kernel_rfl
theorem func34 : bC Tryd.prog 34 = true:=by kernel_rfl
theorem func53 : bC Tryd.prog 53 = true:=by kernel_rfl
theorem func56 : bC Tryd.prog 56 = true:=by kernel_rfl
theorem func57 : bC Tryd.prog 57 = true:=by kernel_rfl
theorem func61 : bC Tryd.prog 61 = true:=by kernel_rfl
theorem func62 : bC Tryd.prog 62 = true:=by kernel_rfl
theorem func63 : bC Tryd.prog 63 = true:=by kernel_rfl
theorem func71 : bC Tryd.prog 71 = true:=by kernel_rfl
theorem func73 : bC Tryd.prog 73 = true:=by kernel_rfl
theorem func74 : bC Tryd.prog 74 = true:=by kernel_rfl
theorem func88 : bC Tryd.prog 88 = true:=by kernel_rfl
theorem func89 : bC Tryd.prog 89 = true:=by kernel_rfl
theorem func91 : bC Tryd.prog 91 = true:=by kernel_rfl
theorem func102 : bC Tryd.prog 102 = true:=by kernel_rfl
theorem func103 : bC Tryd.prog 103 = true:=by kernel_rfl
theorem func104 : bC Tryd.prog 104 = true:=by kernel_rfl
theorem func111 : bC Tryd.prog 111 = true:=by kernel_rfl
theorem func112 : bC Tryd.prog 112 = true:=by kernel_rfl
theorem func113 : bC Tryd.prog 113 = true:=by kernel_rfl
theorem func135 : bC Tryd.prog 135 = true:=by kernel_rfl
theorem zero3 : eC Tryd.prog 3 = some (.int .i64 0):=by kernel_rfl
theorem aZ : eC Tryd.prog 26 = some (.agg [.int .i64 0,.int .i64 0,.slice none 0 0].toArray):=by kernel_rfl
theorem zero50 : eC Tryd.prog 50 = some (.agg [.int .i64 0,.int .i64 0,.int .i64 0,.int .i64 0,.int .i64 0,.int .i64 0,.int .i64 0,.int .i64 0,.int .i64 0,.int .i64 0,.int .i64 0,.int .i64 0,.slice none 0 0,.slice none 0 0,.slice none 0 0].toArray):=by kernel_rfl
theorem mV : eC Tryd.prog 52 = some (.agg [.int .i64 0,.int .i64 0,.int .i64 0,.int .i64 0,.int .i64 0,.int .i64 0,.int .i64 0,.string ByteArray.empty,.slice none 0 0,.int .i64 0,.int .i64 0,.int .i64 0,.int .i64 0,.slice none 0 0,.int .i64 0,.int .i64 0,.int .i64 0,.int .i64 0,.int .i64 0,.int .i64 0,.int .i64 0,.int .i64 0,.int .i64 0,.int .i64 0,.int .i64 0,.int .i64 0,.slice none 0 0,.slice none 0 0,.slice none 0 0,.int .i64 0,.slice none 0 0].toArray):=by kernel_rfl
theorem zero60 : eC Tryd.prog 60 = some (.int .i64 0):=by kernel_rfl
theorem Dk : eC Tryd.prog 68 = some (.agg [.int .i64 0,.int .i64 0,.int .i64 0,.string ByteArray.empty,.int .i64 0,.int .i64 0,.int .i64 0,.int .i64 0,.slice none 0 0,.int .i64 0,.int .i64 0].toArray):=by kernel_rfl
theorem zero131 : eC Tryd.prog 131 = some (.agg [.slice none 0 0,.slice none 0 0,.int .i64 0,.int .i64 0].toArray):=by kernel_rfl
theorem AK : eC Tryd.prog 144 = some (.agg [.int .i64 0,.int .i64 0,.int .i64 0,.int .i64 0].toArray):=by kernel_rfl
theorem zero146 : eC Tryd.prog 146 = some (.agg [.int .i64 0,.int .i64 0,.int .i64 0,.int .i64 0,.int .i64 0,.int .i64 0,.slice none 0 0,.pointer none].toArray):=by kernel_rfl
theorem pN : ElemOk Tryd.prog 24 26 3 40:=ElemOk.mk' (z:=.agg [.int .i64 0,.int .i64 0,.slice none 0 0].toArray) Tryd.underlying24 (by kernel_rfl) rfl rfl
theorem FB : ElemOk Tryd.prog 56 24 1 24:=ElemOk.mk' (z:=.slice none 0 0) Tryd.underlying56 (by kernel_rfl) rfl rfl
theorem cu : iY Tryd.prog 26 = some [(0,1),(1,1),(2,1)]:=by kernel_rfl
theorem DV : iY Tryd.prog 52 = some [(0,3),(3,1),(4,3),(7,1),(8,1),(9,5),(14,15),(29,1),(30,1)]:=by kernel_rfl
theorem Cq : iY Tryd.prog 131 = some [(0,2),(2,1),(3,1)]:=by kernel_rfl
theorem uE : iY Tryd.prog 144 = some [(0,3),(3,1)]:=by kernel_rfl
theorem Cp : iY Tryd.prog 146 = some [(0,4),(4,3),(7,1)]:=by kernel_rfl
end Go.Proofs.YtanbipbiblikbaaDoor
