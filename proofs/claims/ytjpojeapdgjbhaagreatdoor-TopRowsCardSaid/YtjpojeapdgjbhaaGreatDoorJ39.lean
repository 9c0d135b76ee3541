/- part -/
import Derived.Test.YtjpojeapdgjbhaaGreatDoorJ38

